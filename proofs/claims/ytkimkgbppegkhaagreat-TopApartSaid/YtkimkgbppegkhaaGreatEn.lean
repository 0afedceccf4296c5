/- The clean machine's walks of peers (11): one that is told. · The clean machine's walks of peers (12): one that hears. -/
import Derived.Test.YtkimkgbppegkhaaGreatEl
set_option linter.unusedVariables false
set_option linter.unusedSimpArgs false
namespace Go.Proofs.YtkimkgbppegkhaaGreat.Cm
open Go Go.RowKit Go.Proofs.YtkimkgbppegkhaaGreat.Gf
set_option maxRecDepth 1000000
/-- whom one knows -/
structure b5(P n:Nat)(kn:List Nat):Prop where
 le:P≤4
 nlt:n<P
 nod:kn.Nodup
 self:n∉kn
 lt:∀k∈kn,k<P
theorem b5.len{P n:Nat}{kn:List Nat}(h:b5 P n kn):kn.length≤3:=by
 have h1:(n::kn).Nodup:=List.nodup_cons.2 ⟨h.self,h.nod⟩
 have h2:(n::kn) ⊆ List.range 4:=fun a ha=>by
  have:=h.le
  have:=h.nlt
  rcases List.mem_cons.1 ha with rfl | ha
  ·exact List.mem_range.2 om
  ·exact List.mem_range.2 (by have:=h.lt a ha;omega)
 have:=h1.length_le_of_subset h2
 simp at this
 omega
theorem b5.cons{P n k:Nat}{kn:List Nat}(h:b5 P n kn)(hk:k<P)(h1:k≠n)(h2:k∉kn):b5 P n (k::kn):=⟨h.le,h.nlt,List.nodup_cons.2 ⟨h2,h.nod⟩,fun q=>(List.mem_cons.1 q).elim (fun e=>h1 e.symm) h.self,fun a ha=>(List.mem_cons.1 ha).elim (fun e=>e▸hk) (h.lt a)⟩
theorem b5.lt3{P n k:Nat}{kn:List Nat}(h:b5 P n kn)(hk:k<P)(h1:k≠n)(h2:k∉kn):kn.length<3:=by
 have:=(h.cons hk h1 h2).len
 simp at this
 omega
theorem b5.add{P n k:Nat}{kn:List Nat}(h:b5 P n kn)(hk:k<P):b5 P n (bp n kn k):=by
 unfold bp
 split
 ·exact h
 ·rename_i q
  have q1:k≠n:=fun e=>q (.inl e)
  have q2:k∉kn:=fun e=>q (.inr e)
  exact⟨h.le,h.nlt,List.nodup_append.2 ⟨h.nod,sm,fun a ha b hb e=>by rw[List.mem_singleton]at hb;subst hb;subst e;exact q2 ha⟩,fun e=>by rcases List.mem_append.1 e with e | e;exact h.self e;rw[List.mem_singleton]at e;exact q1 e.symm,fun a ha=>by rcases List.mem_append.1 ha with e | e;exact h.lt a e;rw[List.mem_singleton]at e;rw[e];exact hk⟩
theorem b5.adds{P n:Nat}:∀{ps kn:List Nat},b5 P n kn→(∀k∈ps,k<P)→b5 P n (ps.foldl (bp n) kn)
 |[],_,h,_=>h
 |k::ps,kn,h,hp=>b5.adds (ps:=ps) (kn:=bp n kn k) (h.add (hp k sm)) fun a ha=>hp a (by simp[ha])
theorem BV{X:Heap}{n:Nat}{oid bid:Nat}{o:bI}{lid:Nat}{fr:F}{w:Wt}(ho:X oid=some (.cells [iN o.tag,iN o.ip,iN o.ik,.ptr lid 0,fr] true))(hb:X bid=some (.cells (i3 w) true))(ht:ap X n):af 193 [vf (.ptr (oid) (0)),vf (.ptr (bid) (0))] X n fun v _=>v=vf (.bool (decide (o.tag=w.op))):=by
 refine af.of_to kr ?_
 have s0:aa X X n (cat [[]]):=aa.ini ht
 have hm0:ab X X:=ab.rfl
 by_cases h:o.tag=w.op
 ·refine ah 1 (sq (dw [0,1,2,3,4,5,6,7] (sg [0,1,2] (sr (some 7) (oid) trivial (am (off:=0) (s0.mono _ _ ho) rfl) (sg [4] (sr (some 9) (bid) trivial (am (off:=1) (s0.mono _ _ hb) rfl) (ss (some 10) (au (lA (o.tag) (w.op) om)) (sg [7] (sx (nx (rt ?_)))))))))))
  exact⟨.inr rfl,_,kr,X,_,s0,hm0,by rw[decide_eq_true h]⟩
 ·refine ah 1 (sq (dw [0,1,2,3,4,5,6,7] (sg [0,1,2] (sr (some 7) (oid) trivial (am (off:=0) (s0.mono _ _ ho) rfl) (sg [4] (sr (some 9) (bid) trivial (am (off:=1) (s0.mono _ _ hb) rfl) (ss (some 10) (au (jR (o.tag) (w.op) om)) (sg [7] (sx (nx (rt ?_)))))))))))
  exact⟨.inr rfl,_,kr,X,_,s0,hm0,by rw[decide_eq_false h]⟩
theorem CX{X:Heap}{n:Nat}{pid:Nat}{s:aq}{P0:List (Nat×O)}(hpe:bz X pid s P0){now Q kind frm to tag ip ik:Nat}{fp fq:F}{ps:List Nat}{rs:List Rg}(hp:bo X fp ps)(hq:ck X fq rs)(hkn:b5 Q s.n s.kn)(hps:∀k∈ps,k<Q)(hpl:ps.length<1000)(hws:s.ws.length≤1000)(hop0:s.op=none)(hno:s.ws.filter (fun w=>decide (w.tag=tag∧w.peer=frm))=[]):al 137 [vf (.ptr (pid) (0)),vi now,.u (.agg [iN kind,iN frm,iN to,iN tag,iN ip,iN ik,fp,fq])] X n (P0) fun v X' P'=>v=.tup [.f .sl0,.f .sl0]∧bz X' pid {s with ws:=s.ws.filter (fun w=> !decide (w.tag=tag∧w.peer=frm)),kn:=ps.foldl (bp s.n) s.kn} P':=by
 obtain⟨sid,tid,opf,lf,wf,Pw,Ps,Pt,Po,rfl,hw,hcw,hst,htk,hop⟩:=hpe
 refine al.of_to (Ps:=[[(pid,.cells [.ptr (sid) (0),.ptr (tid) (0),iN s.n,iN 9000,iN s.last,iN 0,iN s.tag,opf,lf,iN s.wl] true)],Pw,Ps,Pt,Po]) kr fun R H0 s0=>?_
 have hm0:ab X X:=ab.rfl
 refine ag ?_
 obtain⟨_,s1,J⟩:=ay s0 (.cells [iN kind,iN frm,iN to,iN tag,iN ip,iN ik,fp,fq] true)
 refine ov 5 (J _ _ (vf (.ptr (n) (0)))) ?_
 obtain⟨_,m,s2,f1⟩:=aa.frzC s1
 have hop:=hop.mono m
 have hbx:=f1
 rw[hop0]at hop
 have s3:=aa.outAt [] [] s2
 have s4:=aa.pck [_] [_,_,_,_] [_,_] s3
 refine ae 2 (sq (dw [0,1,2,3,4,5,6,7,8,9,11,12,10,13] (sg [0,1,2,3] (sr (some 21) (n) trivial (am (off:=3) (s4.mono _ _ f1) rfl) (sg [5] (sr (some 23) (n) trivial (am (off:=1) (s4.mono _ _ f1) rfl) ?_))))))
 obtain⟨_,W,_,n1,Q8,m1,s5,J,⟨⟨lf2,wf2,Pw2,rfl,hw2,hcw2⟩,rfl⟩⟩:=((uS (pid:=pid) (q0:=.ptr sid 0) (q1:=.ptr tid 0) (q2:=iN s.n) (q3:=iN 9000) (q4:=iN s.last) (q5:=iN 0) (q6:=iN s.tag) (q7:=opf) (last:=s.wl) (ws:=s.ws) (P0:=cat [[(pid,.cells [.ptr (sid) (0),.ptr (tid) (0),iN s.n,iN 9000,iN s.last,iN 0,iN s.tag,opf,lf,iN s.wl] true)],Pw]) ⟨lf,wf,Pw,rfl,hw,hcw⟩ hws (tag:=tag) (peer:=frm)).imp (Post':=fun v _ P'=>fE pid (.ptr sid 0) (.ptr tid 0) (iN s.n) (iN 9000) (iN s.last) (iN 0) (iN s.tag) opf s.wl (s.ws.filter (fun w=> !decide (w.tag=tag∧w.peer=frm))) P'∧v=.tup [.agg [iN 0,iN 0,iN 0,iN 0],.f (.bool false)]) fun v _ P' h=>⟨h.1,h.2.elim And.left fun q=>by obtain⟨w,h1,h2,h3,_⟩:=q;have:=List.mem_filter (p:=fun w:Wt=>decide (w.tag=tag∧w.peer=frm)).2 ⟨h1,decide_eq_true (show w.tag=tag∧w.peer=frm from⟨h2,h3⟩)⟩;rw[hno]at this;cases this⟩).on [_] [_,_,_,_] s4
 have f2:=m1 _ _ f1
 have hm0:=hm0.tr (m.tr m1)
 have hst:=hst.mono (m.tr m1)
 have hop:=hop.mono m1
 have hp:=aO (m.tr m1) hp
 have hbx:=m1 _ _ hbx
 refine sf (some 24) (J _ _) (oR kr) ?_
 have s6:=aa.unp [_] [_,_,_,_] [_,_] s5
 have s7:=aa.inn [] [_,_,_,_,_] s6
 refine sg [8,9] ?_
 obtain⟨_,s8,J⟩:=ay s7 (.cells [.int .i64 0,.int .i64 0,.int .i64 0,.int .i64 0] true)
 refine sf (some 8) (J _ _ (vf (.ptr (n1) (0)))) ⟨ke (s7.mono _ _ f2) (s8.mono _ _ f2),ke (s7.mono _ _ f2) (s8.mono _ _ f2),trivial⟩ ?_
 obtain⟨_,s9,J⟩:=aI (off:=0) (new:=[iN 0,iN 0,iN 0,iN 0]) (cs':=[iN 0,iN 0,iN 0,iN 0]) s8 0 rfl sm rfl
 refine sf none (J _ _) (oR kr) (sg [10,13] (sx (nx (aP 1 (ov 28 (ld 6 (s9.mono _ _ f2) rfl) (ov 29 (lv ps.length ((cQ hp).trans (by simp[is]))) (ae 1 (bk 0 (lp (aC.for (ps.length) (fun i A Hq nq=>∃(Y:Heap) (S1:List Nat) (P1:List (Nat×O)),aL A [(0,vf (.ptr (pid) (0))),(1,vi now),(5,vf (.ptr (n) (0))),(8,vf (.ptr (n1) (0))),(9,vf (.bool false)),(28,vf (fp)),(29,vi ps.length),(30,vi i)]∧aa Y Hq nq (cat [[(n1,.cells [iN 0,iN 0,iN 0,iN 0] true),(pid,.cells [.ptr (sid) (0),.ptr (tid) (0),iN s.n,iN 9000,iN s.last,iN 0,iN s.tag,opf,lf2,iN s.wl] true)],Pw2,Ps,P1,Po,R])∧(ab X Y)∧(bo Y fp ps)∧(eZ tid s.n S1 P1)∧(S1=(ps.take i).foldl (bp s.n) s.kn)∧(Y (n)=some (.cells [iN kind,iN frm,iN to,iN tag,iN ip,iN ik,fp,fq] true))∧(bZ Y sid s.st Ps)) ⟨W,s.kn,Pt,az (ts:=[0,1,5,8,9,28,29,30]) kr,s9,(hm0),(hp),(htk),(rfl),(hbx),(hst)⟩ (fun i A H n2 hi hI=>?_) (fun A H n2 hI=>?_)))))))))))
 ·obtain⟨Y,S1,P1,qA,s10,hm0,hp,htk,hS1,hbx,hst⟩:=hI
  refine To.keep _ ?_ qA.sub
  obtain⟨id,off,cap,rfl,hat⟩:=cW hp (by simp[is];omega)
  have hll:=dI ps
  obtain⟨q,hq1⟩:∃q,ps[i]?=some q:=⟨_,List.getElem?_eq_getElem hi⟩
  have hqP:=hps q (List.mem_of_getElem? hq1)
  refine ag (ov 31 (lT i ps.length) (aQ (aM (nx (aD 1 (ag (ov 32 (ix id off 1 ((is ps).length) i) (ov 33 (lx id (off+i*1) (iN q) (by rw[Nat.mul_one];exact(hat i _ (jd hq1)).mono (s10.mono _))) ?_))))))))
  have hkS:b5 Q s.n S1:=by rw[hS1];exact hkn.adds fun a ha=>hps a (List.mem_of_mem_take ha)
  have hkl:=hkS.len
  refine ae 1 (rg (go 3 (ov 37 (ld 1 (s10.at 1 rfl) rfl) (go 1 ?_))))
  obtain⟨_,W,_,_,P2,m2,s11,J,⟨rfl,htk⟩⟩:=(jH (k:=q) htk om (fun h1 h2=>hkS.lt3 hqP h1 h2)).on [_,_,_] [_,_] s10
  have f3:=m2 _ _ hbx
  have hm0:=hm0.tr m2
  have hp:=aO m2 hp
  have hbx:=m2 _ _ hbx
  have hst:=hst.mono m2
  refine ov 39 (J _ _) (aj (rg (ov 40 (aN i 1) (aR 1 ?_))))
  exact .inl ⟨rfl,W,_,_,az (ts:=[0,1,5,8,9,28,29,30]) kr,s11,(hm0),(hp),(htk),(by rw[hS1,bU hq1,List.foldl_append];rfl),(hbx),(hst)⟩
 ·obtain⟨Y,S1,P1,qA,s12,hm0,hp,htk,hS1,hbx,hst⟩:=hI
  refine To.keep _ ?_ qA.sub
  refine ag (ov 31 (lF ps.length ps.length) (aj ?_))
  rw[List.take_length]at hS1
  obtain⟨_,m3,s13,_⟩:=aa.frzAt [] [_] s12
  refine sq (iF (xt 0 ?_))
  refine⟨sm,?_⟩
  show To Tryz.prog 137 [1,1,1] _ _ _ _
  refine ai 3 (ov 44 (ld 7 (s13.at 0 rfl) rfl) (go 1 ?_))
  obtain⟨_,W,_,_,Po,m4,s14,J,⟨rfl,rfl⟩⟩:=(af.borrow (Q:=Po) (Post:=fun v=>v=vf (.int .i64 (-1))) fun Y h1 h2 h3=>(oj (g:=193) (cs:=[]) (caps:=[.ptr (n1) 0]) (fun _=>false) (hop.rowY h2) sm kr (fun i x hx=>by simp at hx) h3).imp (Post':=fun v _=>v=vf (.int .i64 (-1))) fun v _ h=>(by rcases h with⟨i,hi,_⟩|⟨_,h⟩;exact absurd hi sm;exact h)).on [_,_,_,_] [_] s13
  have hm0:=hm0.tr (m3.tr m4)
  have hst:=hst.mono (m3.tr m4)
  refine ov 46 (J _ _) (ae 1 (sq (ah 6 (iT (ah 2 (rt ?_))))))
  exact⟨.inr rfl,_,kr,W,_,aa.fin (Ps:=[_,_,_,_,_]) s14,hm0,rfl,by rw[←hS1];exact⟨sid,tid,opf,lf2,wf2,Pw2,Ps,P1,Po,rfl,hw2,hcw2,hst,htk,by rw[hop0];exact hop⟩⟩
theorem av.one1{f x:F}{M:List (Nat×O)}(h:av 1 f [x] M):∃k cs ex,f=.sl k 0 1 1 none∧M=[(k,.cells cs ex)]∧cs[0]?=some x:=by
 rcases h with⟨_,h,_⟩|⟨k,len,cs,ex,rfl,rfl,h1,h2⟩
 ·cases h
 ·have h3:=congrArg List.length h2
  rw[List.length_take,List.length_singleton]at h3
  obtain rfl:len=1:=by omega
  have h4:=congrArg (fun l=>l[0]?) h2
  rw[List.getElem?_take]at h4
  exact⟨k,cs,ex,rfl,rfl,by simpa using h4.symm⟩
theorem Cf{X:Heap}{n:Nat}{pid oid:Nat}{s:aq}{o:bI}{P0:List (Nat×O)}(hpo:cq X pid oid s o P0){now Q kind frm to tag ip ik:Nat}{fp fq:F}{ps:List Nat}{u B N M:Nat}{rcs:List Rc}(hp:bo X fp ps)(hq:ck X fq (rcs.map (aY o.ip o.ik u B N M)))(hkn:b5 Q s.n s.kn)(hps:∀k∈ps,k<Q)(hpl:ps.length<1000)(hws:s.ws.length≤1000)(hnow:now≤1000)(hw0:∃w,w∈s.ws∧w.tag=tag∧w.peer=frm)(hw1:∀w∈s.ws,w.tag=tag→w.peer=frm→w.op=o.tag)(hwl:s.wl<1000000)(hdn:∀q∈rcs,0<q.d.length∧q.d.length<1000)(hkl:(bE s.n o.kn ps).length<1000)(hkl0:o.kn.length<1000)(hak:o.ak.length<1000)(hopl:o.opn.length<1000)(hin:frm∈o.opn)(hro:eA {o with rs:=o.rs++(rcs.map (aY o.ip o.ik u B N M)),kn:=bE s.n o.kn ps,opn:=iM o.opn frm})(hrl4:(o.rs++(rcs.map (aY o.ip o.ik u B N M))).length<4000)(hrl5:rcs.length<1000):al 137 [vf (.ptr (pid) (0)),vi now,.u (.agg [iN kind,iN frm,iN to,iN tag,iN ip,iN ik,fp,fq])] X n (P0) fun v X' P'=>∃a b ls an,v=.tup [.f a,.f b]∧bS X' a ls∧c9 X' b an∧ls.length≤1∧an.length≤1∧fI now X' pid oid {s with ws:=s.ws.filter (fun w=> !decide (w.tag=tag∧w.peer=frm)),kn:=ps.foldl (bp s.n) s.kn} {o with rs:=o.rs++(rcs.map (aY o.ip o.ik u B N M)),kn:=bE s.n o.kn ps,opn:=iM o.opn frm} ls an P':=by
 obtain⟨sid,tid,lid,opf,lf,fr,wf,frs,Pw,Ps,Pt,Pa,Pl,Pr,rfl,hw,hcw,hst,htk,ha,hl,hr,hcr⟩:=hpo
 refine al.of_to (Ps:=[[(pid,.cells [.ptr (sid) (0),.ptr (tid) (0),iN s.n,iN 9000,iN s.last,iN 0,iN s.tag,opf,lf,iN s.wl] true),(oid,.cells [iN o.tag,iN o.ip,iN o.ik,.ptr (lid) (0),fr] true)],Pw,Ps,Pt,Pa,Pl,Pr]) kr fun R H0 s0=>?_
 have hm0:ab X X:=ab.rfl
 refine ag ?_
 obtain⟨_,s1,J⟩:=ay s0 (.cells [iN kind,iN frm,iN to,iN tag,iN ip,iN ik,fp,fq] true)
 refine ov 5 (J _ _ (vf (.ptr (n) (0)))) ?_
 obtain⟨_,m1,s2,f1⟩:=aa.frzC s1
 have hbx:=f1
 have s3:=aa.outAt [] [_] s2
 have s4:=aa.pck [_] [_,_,_,_,_,_] [_,_] s3
 refine ae 2 (sq (dw [0,1,2,3,4,5,6,7,8,9,11,12,10,13] (sg [0,1,2,3] (sr (some 21) (n) trivial (am (off:=3) (s4.mono _ _ f1) rfl) (sg [5] (sr (some 23) (n) trivial (am (off:=1) (s4.mono _ _ f1) rfl) ?_))))))
 obtain⟨_,W,_,n1,Q8,m2,s5,J,⟨⟨lf2,wf2,Pw2,rfl,hw2,hcw2⟩,w,hwm,hwt,hwp,rfl⟩⟩:=((uS (pid:=pid) (q0:=.ptr sid 0) (q1:=.ptr tid 0) (q2:=iN s.n) (q3:=iN 9000) (q4:=iN s.last) (q5:=iN 0) (q6:=iN s.tag) (q7:=opf) (last:=s.wl) (ws:=s.ws) (P0:=cat [[(pid,.cells [.ptr (sid) (0),.ptr (tid) (0),iN s.n,iN 9000,iN s.last,iN 0,iN s.tag,opf,lf,iN s.wl] true)],Pw]) ⟨lf,wf,Pw,rfl,hw,hcw⟩ hws (tag:=tag) (peer:=frm)).imp (Post':=fun v _ P'=>fE pid (.ptr sid 0) (.ptr tid 0) (iN s.n) (iN 9000) (iN s.last) (iN 0) (iN s.tag) opf s.wl (s.ws.filter (fun w=> !decide (w.tag=tag∧w.peer=frm))) P'∧∃w,w∈s.ws∧w.tag=tag∧w.peer=frm∧v=.tup [.agg (i3 w),.f (.bool true)]) fun v _ P' h=>⟨h.1,h.2.elim (fun q=>by obtain⟨w,h1,h2,h3⟩:=hw0;have:=List.mem_filter (p:=fun w:Wt=>decide (w.tag=tag∧w.peer=frm)).2 ⟨h1,decide_eq_true (show w.tag=tag∧w.peer=frm from⟨h2,h3⟩)⟩;rw[q.2]at this;cases this) id⟩).on [_] [_,_,_,_,_,_] s4
 have f2:=m2 _ _ f1
 have hm0:=hm0.tr (m1.tr m2)
 have hst:=hst.mono (m1.tr m2)
 have hcr:=hcr.mono fun _ _ q=>q.mono _ _ _ _ (m1.tr m2)
 have hp:=aO (m1.tr m2) hp
 have hq:=hq.mono (m1.tr m2)
 have hbx:=m2 _ _ hbx
 refine sf (some 24) (J _ _) (oR kr) ?_
 have s6:=aa.unp [_] [_,_,_,_,_,_] [_,_] s5
 have s7:=aa.inn [] [_,_,_,_,_,_,_] s6
 refine sg [8,9] ?_
 obtain⟨_,s8,J⟩:=ay s7 (.cells [.int .i64 0,.int .i64 0,.int .i64 0,.int .i64 0] true)
 refine sf (some 8) (J _ _ (vf (.ptr (n1) (0)))) ⟨ke (s7.mono _ _ f2) (s8.mono _ _ f2),ke (s7.mono _ _ f2) (s8.mono _ _ f2),trivial⟩ ?_
 obtain⟨_,s9,J⟩:=aI (off:=0) (new:=[iN w.tag,iN w.op,iN w.peer,iN w.til]) (cs':=[iN w.tag,iN w.op,iN w.peer,iN w.til]) s8 0 rfl sm rfl
 refine sf none (J _ _) (oR kr) (sg [10,13] (sx (nx (aP 1 (ov 28 (ld 6 (s9.mono _ _ f2) rfl) (ov 29 (lv ps.length ((cQ hp).trans (by simp[is]))) (ae 1 (bk 0 (lp (aC.for (ps.length) (fun i A Hq nq=>∃(Y:Heap) (S1:List Nat) (P1:List (Nat×O)),aL A [(0,vf (.ptr (pid) (0))),(1,vi now),(5,vf (.ptr (n) (0))),(8,vf (.ptr (n1) (0))),(9,vf (.bool true)),(28,vf (fp)),(29,vi ps.length),(30,vi i)]∧aa Y Hq nq (cat [[(n1,.cells [iN w.tag,iN w.op,iN w.peer,iN w.til] true),(pid,.cells [.ptr (sid) (0),.ptr (tid) (0),iN s.n,iN 9000,iN s.last,iN 0,iN s.tag,opf,lf2,iN s.wl] true),(oid,.cells [iN o.tag,iN o.ip,iN o.ik,.ptr (lid) (0),fr] true)],Pw2,Ps,P1,Pa,Pl,Pr,R])∧(ab X Y)∧(bo Y fp ps)∧(eZ tid s.n S1 P1)∧(S1=(ps.take i).foldl (bp s.n) s.kn)∧(Y (n)=some (.cells [iN kind,iN frm,iN to,iN tag,iN ip,iN ik,fp,fq] true))∧(bZ Y sid s.st Ps)∧(ck Y fq (rcs.map (aY o.ip o.ik u B N M)))∧(aA (aV Y) 10 o.rs frs)) ⟨W,s.kn,Pt,az (ts:=[0,1,5,8,9,28,29,30]) kr,s9,(hm0),(hp),(htk),(rfl),(hbx),(hst),(hq),(hcr)⟩ (fun i A H n2 hi hI=>?_) (fun A H n2 hI=>?_)))))))))))
 ·obtain⟨Y,S1,P1,qA,s10,hm0,hp,htk,hS1,hbx,hst,hq,hcr⟩:=hI
  refine To.keep _ ?_ qA.sub
  obtain⟨id,off,cap,rfl,hat⟩:=cW hp (by simp[is];omega)
  have hll:=dI ps
  obtain⟨q,hq1⟩:∃q,ps[i]?=some q:=⟨_,List.getElem?_eq_getElem hi⟩
  have hqP:=hps q (List.mem_of_getElem? hq1)
  refine ag (ov 31 (lT i ps.length) (aQ (aM (nx (aD 1 (ag (ov 32 (ix id off 1 ((is ps).length) i) (ov 33 (lx id (off+i*1) (iN q) (by rw[Nat.mul_one];exact(hat i _ (jd hq1)).mono (s10.mono _))) ?_))))))))
  have hkS:b5 Q s.n S1:=by rw[hS1];exact hkn.adds fun a ha=>hps a (List.mem_of_mem_take ha)
  have hkl:=hkS.len
  refine ae 1 (rg (go 3 (ov 37 (ld 1 (s10.at 1 rfl) rfl) (go 1 ?_))))
  obtain⟨_,W,_,_,P2,m3,s11,J,⟨rfl,htk⟩⟩:=(jH (k:=q) htk om (fun h1 h2=>hkS.lt3 hqP h1 h2)).on [_,_,_] [_,_,_,_] s10
  have f3:=m3 _ _ hbx
  have hm0:=hm0.tr m3
  have hp:=aO m3 hp
  have hbx:=m3 _ _ hbx
  have hst:=hst.mono m3
  have hq:=hq.mono m3
  have hcr:=hcr.mono fun _ _ q=>q.mono _ _ _ _ m3
  refine ov 39 (J _ _) (aj (rg (ov 40 (aN i 1) (aR 1 ?_))))
  exact .inl ⟨rfl,W,_,_,az (ts:=[0,1,5,8,9,28,29,30]) kr,s11,(hm0),(hp),(htk),(by rw[hS1,bU hq1,List.foldl_append];rfl),(hbx),(hst),(hq),(hcr)⟩
 ·obtain⟨Y,S1,P1,qA,s12,hm0,hp,htk,hS1,hbx,hst,hq,hcr⟩:=hI
  refine To.keep _ ?_ qA.sub
  refine ag (ov 31 (lF ps.length ps.length) (aj ?_))
  rw[List.take_length]at hS1
  obtain⟨_,m4,s13,f4⟩:=aa.frzAt [] [_,_] s12
  have f5:=m4 _ _ hbx
  have hp:=aO m4 hp
  have hcx:=f4
  refine sq (iF (xt 0 ?_))
  refine⟨sm,?_⟩
  show To Tryz.prog 137 [1,1,1] _ _ _ _
  refine ai 3 (ov 44 (ld 7 (s13.at 0 rfl) rfl) ?_)
  have s14:=aa.outAt [_] [] s13
  have s15:=aa.swap [_] [_,_,_,_,_,_] s14
  have s16:=aa.swap [_,_] [_,_,_,_,_] s15
  have s17:=aa.swap [_,_,_] [_,_,_,_] s16
  have s18:=aa.pck [_,_,_,_] [_,_,_] [_,_] s17
  refine go 1 ?_
  obtain⟨_,_,_,_,Q6,m5,s19,J,⟨rfl,rfl⟩⟩:=(af.borrow (Q:=cat [[(oid,.cells [iN o.tag,iN o.ip,iN o.ik,.ptr (lid) (0),fr] true)],Pa]) (Post:=fun v=>v=vi 0) fun Y h1 h2 h3=>(oj (g:=193) (cs:=[.ptr oid 0]) (caps:=[.ptr n1 0]) (fun _=>true) (ha.rowY fun p hp=>h2 p (by simp[cat,hp])) sm kr (fun i x hx Z m hm ht=>by
   have hx:x=.ptr oid 0:=List.mem_singleton.1 (List.mem_of_getElem? hx)
   subst hx
   exact(BV (hm _ _ (h2 (oid,.cells [iN o.tag,iN o.ip,iN o.ik,.ptr lid 0,fr] true) (by simp[cat]))) (hm _ _ (h1 _ _ hcx)) ht).imp fun v _ h=>by rw[h,decide_eq_true (hw1 w hwm hwt hwp).symm]) h3).imp (Post':=fun v _=>v=vi 0) fun v _ h=>(by
    rcases h with⟨i,hi,_,_,h⟩|⟨h,_⟩
    ·have hi:i<1:=hi
     obtain rfl:i=0:=by omega
     exact h
    ·have:=h 0 sm;cases this)).on [_,_,_,_] [_,_,_] s18
  have f6:=m5 _ _ f5
  have f7:=m5 _ _ f4
  have hp:=aO m5 hp
  refine ov 46 (J _ _) ?_
  have s20:=aa.unp [_,_,_,_] [_,_,_] [_,_] s19
  have s21:=aa.inn [_,_,_] [_,_,_,_] s20
  refine ae 1 (aP 4 (ov 51 (lF 0 0) (ae 1 (ar (nx (ag ?_))))))
  obtain⟨ka,csa,exa,rfl,rfl,hca⟩:=ha.one1
  have s22:=aa.inn [_,_,_] [_,_,_] s21
  refine go 3 (ov 56 (ld 7 (s22.at 2 rfl) rfl) (go 1 (ov 58 (ix ka 0 1 1 0) (ov 59 (am (id:=ka) (off:=0+0*1) (x:=.ptr oid 0) (s22.at 0 rfl) hca) ?_))))
  have s23:=aa.outAt [] [_,_] s22
  refine ae 1 (sq (dw [0,1,2,3,4,5,6,7,8] (sg [0,1,2] (sr (some 63) (oid) trivial (am (off:=3) (s23.at 0 rfl) rfl) (sg [4] (sr (some 65) (n) trivial (am (off:=1) (s23.mono _ _ f6) rfl) (sg [6] (sr (some 67) (n) trivial (am (off:=6) (s23.mono _ _ f6) rfl) ?_))))))))
  obtain⟨_,W,_,_,Pl,m6,s24,J,⟨rfl,hl⟩⟩:=(CB (k:=frm) (f:=fp) (more:=ps) hl hp hkl0 hpl hopl hin).on [_,_,_,_,_] [_,_] s23
  have f8:=m6 _ _ f6
  have f9:=m6 _ _ f7
  have hm0:=hm0.tr (m4.tr (m5.tr m6))
  have hbx:=(m4.tr (m5.tr m6)) _ _ hbx
  have hst:=hst.mono (m4.tr (m5.tr m6))
  have hq:=hq.mono (m4.tr (m5.tr m6))
  have hcr:=hcr.mono fun _ _ q=>q.mono _ _ _ _ (m4.tr (m5.tr m6))
  have hcx:=(m5.tr m6) _ _ hcx
  refine sf (some 68) (J _ _) (oR kr) (sx (nx (aP 1 (ov 70 (ld 7 (s24.mono _ _ f8) rfl) (ov 71 (lv ((rcs.map (aY o.ip o.ik u B N M)).length) hq.lenA) (ae 1 (bk 2 (lp (aC.for ((rcs.map (aY o.ip o.ik u B N M)).length) (fun i A Hq nq=>∃(Y:Heap) (fr1:F) (fs1:List F) (Pr1:List (Nat×O)),aL A [(0,vf (.ptr (pid) (0))),(1,vi now),(5,vf (.ptr (n) (0))),(13,vf (.ptr (oid) (0))),(70,vf (fq)),(71,vf (iN ((rcs.map (aY o.ip o.ik u B N M)).length))),(72,vi i)]∧aa Y Hq nq (cat [[(oid,.cells [iN o.tag,iN o.ip,iN o.ik,.ptr (lid) (0),fr1] true),(pid,.cells [.ptr (sid) (0),.ptr (tid) (0),iN s.n,iN 9000,iN s.last,iN 0,iN s.tag,.sl (ka) (0) 1 (1) none,lf2,iN s.wl] true)],[(ka,.cells csa exa)],Pw2,Ps,P1,Pl,Pr1,R])∧(ab X Y)∧(ck Y fq (rcs.map (aY o.ip o.ik u B N M)))∧(bZ Y sid s.st Ps)∧(av 10 fr1 fs1 Pr1)∧(aA (aV Y) 10 (o.rs++(rcs.map (aY o.ip o.ik u B N M)).take i) fs1)) ⟨W,fr,frs,Pr,az (ts:=[0,1,5,13,70,71,72]) kr,s24,(hm0),(hq),(hst),(hr),(by rw[List.take_zero,List.append_nil];exact hcr)⟩ (fun i A H n3 hi hI=>?_) (fun A H n3 hI=>?_))))))))))
  ·obtain⟨Y,fr1,fs1,Pr1,qA,s25,hm0,hq,hst,hr,hcr⟩:=hI
   refine To.keep _ ?_ qA.sub
   refine ag (ov 73 (lT i ((rcs.map (aY o.ip o.ik u B N M)).length)) (aj ?_))
   obtain⟨q,hq1⟩:∃q,rcs[i]?=some q:=⟨_,List.getElem?_eq_getElem (by rw[List.length_map]at hi;exact hi)⟩
   have hx:(rcs.map (aY o.ip o.ik u B N M))[i]?=some (aY o.ip o.ik u B N M q):=by rw[List.getElem?_map,hq1];rfl
   obtain⟨id,off,cap,all,exb,c,rfl,h2,h3,h4,hR⟩:=hq.at hx
   obtain⟨gd,rfl,hgd⟩:=hR
   have hdl:=hdn q (List.mem_of_getElem? hq1)
   have hcl:=hcr.len
   have hrl:(o.rs++(rcs.map (aY o.ip o.ik u B N M)).take i).length≤o.rs.length+i:=by rw[List.length_append,List.length_take];omega
   have hol:o.rs.length<4000:=by rw[List.length_append]at hrl4;omega
   have hi2:i<rcs.length:=by rw[List.length_map]at hi;exact hi
   refine sq (aM (nx (aD 3 (ag (ov 74 (ix id off 10 ((rcs.map (aY o.ip o.ik u B N M)).length) i) (ov 75 (aG (id:=id) (off:=off+i*10) (sz:=10) (c:=[iN o.ip,iN o.ik,iN B,iN N,iN M,iN q.b,iN q.e,.bool false,iN u,gd]) (s25.mono _ _ h2) h3 h4) ?_))))))
   obtain⟨_,s26,J⟩:=ay s25 (.cells [.int .i64 0,.int .i64 0,.int .i64 0,.int .i64 0,.int .i64 0,.int .i64 0,.int .i64 0,.bool false,.int .i64 0,.sl0] true)
   refine ov 15 (J _ _ (vf (.ptr (n3) (0)))) ?_
   obtain⟨_,s27,J⟩:=aI (off:=0) (new:=[iN o.ip,iN o.ik,iN B,iN N,iN M,iN q.b,iN q.e,.bool false,iN u,gd]) (cs':=[iN o.ip,iN o.ik,iN B,iN N,iN M,iN q.b,iN q.e,.bool false,iN u,gd]) s26 0 rfl sm rfl
   refine oe (J _ _) (aQ (dw [0,1,2,3,4,5,6] (sg [0] (sr (some 77) (n3) trivial (aG (off:=0) (sz:=2) (c:=[iN o.ip,iN o.ik]) (s27.at 0 rfl) sm rfl) (sg [2,3,4] (sr (some 81) (oid) trivial (aG (off:=1) (sz:=2) (c:=[iN o.ip,iN o.ik]) (s27.at 1 rfl) sm rfl) (ss (some 82) (jo (e:=true) (z:=true) (ks:=[true,true]) (xs:=[iN o.ip,iN o.ik]) (ys:=[iN o.ip,iN o.ik]) (by simp[cm])) (sx (nx (iT (ai 1 (ov 84 (ld 9 (s27.at 0 rfl) rfl) ?_))))))))))))
   obtain⟨_,_,_,n4,m7,s28,J,⟨g2,rfl,hg2⟩⟩:=(nO hgd hdl.1 (Nat.lt_trans hdl.2 om) s27.topX).on s27
   refine ov 85 (J _ _) (go 1 ?_)
   obtain⟨_,s29,J⟩:=aI (off:=9) (new:=[g2]) (cs':=[iN o.ip,iN o.ik,iN B,iN N,iN M,iN q.b,iN q.e,.bool false,iN u,g2]) s28 0 rfl sm rfl
   refine oe (J _ _) (aj (dw [1,2,3,4,5,6,7,0,8,9,10] (sg [1,2,3] (sr (some 91) (oid) trivial (am (off:=4) (s29.at 1 rfl) rfl) (sr (some 92) (n3) trivial (aG (off:=0) (sz:=10) (c:=[iN o.ip,iN o.ik,iN B,iN N,iN M,iN q.b,iN q.e,.bool false,iN u,g2]) (s29.at 0 rfl) sm rfl) ?_)))))
   obtain⟨W,_,s30,m8,f10,J⟩:=bj s29 (.cells [iN o.ip,iN o.ik,iN B,iN N,iN M,iN q.b,iN q.e,.bool false,iN u,g2] true)
   have hm0:=hm0.tr (m7.tr m8)
   have hq:=hq.mono (m7.tr m8)
   have hst:=hst.mono (m7.tr m8)
   have hcr:=hcr.mono fun _ _ q=>q.mono _ _ _ _ (m7.tr m8)
   have hg2:=hg2.mono m8
   refine sf (some 93) (J _ _ (vf (.sl (n4) (0) 10 (1) none))) ⟨ki,ke (s29.at 1 rfl) (s30.at 1 rfl),trivial⟩ ?_
   obtain⟨a1,_,_,_,ho849,s31,J⟩:=b6 (sz:=10) (bytes:=96) (x:=.sl (n4) (0) 10 (1) none) (new:=[iN o.ip,iN o.ik,iN B,iN N,iN M,iN q.b,iN q.e,.bool false,iN u,g2]) [_,_,_,_,_,_] [_] s30 (hr) (bf (s30.mono _ _ f10) rfl) (rfl) om om
   refine sf (some 94) (J _ _) (oR kr) (sg [0,8,9] ?_)
   obtain⟨_,s32,J⟩:=aI (off:=4) (new:=[a1]) (cs':=[iN o.tag,iN o.ip,iN o.ik,.ptr (lid) (0),a1]) s31 1 rfl sm rfl
   refine sf none (J _ _) (oR kr) (sx (nx (rg (ov 97 (aN i 1) (aR 1 ?_)))))
   exact .inl ⟨rfl,W,a1,_,_,az (ts:=[0,1,5,13,70,71,72]) kr,aa.tl s32,(hm0),(hq),(hst),(ho849),(by rw[bU hx,←List.append_assoc];exact hcr.snoc (show aV _ (aY o.ip o.ik u B N M q) _ from⟨g2,rfl,hg2⟩) rfl)⟩
  ·obtain⟨Y,fr1,fs1,Pr1,qA,s33,hm0,hq,hst,hr,hcr⟩:=hI
   refine To.keep _ ?_ qA.sub
   refine ag (ov 73 (lF ((rcs.map (aY o.ip o.ik u B N M)).length) ((rcs.map (aY o.ip o.ik u B N M)).length)) (aj ?_))
   rw[List.take_length]at hcr
   have s34:=aa.outAt [] [_] s33
   have s35:=aa.outAt [] [] s34
   have s36:=aa.swap [_,_,_] [_,_,_,_,_] s35
   have s37:=aa.swap [_,_,_,_] [_,_,_,_] s36
   have s38:=aa.swap [_,_,_,_,_] [_,_,_] s37
   have s39:=aa.pck [_] [_] [_,_,_,_,_,_,_,_] s38
   refine sq (iF (xt 2 ?_))
   refine⟨sm,?_⟩
   show To Tryz.prog 137 [1,1,1,1,1,1,1,1] _ _ _ _
   refine ai 3 ?_
   obtain⟨_,W,_,_,P9,m9,s40,J,⟨va,vb,ls,an,rfl,hls,han,hl1,ha1,hon⟩⟩:=(xg (s:={s with ws:=s.ws.filter (fun w=> !decide (w.tag=tag∧w.peer=frm)),kn:=ps.foldl (bp s.n) s.kn}) (o:={o with rs:=o.rs++(rcs.map (aY o.ip o.ik u B N M)),kn:=bE s.n o.kn ps,opn:=iM o.opn frm}) (P0:=cat [[(pid,.cells [.ptr (sid) (0),.ptr (tid) (0),iN s.n,iN 9000,iN s.last,iN 0,iN s.tag,.sl (ka) (0) 1 (1) none,lf2,iN s.wl] true)],[(oid,.cells [iN o.tag,iN o.ip,iN o.ik,.ptr (lid) (0),fr1] true)],Pw2,Ps,P1,[(ka,.cells csa exa)],Pl,Pr1]) (now:=now) ⟨sid,tid,lid,_,lf2,fr1,wf2,fs1,Pw2,Ps,P1,_,Pl,Pr1,rfl,hw2,hcw2,hst,by rw[←hS1];exact htk,ha,hl,hr,hcr⟩ hnow (Nat.le_trans (List.length_filter_le _ _) hws) hwl hkl hak (Nat.lt_of_le_of_lt (List.length_filter_le _ _) hopl) hro hrl4).on [_] [_] s39
   have hm0:=hm0.tr m9
   refine ov 101 (J _ _) (ax 4 ?_)
   exact⟨.inr rfl,_,kr,W,_,aa.fin1 s40,hm0,va,vb,ls,an,rfl,hls,han,hl1,ha1,hon⟩
theorem Ce{X:Heap}{n:Nat}{pid:Nat}{s:aq}{P0:List (Nat×O)}(hpe:bz X pid s P0){now Q frm tag ip ik:Nat}{fp fq:F}(hnow:now≤1000)(hkn:b5 Q s.n s.kn)(hfQ:frm<Q)(hfn:frm≠s.n)(hsy:∀r∈s.st.sy,c5 r)(hlt:s.st.sy.length≤1000):al 91 [vf (.ptr (pid) (0)),vi now,.u (.agg [.int .i64 1,iN frm,iN s.n,iN tag,iN ip,iN ik,fp,fq])] X n (P0) fun v X' P'=>∃g,∃l:List Nat,v=.tup [.f g,.f .sl0]∧l.Perm (bp s.n s.kn frm)∧bS X' g [⟨2,s.n,frm,tag,ip,ik,l.filter fun a=> !decide (a=frm),fu s.st ip ik⟩]∧bz X' pid {s with kn:=bp s.n s.kn frm} P':=by
 obtain⟨sid,tid,opf,lf,wf,Pw,Ps,Pt,Po,rfl,hw,hcw,hst,htk,hop⟩:=hpe
 refine al.of_to (Ps:=[[(pid,.cells [.ptr (sid) (0),.ptr (tid) (0),iN s.n,iN 9000,iN s.last,iN 0,iN s.tag,opf,lf,iN s.wl] true)],Pw,Ps,Pt,Po]) kr fun R H0 s0=>?_
 have hm0:ab X X:=ab.rfl
 have hkn2:=hkn.add hfQ
 have hkl2:=hkn2.len
 refine ag ?_
 obtain⟨_,G,J⟩:=ay s0 (.cells [.int .i64 1,iN frm,iN s.n,iN tag,iN ip,iN ik,fp,fq] true)
 refine ov 5 (J _ _ (vf (.ptr (n) (0)))) (ae 2 (sq (sq (dw [0,1,2,3,4,5,6,7,8,9,10,11,12,13,14,15,16,17,18,19] (sg [0,1,2,3] (sr (some 12) (n) trivial (am (off:=2) (G.at 0 rfl) rfl) (sg [5,6,7] (sr (some 16) (pid) trivial (am (off:=2) (G.at 1 rfl) rfl) (ss (some 17) (au (mO (s.n) (s.n) om)) (sg [10,11,12] (sr (some 21) (n) trivial (am (off:=1) (G.at 0 rfl) rfl) (sg [14,15,16] (sr (some 25) (pid) trivial (am (off:=2) (G.at 1 rfl) rfl) (ss (some 26) (au (jR (frm) (s.n) om)) (sg [19] (sx (nx (ar (nx (sq (dw [0,1,2,3,4,5,6] (sg [0,1,2] (sr (some 31) (pid) trivial (am (off:=1) (G.at 1 rfl) rfl) (sg [4] (sr (some 33) (n) trivial (am (off:=1) (G.at 0 rfl) rfl) ?_)))))))))))))))))))))))))
 obtain⟨_,_,_,_,Pt,m,G,J,⟨rfl,htk⟩⟩:=(jH (k:=frm) htk (by have:=hkn.len;omega) (fun h1 h2=>hkn.lt3 hfQ h1 h2)).on [_,_,_] [_,_] G
 have hst:=hst.mono m
 have hop:=hop.mono m
 refine sf (some 34) (J _ _) (oR kr) (sx (nx (aP 1 (ov 36 (ld 0 (G.at 0 rfl) rfl) (aj (bk 0 (ag (ov 38 (eT 1 1) (ae 1 (iT (ai 1 (ov 40 (la 0 8 [.int .i64 1,iN frm,iN s.n,iN tag,iN ip,iN ik,fp,fq] (G.at 0 rfl)) ?_))))))))))))
 have G:=aa.outAt [_] [] G
 have G:=aa.pck [_] [_] [_,_,_,_,_] G
 obtain⟨_,W,_,_,P2,m1,G,J,⟨g,l,rfl,hl,hg,hpe⟩⟩:=(DL (s:={s with kn:=bp s.n s.kn frm}) (P0:=cat [[(pid,.cells [.ptr (sid) (0),.ptr (tid) (0),iN s.n,iN 9000,iN s.last,iN 0,iN s.tag,opf,lf,iN s.wl] true)],Pw,Ps,Pt,Po]) (kind:=1) (fr:=frm) (to:=s.n) (tag:=tag) (ip:=ip) (ik:=ik) (fp:=fp) (fq:=fq) ⟨sid,tid,opf,lf,wf,Pw,Ps,Pt,Po,rfl,hw,hcw,hst,htk,hop⟩ (Nat.le_trans hkl2 om) hsy hlt).on [_] [_] G
 have hm0:=hm0.tr (m.tr m1)
 refine ov 41 (J _ _) (ax 2 ?_)
 exact⟨.inr rfl,_,kr,W,_,aa.fin1 G,hm0,g,l,rfl,hl,hg,hpe⟩
theorem Bh{X:Heap}{n:Nat}{pid:Nat}{s:aq}{P0:List (Nat×O)}(hpe:bz X pid s P0){now Q frm tag ip ik:Nat}{fp fq:F}(hnow:now≤1000)(hkn:b5 Q s.n s.kn)(hfQ:frm<Q)(hfn:frm≠s.n){ps:List Nat}{rs:List Rg}(hp:bo X fp ps)(hq:ck X fq rs)(hps:∀k∈ps,k<Q)(hpl:ps.length<1000)(hws:s.ws.length≤1000)(hop0:s.op=none)(hno:s.ws.filter (fun w=>decide (w.tag=tag∧w.peer=frm))=[]):al 91 [vf (.ptr (pid) (0)),vi now,.u (.agg [.int .i64 2,iN frm,iN s.n,iN tag,iN ip,iN ik,fp,fq])] X n (P0) fun v X' P'=>v=.tup [.f .sl0,.f .sl0]∧bz X' pid {s with ws:=s.ws.filter (fun w=> !decide (w.tag=tag∧w.peer=frm)),kn:=ps.foldl (bp s.n) (bp s.n s.kn frm)} P':=by
 obtain⟨sid,tid,opf,lf,wf,Pw,Ps,Pt,Po,rfl,hw,hcw,hst,htk,hop⟩:=hpe
 refine al.of_to (Ps:=[[(pid,.cells [.ptr (sid) (0),.ptr (tid) (0),iN s.n,iN 9000,iN s.last,iN 0,iN s.tag,opf,lf,iN s.wl] true)],Pw,Ps,Pt,Po]) kr fun R H0 s0=>?_
 have hm0:ab X X:=ab.rfl
 have hkn2:=hkn.add hfQ
 have hkl2:=hkn2.len
 refine ag ?_
 obtain⟨_,s1,J⟩:=ay s0 (.cells [.int .i64 2,iN frm,iN s.n,iN tag,iN ip,iN ik,fp,fq] true)
 refine ov 5 (J _ _ (vf (.ptr (n) (0)))) (ae 2 (sq (sq (dw [0,1,2,3,4,5,6,7,8,9,10,11,12,13,14,15,16,17,18,19] (sg [0,1,2,3] (sr (some 12) (n) trivial (am (off:=2) (s1.at 0 rfl) rfl) (sg [5,6,7] (sr (some 16) (pid) trivial (am (off:=2) (s1.at 1 rfl) rfl) (ss (some 17) (au (mO (s.n) (s.n) om)) (sg [10,11,12] (sr (some 21) (n) trivial (am (off:=1) (s1.at 0 rfl) rfl) (sg [14,15,16] (sr (some 25) (pid) trivial (am (off:=2) (s1.at 1 rfl) rfl) (ss (some 26) (au (jR (frm) (s.n) om)) (sg [19] (sx (nx (ar (nx (sq (dw [0,1,2,3,4,5,6] (sg [0,1,2] (sr (some 31) (pid) trivial (am (off:=1) (s1.at 1 rfl) rfl) (sg [4] (sr (some 33) (n) trivial (am (off:=1) (s1.at 0 rfl) rfl) ?_)))))))))))))))))))))))))
 obtain⟨_,_,_,_,Pt,m,s2,J,⟨rfl,htk⟩⟩:=(jH (k:=frm) htk (by have:=hkn.len;omega) (fun h1 h2=>hkn.lt3 hfQ h1 h2)).on [_,_,_] [_,_] s1
 refine sf (some 34) (J _ _) (oR kr) (sx (nx (aP 1 (ov 36 (ld 0 (s2.at 0 rfl) rfl) (aj (bk 0 (ag (ov 38 (eF 2 1) (ae 1 (iF (ag (ov 43 (eT 2 2) (ae 1 (iT (sq (dw [1,2,0,3,4,5,6,7,8] (sg [1] ?_)))))))))))))))))
 obtain⟨_,_,_,_,m1,s3,J,rfl⟩:=(jG (a:=now) om s2.topX).on s2
 have hst:=hst.mono (m.tr m1)
 have hop:=hop.mono (m.tr m1)
 have hp:=aO (m.tr m1) hp
 have hq:=hq.mono (m.tr m1)
 refine sf (some 46) (J _ _) trivial (sg [0] (sr (some 47) (n) ⟨ke (s2.at 0 rfl) (s3.at 0 rfl),trivial⟩ (aG (off:=0) (sz:=8) (c:=[.int .i64 2,iN frm,iN s.n,iN tag,iN ip,iN ik,fp,fq]) (s3.at 0 rfl) sm rfl) ?_))
 have s4:=aa.outAt [_] [] s3
 have s5:=aa.pck [_] [_] [_,_,_,_,_] s4
 obtain⟨_,W,_,_,P2,m2,s6,J,⟨rfl,hpe⟩⟩:=(CX (s:={s with kn:=bp s.n s.kn frm}) (P0:=cat [[(pid,.cells [.ptr (sid) (0),.ptr (tid) (0),iN s.n,iN 9000,iN s.last,iN 0,iN s.tag,opf,lf,iN s.wl] true)],Pw,Ps,Pt,Po]) (kind:=2) (frm:=frm) (to:=s.n) (tag:=tag) (ip:=ip) (ik:=ik) (fp:=fp) (fq:=fq) (now:=now) ⟨sid,tid,opf,lf,wf,Pw,Ps,Pt,Po,rfl,hw,hcw,hst,htk,hop⟩ hp hq hkn2 hps hpl hws hop0 hno).on [_] [_] s5
 have hm0:=hm0.tr (m.tr (m1.tr m2))
 refine sf (some 48) (J _ _) (oR kr) (sg [5,6,7,8] (sx (nx (rt ?_))))
 exact⟨.inr rfl,_,kr,W,_,aa.fin1 s6,hm0,rfl,hpe⟩
theorem Cr{X:Heap}{n:Nat}{pid:Nat}{s:aq}{P0:List (Nat×O)}(hpe:bz X pid s P0){now Q frm tag ip ik:Nat}{fp fq:F}(hnow:now≤1000)(hkn:b5 Q s.n s.kn)(hfQ:frm<Q)(hfn:frm≠s.n){rs:List Rg}(hq:ck X fq rs)(hok:∀r∈rs,dy r)(hpp:eh s.st rs)(hlr:rs.length<1000)(hlg:s.st.lg≤500000000):al 91 [vf (.ptr (pid) (0)),vi now,.u (.agg [.int .i64 3,iN frm,iN s.n,iN tag,iN ip,iN ik,fp,fq])] X n (P0) fun v X' P'=>v=.tup [.f .sl0,.f .sl0]∧∃st2,ce s.st rs st2∧st2.lg≤s.st.lg+rs.length*100∧bz X' pid {s with kn:=bp s.n s.kn frm,st:=st2} P':=by
 obtain⟨sid,tid,opf,lf,wf,Pw,Ps,Pt,Po,rfl,hw,hcw,hst,htk,hop⟩:=hpe
 refine al.of_to (Ps:=[[(pid,.cells [.ptr (sid) (0),.ptr (tid) (0),iN s.n,iN 9000,iN s.last,iN 0,iN s.tag,opf,lf,iN s.wl] true)],Pw,Ps,Pt,Po]) kr fun R H0 s0=>?_
 have hm0:ab X X:=ab.rfl
 have hkn2:=hkn.add hfQ
 have hkl2:=hkn2.len
 refine ag ?_
 obtain⟨_,G,J⟩:=ay s0 (.cells [.int .i64 3,iN frm,iN s.n,iN tag,iN ip,iN ik,fp,fq] true)
 refine ov 5 (J _ _ (vf (.ptr (n) (0)))) (ae 2 (sq (sq (dw [0,1,2,3,4,5,6,7,8,9,10,11,12,13,14,15,16,17,18,19] (sg [0,1,2,3] (sr (some 12) (n) trivial (am (off:=2) (G.at 0 rfl) rfl) (sg [5,6,7] (sr (some 16) (pid) trivial (am (off:=2) (G.at 1 rfl) rfl) (ss (some 17) (au (mO (s.n) (s.n) om)) (sg [10,11,12] (sr (some 21) (n) trivial (am (off:=1) (G.at 0 rfl) rfl) (sg [14,15,16] (sr (some 25) (pid) trivial (am (off:=2) (G.at 1 rfl) rfl) (ss (some 26) (au (jR (frm) (s.n) om)) (sg [19] (sx (nx (ar (nx (sq (dw [0,1,2,3,4,5,6] (sg [0,1,2] (sr (some 31) (pid) trivial (am (off:=1) (G.at 1 rfl) rfl) (sg [4] (sr (some 33) (n) trivial (am (off:=1) (G.at 0 rfl) rfl) ?_)))))))))))))))))))))))))
 obtain⟨_,_,_,_,Pt,m,G,J,⟨rfl,htk⟩⟩:=(jH (k:=frm) htk (by have:=hkn.len;omega) (fun h1 h2=>hkn.lt3 hfQ h1 h2)).on [_,_,_] [_,_] G
 have hst:=hst.mono m
 have hop:=hop.mono m
 have hq:=hq.mono m
 refine sf (some 34) (J _ _) (oR kr) (sx (nx (aP 1 (ov 36 (ld 0 (G.at 0 rfl) rfl) (aj (bk 0 (ag (ov 38 (eF 3 1) (ae 1 (iF (ag (ov 43 (eF 3 2) (ae 1 (iF (ag (ov 52 (eT 3 3) (ae 1 (iT (rg (go 2 (ov 55 (ld 7 (G.at 0 rfl) rfl) ?_)))))))))))))))))))))
 have G:=aa.outAt [_] [] G
 have G:=aa.pck [_] [_] [_,_,_,_,_] G
 obtain⟨_,W,_,_,P2,m1,G,J,⟨rfl,st2,hpu,hle,hpe⟩⟩:=(vF (s:={s with kn:=bp s.n s.kn frm}) (P0:=cat [[(pid,.cells [.ptr (sid) (0),.ptr (tid) (0),iN s.n,iN 9000,iN s.last,iN 0,iN s.tag,opf,lf,iN s.wl] true)],Pw,Ps,Pt,Po]) ⟨sid,tid,opf,lf,wf,Pw,Ps,Pt,Po,rfl,hw,hcw,hst,htk,hop⟩ hq hok hpp hlr hlg).on [_] [_] G
 have hm0:=hm0.tr (m.tr m1)
 refine ov 56 (J _ _) (aj (ah 2 (rt ?_)))
 exact⟨.inr rfl,_,kr,W,_,aa.fin1 G,hm0,rfl,st2,hpu,hle,hpe⟩
theorem BD{X:Heap}{n:Nat}{pid oid:Nat}{s:aq}{o:bI}{P0:List (Nat×O)}(hpo:cq X pid oid s o P0){now Q frm tag ip ik:Nat}{fp fq:F}(hnow:now≤1000)(hkn:b5 Q s.n s.kn)(hfQ:frm<Q)(hfn:frm≠s.n){ps:List Nat}{u B N M:Nat}{rcs:List Rc}(hp:bo X fp ps)(hq:ck X fq (rcs.map (aY o.ip o.ik u B N M)))(hps:∀k∈ps,k<Q)(hpl:ps.length<1000)(hws:s.ws.length≤1000)(hw0:∃w,w∈s.ws∧w.tag=tag∧w.peer=frm)(hw1:∀w∈s.ws,w.tag=tag→w.peer=frm→w.op=o.tag)(hwl:s.wl<1000000)(hdn:∀q∈rcs,0<q.d.length∧q.d.length<1000)(hkl:(bE s.n o.kn ps).length<1000)(hkl0:o.kn.length<1000)(hak:o.ak.length<1000)(hopl:o.opn.length<1000)(hin:frm∈o.opn)(hro:eA {o with rs:=o.rs++(rcs.map (aY o.ip o.ik u B N M)),kn:=bE s.n o.kn ps,opn:=iM o.opn frm})(hrl4:(o.rs++(rcs.map (aY o.ip o.ik u B N M))).length<4000)(hrl5:rcs.length<1000):al 91 [vf (.ptr (pid) (0)),vi now,.u (.agg [.int .i64 2,iN frm,iN s.n,iN tag,iN ip,iN ik,fp,fq])] X n (P0) fun v X' P'=>∃a b ls an,v=.tup [.f a,.f b]∧bS X' a ls∧c9 X' b an∧ls.length≤1∧an.length≤1∧fI now X' pid oid {s with ws:=s.ws.filter (fun w=> !decide (w.tag=tag∧w.peer=frm)),kn:=ps.foldl (bp s.n) (bp s.n s.kn frm)} {o with rs:=o.rs++(rcs.map (aY o.ip o.ik u B N M)),kn:=bE s.n o.kn ps,opn:=iM o.opn frm} ls an P':=by
 obtain⟨sid,tid,lid,opf,lf,fr,wf,frs,Pw,Ps,Pt,Pa,Pl,Pr,rfl,hw,hcw,hst,htk,ha,hl,hr,hcr⟩:=hpo
 refine al.of_to (Ps:=[[(pid,.cells [.ptr (sid) (0),.ptr (tid) (0),iN s.n,iN 9000,iN s.last,iN 0,iN s.tag,opf,lf,iN s.wl] true),(oid,.cells [iN o.tag,iN o.ip,iN o.ik,.ptr (lid) (0),fr] true)],Pw,Ps,Pt,Pa,Pl,Pr]) kr fun R H0 s0=>?_
 have hm0:ab X X:=ab.rfl
 have hkn2:=hkn.add hfQ
 have hkl2:=hkn2.len
 refine ag ?_
 obtain⟨_,s1,J⟩:=ay s0 (.cells [.int .i64 2,iN frm,iN s.n,iN tag,iN ip,iN ik,fp,fq] true)
 refine ov 5 (J _ _ (vf (.ptr (n) (0)))) (ae 2 (sq (sq (dw [0,1,2,3,4,5,6,7,8,9,10,11,12,13,14,15,16,17,18,19] (sg [0,1,2,3] (sr (some 12) (n) trivial (am (off:=2) (s1.at 0 rfl) rfl) (sg [5,6,7] (sr (some 16) (pid) trivial (am (off:=2) (s1.at 1 rfl) rfl) (ss (some 17) (au (mO (s.n) (s.n) om)) (sg [10,11,12] (sr (some 21) (n) trivial (am (off:=1) (s1.at 0 rfl) rfl) (sg [14,15,16] (sr (some 25) (pid) trivial (am (off:=2) (s1.at 1 rfl) rfl) (ss (some 26) (au (jR (frm) (s.n) om)) (sg [19] (sx (nx (ar (nx (sq (dw [0,1,2,3,4,5,6] (sg [0,1,2] (sr (some 31) (pid) trivial (am (off:=1) (s1.at 1 rfl) rfl) (sg [4] (sr (some 33) (n) trivial (am (off:=1) (s1.at 0 rfl) rfl) ?_)))))))))))))))))))))))))
 obtain⟨_,_,_,_,Pt,m,s2,J,⟨rfl,htk⟩⟩:=(jH (k:=frm) htk (by have:=hkn.len;omega) (fun h1 h2=>hkn.lt3 hfQ h1 h2)).on [_,_,_] [_,_,_,_] s1
 refine sf (some 34) (J _ _) (oR kr) (sx (nx (aP 1 (ov 36 (ld 0 (s2.at 0 rfl) rfl) (aj (bk 0 (ag (ov 38 (eF 2 1) (ae 1 (iF (ag (ov 43 (eT 2 2) (ae 1 (iT (sq (dw [1,2,0,3,4,5,6,7,8] (sg [1] ?_)))))))))))))))))
 obtain⟨_,_,_,_,m1,s3,J,rfl⟩:=(jG (a:=now) om s2.topX).on s2
 have hst:=hst.mono (m.tr m1)
 have hcr:=hcr.mono fun _ _ q=>q.mono _ _ _ _ (m.tr m1)
 have hp:=aO (m.tr m1) hp
 have hq:=hq.mono (m.tr m1)
 refine sf (some 46) (J _ _) trivial (sg [0] (sr (some 47) (n) ⟨ke (s2.at 0 rfl) (s3.at 0 rfl),trivial⟩ (aG (off:=0) (sz:=8) (c:=[.int .i64 2,iN frm,iN s.n,iN tag,iN ip,iN ik,fp,fq]) (s3.at 0 rfl) sm rfl) ?_))
 have s4:=aa.outAt [_,_] [] s3
 have s5:=aa.outAt [_] [] s4
 have s6:=aa.pck [_] [_] [_,_,_,_,_,_,_,_] s5
 obtain⟨_,W,_,_,P9,m2,s7,J,⟨va,vb,ls,an,rfl,hls,han,hl1,ha1,hon⟩⟩:=(Cf (s:={s with kn:=bp s.n s.kn frm}) (o:=o) (P0:=cat [[(pid,.cells [.ptr (sid) (0),.ptr (tid) (0),iN s.n,iN 9000,iN s.last,iN 0,iN s.tag,opf,lf,iN s.wl] true)],[(oid,.cells [iN o.tag,iN o.ip,iN o.ik,.ptr (lid) (0),fr] true)],Pw,Ps,Pt,Pa,Pl,Pr]) (kind:=2) (frm:=frm) (to:=s.n) (tag:=tag) (ip:=ip) (ik:=ik) (fp:=fp) (fq:=fq) (now:=now) ⟨sid,tid,lid,opf,lf,fr,wf,frs,Pw,Ps,Pt,Pa,Pl,Pr,rfl,hw,hcw,hst,htk,ha,hl,hr,hcr⟩ hp hq hkn2 hps hpl hws hnow hw0 hw1 hwl hdn hkl hkl0 hak hopl hin hro hrl4 hrl5).on [_] [_] s6
 have hm0:=hm0.tr (m.tr (m1.tr m2))
 refine sf (some 48) (J _ _) (oR kr) (sg [5,6,7,8] (sx (nx (rt ?_))))
 exact⟨.inr rfl,_,kr,W,_,aa.fin1 s7,hm0,va,vb,ls,an,rfl,hls,han,hl1,ha1,hon⟩
end Go.Proofs.YtkimkgbppegkhaaGreat.Cm

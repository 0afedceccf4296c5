/- The clean machine's walks of peers (9): the next is asked; an operation goes on. · The clean machine's walks of peers (10): one that looks. -/
import Derived.Test.YtkimkgbppegkhaaGreatEj
set_option linter.unusedVariables false
set_option linter.unusedSimpArgs false
namespace Go.Proofs.YtkimkgbppegkhaaGreat.Cm
open Go Go.RowKit Go.Proofs.YtkimkgbppegkhaaGreat.Gf
set_option maxRecDepth 1000000
theorem bF.imp{f:Nat}{args:List V}{X:Heap}{n:Nat}{Post Post':V→Heap→List (Nat×O)→Prop}(h:bF f args X n Post)(hp:∀v X' M',Post v X' M'→Post' v X' M'):bF f args X n Post':=by
 obtain⟨v,X',H',n',M',h1,h2,h3,h4⟩:=h
 exact⟨v,X',H',n',M',h1,h2,h3,hp _ _ _ h4⟩
theorem mv{X:Heap}{n:Nat}{pid oid:Nat}{s:aq}{o:bI}{P0:List (Nat×O)}(hpo:cq X pid oid s o P0){now:Nat}(hnow:now≤1000)(hws:s.ws.length≤1000)(hwl:s.wl<1000000)(hk:o.kn.length<1000)(hak:o.ak.length<1000)(hop:o.opn.length<1000):al 115 [vf (.ptr (pid) (0)),vi now,vf (.ptr (oid) (0))] X n (P0) fun v X' P'=>((o.opn≠[]∨leftL o.kn o.ak=[])∧v=vf .sl0∧cq X' pid oid s o P')∨(o.opn=[]∧∃g,∃k∈leftL o.kn o.ak,v=vf g∧bS X' g [⟨1,s.n,k,s.wl+1,o.ip,o.ik,[],[]⟩]∧cq X' pid oid {s with wl:=s.wl+1,ws:=s.ws++[⟨s.wl+1,o.tag,k,now+6⟩]} {o with ak:=o.ak++[k],opn:=o.opn++[k]} P'):=by
 obtain⟨sid,tid,lid,opf,lf,fr,wf,frs,Pw,Ps,Pt,Pa,Pl,Pr,rfl,hw,hcw,hst,htk,ha,hl,hr,hcr⟩:=hpo
 refine al.of_to (Ps:=[[(pid,.cells [.ptr (sid) (0),.ptr (tid) (0),iN s.n,iN 9000,iN s.last,iN 0,iN s.tag,opf,lf,iN s.wl] true),(oid,.cells [iN o.tag,iN o.ip,iN o.ik,.ptr (lid) (0),fr] true)],Pw,Ps,Pt,Pa,Pl,Pr]) kr fun R H0 s0=>?_
 have hm0:ab X X:=ab.rfl
 refine ah 1 (aP 3 (ov 12 (ld 3 (s0.at 1 rfl) rfl) ?_))
 obtain⟨_,W,_,_,Pl,m,s1,J,⟨rfl,rfl⟩⟩:=(af.borrow (Q:=Pl) (Post:=fun v=>v=vi o.opn.length) fun Y h1 h2 h3=>Cg (hl.frz h2) h3).on [_,_,_,_,_] [_,_] s0
 have hm0:=hm0.tr m
 have hst:=hst.mono m
 have hcr:=hcr.mono fun _ _ q=>q.mono _ _ _ _ m
 refine ov 13 (J _ _) ?_
 rcases Nat.eq_zero_or_pos o.opn.length with h0 | h0
 ·refine ov 14 (gF o.opn.length 0) (aj ?_)
  have ho0:o.opn=[]:=List.eq_nil_of_length_eq_zero h0
  by_cases hlf:leftL o.kn o.ak=[]
  ·refine ar (nx (ai 3 (ov 19 (ld 3 (s1.at 1 rfl) rfl) ?_)))
   obtain⟨_,W,_,_,Pl,m1,s2,J,⟨rfl,rfl⟩⟩:=((vN hl hk hak hop).imp (Post':=fun v _ P'=>v=.tup [.f (.int .i64 0),.f (.bool false)]∧P'=Pl) fun v _ P' h=>h.elim And.right fun h=>by obtain⟨k,hk,_⟩:=h;rw[hlf]at hk;cases hk).on [_,_,_,_,_] [_,_] s1
   have hm0:=hm0.tr m1
   have hst:=hst.mono m1
   have hcr:=hcr.mono fun _ _ q=>q.mono _ _ _ _ m1
   refine ov 20 (J _ _) (ae 5 (sq (ah 2 (iT (ah 1 (rt ?_))))))
   exact⟨.inr rfl,_,kr,W,_,aa.fin (Ps:=[_,_,_,_,_,_,_]) s2,hm0,.inl ⟨.inr hlf,rfl,sid,tid,lid,opf,lf,fr,wf,frs,Pw,Ps,Pt,Pa,Pl,Pr,rfl,hw,hcw,hst,htk,ha,hl,hr,hcr⟩⟩
  ·refine ar (nx (ai 3 (ov 19 (ld 3 (s1.at 1 rfl) rfl) ?_)))
   obtain⟨_,_,_,_,Pl,m2,s3,J,⟨k,hkl,rfl,hl⟩⟩:=((vN hl hk hak hop).imp (Post':=fun v _ P'=>∃k∈leftL o.kn o.ak,v=.tup [.f (iN k),.f (.bool true)]∧eY lid s.n o.kn (o.ak++[k]) (o.opn++[k]) P') fun v _ P' h=>h.elim (fun h=>absurd h.1 hlf) id).on [_,_,_,_,_] [_,_] s1
   refine ov 20 (J _ _) (ae 5 (sq (ah 2 (ar (nx (sq (dw [5,6,7,8,9,10,11,12,13,14,0,1,2,3,4,15,16,17,18,19,20,21] (sg [5,6,7,8,9,10] (sr (some 36) (oid) trivial (am (off:=0) (s3.at 1 rfl) rfl) ?_)))))))))
   have s4:=aa.outAt [] [_] s3
   have s5:=aa.pck [_] [_,_,_,_,_,_] [_,_] s4
   refine sg [12,13] ?_
   obtain⟨_,_,_,n1,Q8,m3,s6,J,⟨rfl,lf2,wf2,Pw2,rfl,hw2,hcw2⟩⟩:=(DR (pid:=pid) (q0:=.ptr sid 0) (q1:=.ptr tid 0) (q2:=iN s.n) (q3:=iN 9000) (q4:=iN s.last) (q5:=iN 0) (q6:=iN s.tag) (q7:=opf) (last:=s.wl) (ws:=s.ws) (P0:=cat [[(pid,.cells [.ptr (sid) (0),.ptr (tid) (0),iN s.n,iN 9000,iN s.last,iN 0,iN s.tag,opf,lf,iN s.wl] true)],Pw]) (op:=o.tag) (peer:=k) (now:=now) ⟨lf,wf,Pw,rfl,hw,hcw⟩ hws om om).on [_] [_,_,_,_,_,_] s5
   refine sf (some 39) (J _ _) (oR kr) ?_
   have s7:=aa.unp [_] [_,_,_,_,_,_] [_,_] s6
   have s8:=aa.inn [] [_,_,_,_,_,_,_] s7
   refine sg [0,1,2] (sr (some 28) (pid) ⟨kf (s5.own (pid,.cells [.ptr (sid) (0),.ptr (tid) (0),iN s.n,iN 9000,iN s.last,iN 0,iN s.tag,opf,lf,iN s.wl] true) (by simp[cat])).1 (s6.own (pid,.cells [.ptr (sid) (0),.ptr (tid) (0),iN s.n,iN 9000,iN s.last,iN 0,iN s.tag,opf,lf2,iN (s.wl+1)] true) (by simp[cat])).1,trivial⟩ (am (off:=2) (s8.at 0 rfl) rfl) (sg [4,15,16,17] (sr (some 43) (oid) ⟨ke (s5.at 0 rfl) (s6.at 0 rfl),trivial⟩ (aG (off:=1) (sz:=2) (c:=[iN o.ip,iN o.ik]) (s8.at 1 rfl) sm rfl) (sg [19] ?_))))
   obtain⟨W,_,s9,m4,f1,J⟩:=bj s8 (.cells [.int .i64 1,iN s.n,iN k,iN (s.wl+1),iN o.ip,iN o.ik,.sl0,.sl0] true)
   have hm0:=hm0.tr (m2.tr (m3.tr m4))
   have hst:=hst.mono (m2.tr (m3.tr m4))
   have hcr:=hcr.mono fun _ _ q=>q.mono _ _ _ _ (m2.tr (m3.tr m4))
   refine sf (some 45) (J _ _ (vf (.sl (n1) (0) 8 (1) none))) (oR kr) (sg [21] (sx (nx (rt ?_))))
   exact⟨.inr rfl,_,kr,W,_,aa.fin (Ps:=[_,_,_,_,_,_,_]) s9,hm0,.inr ⟨ho0,_,k,hkl,rfl,bS.one f1 bo.none (.inl ⟨rfl,rfl⟩),sid,tid,lid,opf,lf2,fr,wf2,frs,Pw2,Ps,Pt,Pa,Pl,Pr,rfl,hw2,hcw2,hst,htk,ha,hl,hr,hcr⟩⟩
 ·refine ov 14 (gT o.opn.length 0) (aj (iT (ah 1 (rt ?_))))
  exact⟨.inr rfl,_,kr,W,_,aa.fin (Ps:=[_,_,_,_,_,_,_]) s1,hm0,.inl ⟨.inl fun q=>by rw[q]at h0;exact absurd h0 sm,rfl,sid,tid,lid,opf,lf,fr,wf,frs,Pw,Ps,Pt,Pa,Pl,Pr,rfl,hw,hcw,hst,htk,ha,hl,hr,hcr⟩⟩
theorem FI{X:Heap}{n:Nat}{pid oid:Nat}{s:aq}{o:bI}{P0:List (Nat×O)}(hpo:cq X pid oid s o P0){now:Nat}(hnow:now≤1000)(hws:s.ws.length≤1000)(hwl:s.wl<1000000)(hk:o.kn.length<1000)(hak:o.ak.length<1000)(hop:o.opn.length<1000)(hro:eA o)(hlr:o.rs.length<4000):al 86 [vf (.ptr (pid) (0)),vi now,vf (.ptr (oid) (0))] X n (P0) fun v X' P'=>(∃k g e,(du X' s.st o g e true∨((∃g e,du X' s.st o g e false)∧o.opn=[]∧leftL o.kn o.ak=[]∧e=8∧g=.sl0))∧v=.tup [.f .sl0,.f (.sl k 0 6 1 none)]∧X' k=some (.cells [iN s.n,iN o.tag,.int .i64 e,iN o.ip,iN o.ik,g] true)∧bz X' pid {s with op:=none,ws:=s.ws.filter fun w=> !decide (w.op=o.tag)} P')∨((∃g e,du X' s.st o g e false)∧((o.opn≠[]∧v=.tup [.f .sl0,.f .sl0]∧cq X' pid oid s o P')∨(o.opn=[]∧∃g,∃k∈leftL o.kn o.ak,v=.tup [.f g,.f .sl0]∧bS X' g [⟨1,s.n,k,s.wl+1,o.ip,o.ik,[],[]⟩]∧cq X' pid oid {s with wl:=s.wl+1,ws:=s.ws++[⟨s.wl+1,o.tag,k,now+6⟩]} {o with ak:=o.ak++[k],opn:=o.opn++[k]} P'))):=by
 refine al.of_to1 kr fun R H0 s0=>?_
 have hm0:ab X X:=ab.rfl
 refine ah 2 (aP 2 ?_)
 obtain⟨_,_,_,_,P1,m,G,J,⟨g,e,ok,rfl,htq,hpo⟩⟩:=(vS hpo hro hlr).on [_] [_] s0
 have hm0:=hm0.tr m
 refine ov 15 (J _ _) ?_
 rcases ok with _ | _
 ·refine ae 7 (ah 1 (ar (nx (ai 3 ?_))))
  rcases Nat.eq_zero_or_pos o.opn.length with h0 | h0
  ·have ho0:o.opn=[]:=List.eq_nil_of_length_eq_zero h0
   by_cases hlf:leftL o.kn o.ak=[]
   ·obtain⟨_,W,H,n1,P2,m1,G,J,⟨rfl,hpo⟩⟩:=((mv hpo hnow hws hwl hk hak hop).imp (Post':=fun v X' P'=>v=vf .sl0∧cq X' pid oid s o P') fun v X' P' h=>h.elim And.right fun h=>by obtain⟨_,g,k,hk,_⟩:=h;rw[hlf]at hk;cases hk).on [_] [_] G
    refine ov 28 (J _ _) ?_
    obtain⟨sid,tid,lid,opf,lf,fr,wf,frs,Pw,Ps,Pt,Pa,Pl,Pr,rfl,hw,hcw,hst,htk,ha,hl,hr,hcr⟩:=hpo
    have G:aa W H (n1) (cat [[],cat [[(pid,.cells [.ptr (sid) (0),.ptr (tid) (0),iN s.n,iN 9000,iN s.last,iN 0,iN s.tag,opf,lf,iN s.wl] true)],[(oid,.cells [iN o.tag,iN o.ip,iN o.ik,.ptr (lid) (0),fr] true)],Pw,Ps,Pt,Pa,Pl,Pr],R]):=G
    have G:=aa.unp [_] [_] [_,_,_,_,_,_,_,_] G
    have G:=aa.inn [_] [_,_,_,_,_,_,_] G
    have G:=aa.inn [] [_,_,_,_,_,_,_] G
    refine ae 1 (aP 3 (ov 32 (ld 3 (G.at 1 rfl) rfl) ?_))
    obtain⟨_,_,_,_,Q7,m2,G,J,⟨_,rfl,rfl,rfl⟩⟩:=(bF.borrow (Q:=Pl) (Post:=fun v P2=>v=vf (.bool true)∧P2=[]) fun Y h1 h2 h3=>(qW (hl.frz h2) (by show o.kn.length<100000;omega) (by show o.ak.length<100000;omega) h3).imp (Post':=fun v _ M'=>v=vf (.bool true)∧M'=[]) fun v _ M' h=>⟨by rw[h.1];rw[decide_eq_true ⟨ho0,hlf⟩],h.2⟩).on [_,_,_,_,_] [_,_] G
    have hst:=hst.mono m2
    have hcr:=hcr.mono fun _ _ q=>q.mono _ _ _ _ m2
    refine ov 33 (J _ _) (aj ?_)
    have G:=aa.unp [_,_,_,_,_] [_,_] [_,_] G
    have G:=aa.rid [_,_,_,_,_,_] [_,_] G
    refine iT (ag ?_)
    have G:=aa.outAt [_] [] G
    have G:=aa.outAt [] [] G
    have G:=aa.pck [_] [_] [_,_,_,_,_,_,_,_] G
    refine go 2 ?_
    obtain⟨_,W,_,_,P3,m3,G,J,⟨k,rfl,hk2,hpe⟩⟩:=(xp (s:=s) (o:=o) (P0:=cat [[(pid,.cells [.ptr (sid) (0),.ptr (tid) (0),iN s.n,iN 9000,iN s.last,iN 0,iN s.tag,opf,lf,iN s.wl] true)],[(oid,.cells [iN o.tag,iN o.ip,iN o.ik,.ptr (lid) (0),fr] true)],Pw,Ps,Pt,Pa,Pl,Pr]) (e:=8) (g:=.sl0) ⟨sid,tid,lid,opf,lf,fr,wf,frs,Pw,Ps,Pt,Pa,Pl,Pr,rfl,hw,hcw,hst,htk,ha,hl,hr,hcr⟩ hws).on [_] [_] G
    have hm0:=hm0.tr (m1.tr (m2.tr m3))
    have htq:=htq.mono (m1.tr (m2.tr m3))
    refine ov 36 (J _ _) (ax 2 ?_)
    exact⟨.inr rfl,_,kr,W,_,aa.fin1 G,hm0,.inl ⟨k,.sl0,8,.inr ⟨⟨g,e,htq⟩,ho0,hlf,rfl,rfl⟩,rfl,hk2,hpe⟩⟩
   ·obtain⟨_,W,H,n2,P2,m4,G,J,⟨g2,k,hkl,rfl,hlt,hpo⟩⟩:=((mv hpo hnow hws hwl hk hak hop).imp (Post':=fun v X' P'=>∃g,∃k∈leftL o.kn o.ak,v=vf g∧bS X' g [⟨1,s.n,k,s.wl+1,o.ip,o.ik,[],[]⟩]∧cq X' pid oid {s with wl:=s.wl+1,ws:=s.ws++[⟨s.wl+1,o.tag,k,now+6⟩]} {o with ak:=o.ak++[k],opn:=o.opn++[k]} P') fun v X' P' h=>h.elim (fun h=>absurd h.1 (fun q=>q.elim (absurd ho0) (absurd · hlf))) And.right).on [_] [_] G
    refine ov 28 (J _ _) ?_
    obtain⟨sid,tid,lid,opf,lf,fr,wf,frs,Pw,Ps,Pt,Pa,Pl,Pr,rfl,hw,hcw,hst,htk,ha,hl,hr,hcr⟩:=hpo
    have G:aa W H (n2) (cat [[],cat [[(pid,.cells [.ptr (sid) (0),.ptr (tid) (0),iN s.n,iN 9000,iN s.last,iN 0,iN s.tag,opf,lf,iN (s.wl+1)] true)],[(oid,.cells [iN o.tag,iN o.ip,iN o.ik,.ptr (lid) (0),fr] true)],Pw,Ps,Pt,Pa,Pl,Pr],R]):=G
    have G:=aa.unp [_] [_] [_,_,_,_,_,_,_,_] G
    have G:=aa.inn [_] [_,_,_,_,_,_,_] G
    have G:=aa.inn [] [_,_,_,_,_,_,_] G
    refine ae 1 (aP 3 (ov 32 (ld 3 (G.at 1 rfl) rfl) ?_))
    obtain⟨_,W,_,_,Q7,m5,G,J,⟨_,rfl,rfl,rfl⟩⟩:=(bF.borrow (Q:=Pl) (Post:=fun v P2=>v=vf (.bool false)∧P2=[]) fun Y h1 h2 h3=>(qW (hl.frz h2) (by show o.kn.length<100000;omega) (by show(o.ak++[k]).length<100000;rw[List.length_append,List.length_singleton];omega) h3).imp (Post':=fun v _ M'=>v=vf (.bool false)∧M'=[]) fun v _ M' h=>⟨by rw[h.1];rw[decide_eq_false (fun q=>by have:=q.1;simp at this)],h.2⟩).on [_,_,_,_,_] [_,_] G
    have hm0:=hm0.tr (m4.tr m5)
    have htq:=htq.mono (m4.tr m5)
    have hlt:=hlt.mono m5
    have hst:=hst.mono m5
    have hcr:=hcr.mono fun _ _ q=>q.mono _ _ _ _ m5
    refine ov 33 (J _ _) (aj ?_)
    have G:=aa.unp [_,_,_,_,_] [_,_] [_,_] G
    have G:=aa.rid [_,_,_,_,_,_] [_,_] G
    refine ar (nx (ah 3 (rt ?_)))
    exact⟨.inr rfl,_,kr,W,_,aa.fin (Ps:=[_,_,_,_,_,_,_]) G,hm0,.inr ⟨⟨g,e,htq⟩,.inr ⟨ho0,g2,k,hkl,rfl,hlt,sid,tid,lid,opf,lf,fr,wf,frs,Pw,Ps,Pt,Pa,Pl,Pr,rfl,hw,hcw,hst,htk,ha,hl,hr,hcr⟩⟩⟩
  ·obtain⟨_,W,H,n3,P2,m6,G,J,⟨rfl,hpo⟩⟩:=((mv hpo hnow hws hwl hk hak hop).imp (Post':=fun v X' P'=>v=vf .sl0∧cq X' pid oid s o P') fun v X' P' h=>h.elim And.right fun h=>by have:=h.1;rw[this]at h0;exact absurd h0 sm).on [_] [_] G
   refine ov 28 (J _ _) ?_
   obtain⟨sid,tid,lid,opf,lf,fr,wf,frs,Pw,Ps,Pt,Pa,Pl,Pr,rfl,hw,hcw,hst,htk,ha,hl,hr,hcr⟩:=hpo
   have G:aa W H (n3) (cat [[],cat [[(pid,.cells [.ptr (sid) (0),.ptr (tid) (0),iN s.n,iN 9000,iN s.last,iN 0,iN s.tag,opf,lf,iN s.wl] true)],[(oid,.cells [iN o.tag,iN o.ip,iN o.ik,.ptr (lid) (0),fr] true)],Pw,Ps,Pt,Pa,Pl,Pr],R]):=G
   have G:=aa.unp [_] [_] [_,_,_,_,_,_,_,_] G
   have G:=aa.inn [_] [_,_,_,_,_,_,_] G
   have G:=aa.inn [] [_,_,_,_,_,_,_] G
   refine ae 1 (aP 3 (ov 32 (ld 3 (G.at 1 rfl) rfl) ?_))
   obtain⟨_,W,_,_,Q7,m7,G,J,⟨_,rfl,rfl,rfl⟩⟩:=(bF.borrow (Q:=Pl) (Post:=fun v P2=>v=vf (.bool false)∧P2=[]) fun Y h1 h2 h3=>(qW (hl.frz h2) (by show o.kn.length<100000;omega) (by show o.ak.length<100000;omega) h3).imp (Post':=fun v _ M'=>v=vf (.bool false)∧M'=[]) fun v _ M' h=>⟨by rw[h.1];rw[decide_eq_false (fun q=>by have:=q.1;rw[this]at h0;exact absurd h0 sm)],h.2⟩).on [_,_,_,_,_] [_,_] G
   have hm0:=hm0.tr (m6.tr m7)
   have htq:=htq.mono (m6.tr m7)
   have hst:=hst.mono m7
   have hcr:=hcr.mono fun _ _ q=>q.mono _ _ _ _ m7
   refine ov 33 (J _ _) (aj ?_)
   have G:=aa.unp [_,_,_,_,_] [_,_] [_,_] G
   have G:=aa.rid [_,_,_,_,_,_] [_,_] G
   refine ar (nx (ah 3 (rt ?_)))
   exact⟨.inr rfl,_,kr,W,_,aa.fin (Ps:=[_,_,_,_,_,_,_]) G,hm0,.inr ⟨⟨g,e,htq⟩,.inl ⟨fun q=>by rw[q]at h0;exact absurd h0 sm,rfl,sid,tid,lid,opf,lf,fr,wf,frs,Pw,Ps,Pt,Pa,Pl,Pr,rfl,hw,hcw,hst,htk,ha,hl,hr,hcr⟩⟩⟩
 ·refine ae 7 (ah 1 (iT (ai 4 ?_)))
  obtain⟨_,W,_,_,P2,m8,G,J,⟨k,rfl,hk2,hpe⟩⟩:=(xp (e:=e) (g:=g) hpo hws).on [_] [_] G
  have hm0:=hm0.tr m8
  have htq:=htq.mono m8
  refine ov 24 (J _ _) (ax 2 ?_)
  exact⟨.inr rfl,_,kr,W,_,aa.fin1 G,hm0,.inl ⟨k,g,e,.inl htq,rfl,hk2,hpe⟩⟩
/-- an answer -/
structure An where
 peer:Nat
 tag:Nat
 err:Int
 ip:Nat
 ik:Nat
 d:List Nat
def dK(X:Heap)(a:An)(c:List F):Prop:=∃g,c=[iN a.peer,iN a.tag,.int .i64 a.err,iN a.ip,iN a.ik,g]∧aB X g a.d
theorem dK.mono(X Y:Heap)(a:An)(c:List F)(hm:ab X Y)(h:dK X a c):dK Y a c:=by
 obtain⟨g,h1,h2⟩:=h
 exact⟨g,h1,h2.mono hm⟩
abbrev c9:=ch dK 6
theorem c9.mono{X Y:Heap}{f:F}{l:List An}(hm:ab X Y)(h:c9 X f l):c9 Y f l:=ch.mono dK.mono hm h
/-- what an operation that goes on comes to -/
def fI(now:Nat)(X:Heap)(pid oid:Nat)(s:aq)(o:bI)(ls:List Lt)(an:List An)(P:List (Nat×O)):Prop:=
 (∃g e d,(du X s.st o g e true∨((∃g e,du X s.st o g e false)∧o.opn=[]∧leftL o.kn o.ak=[]∧e=8∧g=.sl0))∧aB X g d∧ls=[]∧an=[⟨s.n,o.tag,e,o.ip,o.ik,d⟩]∧bz X pid {s with op:=none,ws:=s.ws.filter fun w=> !decide (w.op=o.tag)} P)∨
 ((∃g e,du X s.st o g e false)∧an=[]∧((o.opn≠[]∧ls=[]∧cq X pid oid s o P)∨(o.opn=[]∧∃k∈leftL o.kn o.ak,ls=[⟨1,s.n,k,s.wl+1,o.ip,o.ik,[],[]⟩]∧cq X pid oid {s with wl:=s.wl+1,ws:=s.ws++[⟨s.wl+1,o.tag,k,now+6⟩]} {o with ak:=o.ak++[k],opn:=o.opn++[k]} P)))
theorem fI.mono{now:Nat}{X Y:Heap}{pid oid:Nat}{s:aq}{o:bI}{ls:List Lt}{an:List An}{P:List (Nat×O)}(hm:ab X Y)(h:fI now X pid oid s o ls an P):fI now Y pid oid s o ls an P:=by
 rcases h with⟨g,e,d,h1,h2,h3,h4,h5⟩|⟨⟨g,e,h1⟩,h2,h3⟩
 ·exact .inl ⟨g,e,d,h1.imp (fun h=>h.mono hm) (fun h=>by obtain⟨⟨g,e,h⟩,h2⟩:=h;exact⟨⟨g,e,h.mono hm⟩,h2⟩),h2.mono hm,h3,h4,h5.mono hm⟩
 ·exact .inr ⟨⟨g,e,h1.mono hm⟩,h2,h3.imp (fun h=>⟨h.1,h.2.1,h.2.2.mono hm⟩) fun h=>by obtain⟨h4,k,h5,h6,h7⟩:=h;exact⟨h4,k,h5,h6,h7.mono hm⟩⟩
theorem xg{X:Heap}{n:Nat}{pid oid:Nat}{s:aq}{o:bI}{P0:List (Nat×O)}(hpo:cq X pid oid s o P0){now:Nat}(hnow:now≤1000)(hws:s.ws.length≤1000)(hwl:s.wl<1000000)(hk:o.kn.length<1000)(hak:o.ak.length<1000)(hop:o.opn.length<1000)(hro:eA o)(hlr:o.rs.length<4000):al 86 [vf (.ptr pid 0),vi now,vf (.ptr oid 0)] X n P0 fun v X' P'=>∃a b ls an,v=.tup [.f a,.f b]∧bS X' a ls∧c9 X' b an∧ls.length≤1∧an.length≤1∧fI now X' pid oid s o ls an P':=
 (FI hpo hnow hws hwl hk hak hop hro hlr).imp fun v X' P' h=>by
  rcases h with⟨k,g,e,h1,h2,h3,h4⟩|⟨h1,⟨h2,h3,h4⟩|⟨h2,g,k,h3,h4,h5,h6⟩⟩
  ·have hd:∃d,aB X' g d:=h1.elim (fun h=>h.row) fun h=>by rw[h.2.2.2.2];exact⟨[],rfl,fun _ h=>(by cases h),sm⟩
   obtain⟨d,hd⟩:=hd
   exact⟨_,_,[],[⟨s.n,o.tag,e,o.ip,o.ik,d⟩],h2,bS.none,.inr ⟨k,0,none,_,true,rfl,h3,sm,aA.one ⟨g,rfl,hd⟩ rfl⟩,sm,sm,.inl ⟨g,e,d,h1,hd,rfl,rfl,h4⟩⟩
  ·exact⟨_,_,[],[],h3,bS.none,.inl ⟨rfl,rfl⟩,sm,sm,.inr ⟨h1,rfl,.inl ⟨h2,rfl,h4⟩⟩⟩
  ·exact⟨_,_,_,[],h4,h5,.inl ⟨rfl,rfl⟩,sm,sm,.inr ⟨h1,rfl,.inr ⟨h2,k,h3,rfl,h6⟩⟩⟩
theorem Ck{X:Heap}{n:Nat}{pid:Nat}{s:aq}{P0:List (Nat×O)}(hpe:bz X pid s P0){now ip ik:Nat}(hop0:s.op=none)(hnow:now≤1000)(hws:s.ws.length≤1000)(hwl:s.wl<1000000)(hS:s.kn.length≤12)(htg:s.tag≤1000000)(hsy:∀r∈s.st.sy,c5 r)(hlt:s.st.sy.length≤1000)(hro:eA ⟨s.tag+1,ip,ik,s.st.sy.filter (aW ip ik),[],[],[]⟩):al 78 [vf (.ptr (pid) (0)),vi now,.u (.agg [iN ip,iN ik])] X n (P0) fun v X' P'=>∃oid,∃l:List Nat,l.Perm s.kn∧(((∃g e,du X' s.st ⟨s.tag+1,ip,ik,s.st.sy.filter (aW ip ik),bE s.n [] l,[],[]⟩ g e true)∧v=.tup [.f (iN (s.tag+1)),.f .sl0]∧cq X' pid oid {s with tag:=s.tag+1} ⟨s.tag+1,ip,ik,s.st.sy.filter (aW ip ik),bE s.n [] l,[],[]⟩ P')∨((∃g e,du X' s.st ⟨s.tag+1,ip,ik,s.st.sy.filter (aW ip ik),bE s.n [] l,[],[]⟩ g e false)∧((leftL (bE s.n [] l) []=[]∧v=.tup [.f (iN (s.tag+1)),.f .sl0]∧cq X' pid oid {s with tag:=s.tag+1} ⟨s.tag+1,ip,ik,s.st.sy.filter (aW ip ik),bE s.n [] l,[],[]⟩ P')∨∃g,∃k∈leftL (bE s.n [] l) [],v=.tup [.f (iN (s.tag+1)),.f g]∧bS X' g [⟨1,s.n,k,s.wl+1,ip,ik,[],[]⟩]∧cq X' pid oid {s with tag:=s.tag+1,wl:=s.wl+1,ws:=s.ws++[⟨s.wl+1,s.tag+1,k,now+6⟩]} ⟨s.tag+1,ip,ik,s.st.sy.filter (aW ip ik),bE s.n [] l,[k],[k]⟩ P'))):=by
 obtain⟨sid,tid,opf,lf,wf,Pw,Ps,Pt,Po,rfl,hw,hcw,hst,htk,hop⟩:=hpe
 refine al.of_to (Ps:=[[(pid,.cells [.ptr (sid) (0),.ptr (tid) (0),iN s.n,iN 9000,iN s.last,iN 0,iN s.tag,opf,lf,iN s.wl] true)],Pw,Ps,Pt,Po]) kr fun R H0 s0=>?_
 have hm0:ab X X:=ab.rfl
 skip
 refine ag ?_
 obtain⟨_,s1,J⟩:=ay s0 (.cells [iN ip,iN ik] true)
 refine ov 5 (J _ _ (vf (.ptr (n) (0)))) (ae 2 (sq (ah 2 (ar (nx (ai 3 (ov 17 (ld 6 (s1.at 1 rfl) rfl) (ov 18 (aN s.tag 1) (go 2 ?_)))))))))
 obtain⟨_,s2,J⟩:=aI (off:=6) (new:=[iN (s.tag+1)]) (cs':=[.ptr (sid) (0),.ptr (tid) (0),iN s.n,iN 9000,iN s.last,iN 0,iN (s.tag+1),opf,lf,iN s.wl]) s1 1 rfl sm rfl
 refine oe (J _ _) (aQ (dw [5,6,11,12,13,14,15,7,8,9,10,16,17,18,19,20,21,22,0,1,2,3,4,23,24,25] (sr (some 26) (n) trivial (aG (off:=0) (sz:=2) (c:=[iN ip,iN ik]) (s2.at 0 rfl) sm rfl) ?_)))
 obtain⟨_,_,_,_,m,s3,J,⟨kc,rfl,hkc⟩⟩:=((vI (a:=ip) (b:=ik) s2.topX).imp (Post':=fun v _=>∃kc,v=.u (.agg kc)∧dj kc) fun v _ h=>⟨_,h,iI _⟩).on s2
 refine sf (some 27) (J _ _) (oR kr) ?_
 have hkcl:=hkc.len
 refine sg [11,12,13] (sr (some 35) (pid) ⟨ke (s2.at 1 rfl) (s3.at 1 rfl),trivial⟩ (am (off:=1) (s3.at 1 rfl) rfl) ?_)
 obtain⟨_,_,_,_,Q1,m1,s4,J,⟨a,l,Pq,rfl,rfl,ha,hl0⟩⟩:=(re htk hS).on [_,_,_] [_,_] s3
 refine sf (some 36) (J _ _) (oR kr) ?_
 have s5:=aa.unp [_,_,_] [_,_] [_,_] s4
 have hil:=dI l
 have hll:=hl0.length_eq
 obtain⟨_,m2,s6,hrow⟩:=av.frz (ha) [_,_,_,_] [_,_] s5
 refine sg [7,8,9] (sr (some 31) (pid) ⟨ke (s3.at 1 rfl) (s4.at 1 rfl),ke (s2.at 1 rfl) (s3.at 1 rfl),trivial⟩ (am (off:=2) (s6.at 1 rfl) rfl) ?_)
 obtain⟨_,_,_,_,Pl,m3,s7,J,⟨lid,rfl,hl⟩⟩:=(Dr (c:=kc) (self:=s.n) (f:=a) (l:=l) hkc hrow om s6.topX).on s6
 have hst:=hst.mono (m.tr (m1.tr (m2.tr m3)))
 refine sf (some 37) (J _ _) (oR kr) (sg [17,18,19] (sr (some 41) (pid) ⟨ke (s6.at 1 rfl) (s7.at 1 rfl),ke (s3.at 1 rfl) (s4.at 1 rfl),ke (s2.at 1 rfl) (s3.at 1 rfl),trivial⟩ (am (off:=0) (s7.at 1 rfl) rfl) (sr (some 42) (n) ⟨ke (s6.at 0 rfl) (s7.at 0 rfl),ke (s3.at 0 rfl) (s4.at 0 rfl),ke (s2.at 0 rfl) (s3.at 0 rfl),trivial⟩ (aG (off:=0) (sz:=2) (c:=[iN ip,iN ik]) (s7.at 0 rfl) sm rfl) ?_)))
 obtain⟨_,_,_,n1,Q2,m4,s8,J,⟨fr,frs,Pr,rfl,rfl,hr,hcr⟩⟩:=(xb (ip:=ip) (ik:=ik) hst hsy hlt).on [_,_] [_,_,_,_] s7
 have hop:=hop.mono (m.tr (m1.tr (m2.tr (m3.tr m4))))
 refine sf (some 43) (J _ _) (oR kr) ?_
 have s9:=aa.unp [_,_] [_,_,_,_] [_,_] s8
 rw[hop0]at hop
 refine sg [0,1,2] (sr (some 24) (pid) ⟨ke (s7.at 1 rfl) (s8.at 1 rfl),ke (s6.at 1 rfl) (s7.at 1 rfl),ke (s3.at 1 rfl) (s4.at 1 rfl),ke (s2.at 1 rfl) (s3.at 1 rfl),trivial⟩ (am (off:=6) (s9.at 1 rfl) rfl) (sr (some 25) (n) ⟨ke (s7.at 0 rfl) (s8.at 0 rfl),ke (s6.at 0 rfl) (s7.at 0 rfl),ke (s3.at 0 rfl) (s4.at 0 rfl),ke (s2.at 0 rfl) (s3.at 0 rfl),trivial⟩ (aG (off:=0) (sz:=2) (c:=[iN ip,iN ik]) (s9.at 0 rfl) sm rfl) (sg [23] ?_)))
 obtain⟨_,s10,J⟩:=ay s9 (.cells [iN (s.tag+1),iN ip,iN ik,.ptr (lid) (0),fr] true)
 refine sf (some 45) (J _ _ (vf (.ptr (n1) (0)))) (oR kr) (sg [25] (sx (nx (ai 4 (ov 50 (ld 7 (s10.at 2 rfl) rfl) (go 1 ?_))))))
 obtain⟨_,_,s11,m5,f1,J⟩:=bj s10 (.cells [.ptr (n1) (0)] true)
 have hst:=hst.mono (m4.tr m5)
 have hop:=hop.mono m5
 have hcr:=hcr.mono fun _ _ q=>q.mono _ _ _ _ m5
 refine ov 52 (J _ _ (vf (.sl (n1+1) (0) 1 (1) none))) ?_
 obtain⟨a1,_,_,P,ho817,s12,J⟩:=b6 (sz:=1) (bytes:=8) (x:=.sl (n1+1) (0) 1 (1) none) (new:=[.ptr (n1) (0)]) [_,_,_,_,_] [_,_] s11 (hop) (bf (s11.mono _ _ f1) rfl) (rfl) om sm
 refine ov 53 (J _ _) (go 2 ?_)
 obtain⟨_,s13,J⟩:=aI (off:=7) (new:=[a1]) (cs':=[.ptr (sid) (0),.ptr (tid) (0),iN s.n,iN 9000,iN s.last,iN 0,iN (s.tag+1),a1,lf,iN s.wl]) s12 2 rfl sm rfl
 refine oe (J _ _) (aQ (ag ?_))
 have s14:=aa.outAt [] [_,_] s13
 have s15:=aa.outAt [_] [] s14
 have hpa:=ho817
 have s16:=aa.swap [_,_,_,_,_] [_,_,_] s15
 have s17:=aa.swap [_,_,_,_,_,_] [_,_] s16
 have s18:=aa.swap [_,_,_,_,_,_,_,_] [] s17
 have s19:=aa.swap [_,_,_,_,_,_,_] [_] s18
 have s20:=aa.pck [_] [_] [_,_,_,_,_,_,_,_] s19
 refine go 2 ?_
 obtain⟨_,W,H,n2,P1,m6,s21,J,⟨g,e,ok,rfl,htq,hpo⟩⟩:=(vS (s:={s with tag:=s.tag+1}) (o:=⟨s.tag+1,ip,ik,s.st.sy.filter (aW ip ik),bE s.n [] l,[],[]⟩) (P0:=cat [[(pid,.cells [.ptr (sid) (0),.ptr (tid) (0),iN s.n,iN 9000,iN s.last,iN 0,iN (s.tag+1),a1,lf,iN s.wl] true)],[(n1,.cells [iN (s.tag+1),iN ip,iN ik,.ptr (lid) (0),fr] true)],Pw,Ps,Pt,P,Pl,Pr]) ⟨sid,tid,lid,a1,lf,fr,wf,frs,Pw,Ps,Pt,P,Pl,Pr,rfl,hw,hcw,hst,htk,hpa,hl,hr,hcr⟩ hro (by show(s.st.sy.filter (aW ip ik)).length<4000;have:=List.length_filter_le (aW ip ik) s.st.sy;omega)).on [_] [_] s20
 have f2:=m6 _ _ f1
 have hm0:=hm0.tr (m.tr (m1.tr (m2.tr (m3.tr (m4.tr (m5.tr m6))))))
 have hst:=hst.mono m6
 have hcr:=hcr.mono fun _ _ q=>q.mono _ _ _ _ m6
 refine ov 59 (J _ _) ?_
 skip
 rcases ok with _ | _
 ·obtain⟨sid,tid,lid,opf,lf,fr,wf,frs,Pw,Ps,Pt,Pa,Pl,Pr,rfl,hw,hcw,hst,htk,ha,hl,hr,hcr⟩:=hpo
  have s22:aa W H (n2) (cat [[(n,.cells [iN ip,iN ik] true)],cat [[(pid,.cells [.ptr (sid) (0),.ptr (tid) (0),iN s.n,iN 9000,iN s.last,iN 0,iN (s.tag+1),opf,lf,iN s.wl] true)],[(n1,.cells [iN (s.tag+1),iN ip,iN ik,.ptr (lid) (0),fr] true)],Pw,Ps,Pt,Pa,Pl,Pr],R]):=s21
  have s23:=aa.unp [_] [_] [_,_,_,_,_,_,_,_] s22
  have s24:=aa.inn [_] [_,_,_,_,_,_,_] s23
  have s25:=aa.inn [] [_,_,_,_,_,_,_] s24
  refine ae 7 (ah 1 (ar (nx (sq (dw [5,6,4,7,8,0,1,2,3,9,10] (sg [5] ?_))))))
  obtain⟨_,_,_,_,m7,s26,J,rfl⟩:=(jG (a:=now) om s25.topX).on s25
  have f3:=m7 _ _ f2
  have hm0:=hm0.tr m7
  have hst:=hst.mono m7
  have hcr:=hcr.mono fun _ _ q=>q.mono _ _ _ _ m7
  have htq:=htq.mono m7
  refine sf (some 74) (J _ _) trivial (sg [4,7] ?_)
  by_cases hlf:leftL (bE s.n [] l) []=[]
  ·have s27:=aa.outAt [_] [_] s26
   have s28:=aa.outAt [] [_] s27
   have s29:=aa.pck [_] [_] [_,_,_,_,_,_,_,_] s28
   obtain⟨_,W,H,n3,Q5,m8,s30,J,⟨rfl,sid_2,tid_2,lid_2,opf_2,lf_2,fr_2,wf_2,frs_2,Pw_2,Ps_2,Pt_2,Pa_2,Pl_2,Pr_2,rfl,hw_2,hcw_2,hst_2,htk_2,ha_2,hl_2,hr_2,hcr_2⟩⟩:=((mv (s:={s with tag:=s.tag+1}) (o:=⟨s.tag+1,ip,ik,s.st.sy.filter (aW ip ik),bE s.n [] l,[],[]⟩) (P0:=cat [[(pid,.cells [.ptr (sid) (0),.ptr (tid) (0),iN s.n,iN 9000,iN s.last,iN 0,iN (s.tag+1),opf,lf,iN s.wl] true)],[(n1,.cells [iN (s.tag+1),iN ip,iN ik,.ptr (lid) (0),fr] true)],Pw,Ps,Pt,Pa,Pl,Pr]) (now:=now) ⟨sid,tid,lid,opf,lf,fr,wf,frs,Pw,Ps,Pt,Pa,Pl,Pr,rfl,hw,hcw,hst,htk,ha,hl,hr,hcr⟩ om hws hwl (by have:=oP s.n [] l;show(bE s.n [] l).length<1000;simp at this;omega) sm sm).imp (Post':=fun v X' P'=>v=vf .sl0∧cq X' pid (n1) {s with tag:=s.tag+1} ⟨s.tag+1,ip,ik,s.st.sy.filter (aW ip ik),bE s.n [] l,[],[]⟩ P') fun v X' P' h=>h.elim And.right fun h=>by obtain⟨_,g,k,hk,_⟩:=h;rw[hlf]at hk;cases hk).on [_] [_] s29
   have hm0:=hm0.tr m8
   have htq:=htq.mono m8
   refine sf (some 76) (J _ _) trivial ?_
   have s31:aa W H (n3) (cat [[(n,.cells [iN ip,iN ik] true)],cat [[(pid,.cells [.ptr (sid_2) (0),.ptr (tid_2) (0),iN s.n,iN 9000,iN s.last,iN 0,iN (s.tag+1),opf_2,lf_2,iN s.wl] true)],[(n1,.cells [iN (s.tag+1),iN ip,iN ik,.ptr (lid_2) (0),fr_2] true)],Pw_2,Ps_2,Pt_2,Pa_2,Pl_2,Pr_2],R]):=s30
   have s32:=aa.unp [_] [_] [_,_,_,_,_,_,_,_] s31
   have s33:=aa.inn [_] [_,_,_,_,_,_,_] s32
   have s34:=aa.inn [] [_,_,_,_,_,_,_] s33
   refine sg [0,1,2] (sr (some 71) (n1) ⟨kf (s29.own (n1,.cells [iN (s.tag+1),iN ip,iN ik,.ptr (lid) (0),fr] true) (by simp[cat])).1 (s30.own (n1,.cells [iN (s.tag+1),iN ip,iN ik,.ptr (lid_2) (0),fr_2] true) (by simp[cat])).1,ke (s25.at 1 rfl) (s26.at 1 rfl),trivial⟩ (am (off:=0) (s34.at 1 rfl) rfl) (sg [9,10] (sx (nx (rt ?_)))))
   have s35:=aa.outAt [_,_] [] s34
   have s36:=aa.rid [_] [_,_,_,_,_,_,_] s35
   exact⟨.inr rfl,_,kr,W,_,aa.fin (Ps:=[_,_,_,_,_,_,_]) s36,hm0,n1,l,hl0,.inr ⟨⟨g,e,htq⟩,.inl ⟨hlf,rfl,sid_2,tid_2,lid_2,opf_2,lf_2,fr_2,wf_2,frs_2,Pw_2,Ps_2,Pt_2,Pa_2,Pl_2,Pr_2,rfl,hw_2,hcw_2,hst_2,htk_2,ha_2,hl_2,hr_2,hcr_2⟩⟩⟩
  ·have s37:=aa.outAt [_] [_] s26
   have s38:=aa.outAt [] [_] s37
   have s39:=aa.pck [_] [_] [_,_,_,_,_,_,_,_] s38
   obtain⟨_,W,H,n4,Q5,m9,s40,J,⟨g2,k,hkl,rfl,hlt2,sid_2,tid_2,lid_2,opf_2,lf_2,fr_2,wf_2,frs_2,Pw_2,Ps_2,Pt_2,Pa_2,Pl_2,Pr_2,rfl,hw_2,hcw_2,hst_2,htk_2,ha_2,hl_2,hr_2,hcr_2⟩⟩:=((mv (s:={s with tag:=s.tag+1}) (o:=⟨s.tag+1,ip,ik,s.st.sy.filter (aW ip ik),bE s.n [] l,[],[]⟩) (P0:=cat [[(pid,.cells [.ptr (sid) (0),.ptr (tid) (0),iN s.n,iN 9000,iN s.last,iN 0,iN (s.tag+1),opf,lf,iN s.wl] true)],[(n1,.cells [iN (s.tag+1),iN ip,iN ik,.ptr (lid) (0),fr] true)],Pw,Ps,Pt,Pa,Pl,Pr]) (now:=now) ⟨sid,tid,lid,opf,lf,fr,wf,frs,Pw,Ps,Pt,Pa,Pl,Pr,rfl,hw,hcw,hst,htk,ha,hl,hr,hcr⟩ om hws hwl (by have:=oP s.n [] l;show(bE s.n [] l).length<1000;simp at this;omega) sm sm).imp (Post':=fun v X' P'=>∃g,∃k∈leftL (bE s.n [] l) [],v=vf g∧bS X' g [⟨1,s.n,k,s.wl+1,ip,ik,[],[]⟩]∧cq X' pid (n1) {s with tag:=s.tag+1,wl:=s.wl+1,ws:=s.ws++[⟨s.wl+1,s.tag+1,k,now+6⟩]} ⟨s.tag+1,ip,ik,s.st.sy.filter (aW ip ik),bE s.n [] l,[k],[k]⟩ P') fun v X' P' h=>h.elim (fun h=>absurd h.1 (fun q=>q.elim (absurd rfl) (absurd · hlf))) And.right).on [_] [_] s39
   have hm0:=hm0.tr m9
   have htq:=htq.mono m9
   refine sf (some 76) (J _ _) trivial ?_
   have s41:aa W H (n4) (cat [[(n,.cells [iN ip,iN ik] true)],cat [[(pid,.cells [.ptr (sid_2) (0),.ptr (tid_2) (0),iN s.n,iN 9000,iN s.last,iN 0,iN (s.tag+1),opf_2,lf_2,iN (s.wl+1)] true)],[(n1,.cells [iN (s.tag+1),iN ip,iN ik,.ptr (lid_2) (0),fr_2] true)],Pw_2,Ps_2,Pt_2,Pa_2,Pl_2,Pr_2],R]):=s40
   have s42:=aa.unp [_] [_] [_,_,_,_,_,_,_,_] s41
   have s43:=aa.inn [_] [_,_,_,_,_,_,_] s42
   have s44:=aa.inn [] [_,_,_,_,_,_,_] s43
   refine sg [0,1,2] (sr (some 71) (n1) ⟨kf (s39.own (n1,.cells [iN (s.tag+1),iN ip,iN ik,.ptr (lid) (0),fr] true) (by simp[cat])).1 (s40.own (n1,.cells [iN (s.tag+1),iN ip,iN ik,.ptr (lid_2) (0),fr_2] true) (by simp[cat])).1,ke (s25.at 1 rfl) (s26.at 1 rfl),trivial⟩ (am (off:=0) (s44.at 1 rfl) rfl) (sg [9,10] (sx (nx (rt ?_)))))
   have s45:=aa.outAt [_,_] [] s44
   have s46:=aa.rid [_] [_,_,_,_,_,_,_] s45
   exact⟨.inr rfl,_,kr,W,_,aa.fin (Ps:=[_,_,_,_,_,_,_]) s46,hm0,n1,l,hl0,.inr ⟨⟨g,e,htq⟩,.inr ⟨g2,k,hkl,rfl,hlt2,sid_2,tid_2,lid_2,opf_2,lf_2,fr_2,wf_2,frs_2,Pw_2,Ps_2,Pt_2,Pa_2,Pl_2,Pr_2,rfl,hw_2,hcw_2,hst_2,htk_2,ha_2,hl_2,hr_2,hcr_2⟩⟩⟩
 ·obtain⟨sid,tid,lid,opf,lf,fr,wf,frs,Pw,Ps,Pt,Pa,Pl,Pr,rfl,hw,hcw,hst,htk,ha,hl,hr,hcr⟩:=hpo
  have s47:aa W H (n2) (cat [[(n,.cells [iN ip,iN ik] true)],cat [[(pid,.cells [.ptr (sid) (0),.ptr (tid) (0),iN s.n,iN 9000,iN s.last,iN 0,iN (s.tag+1),opf,lf,iN s.wl] true)],[(n1,.cells [iN (s.tag+1),iN ip,iN ik,.ptr (lid) (0),fr] true)],Pw,Ps,Pt,Pa,Pl,Pr],R]):=s21
  have s48:=aa.unp [_] [_] [_,_,_,_,_,_,_,_] s47
  have s49:=aa.inn [_] [_,_,_,_,_,_,_] s48
  have s50:=aa.inn [] [_,_,_,_,_,_,_] s49
  refine ae 7 (ah 1 (iT (ai 3 (ov 67 (ld 0 (s50.at 1 rfl) rfl) (ax 2 ?_)))))
  have s51:=aa.outAt [_,_] [] s50
  have s52:=aa.rid [_] [_,_,_,_,_,_,_] s51
  exact⟨.inr rfl,_,kr,W,_,aa.fin (Ps:=[_,_,_,_,_,_,_]) s52,hm0,n1,l,hl0,.inl ⟨⟨g,e,htq⟩,rfl,sid,tid,lid,opf,lf,fr,wf,frs,Pw,Ps,Pt,Pa,Pl,Pr,rfl,hw,hcw,hst,htk,ha,hl,hr,hcr⟩⟩
end Go.Proofs.YtkimkgbppegkhaaGreat.Cm

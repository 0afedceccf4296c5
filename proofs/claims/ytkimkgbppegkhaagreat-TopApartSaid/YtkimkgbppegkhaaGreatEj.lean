/- The clean machine's walks of peers (7): what an operation is told. · The clean machine's walks of peers (8): an operation ends; the next is asked. -/
import Derived.Test.YtkimkgbppegkhaaGreatEh
set_option linter.unusedVariables false
set_option linter.unusedSimpArgs false
namespace Go.Proofs.YtkimkgbppegkhaaGreat.Cm
open Go Go.RowKit Go.Proofs.YtkimkgbppegkhaaGreat.Gf
set_option maxRecDepth 1000000
/-- a peer with an operation under way, both laid open -/
abbrev HR(oid:Nat)(o:bI)(lid:Nat)(fr:F):Nat×O:=(oid,.cells [iN o.tag,iN o.ip,iN o.ik,.ptr lid 0,fr] true)
def cq(X:Heap)(pid oid:Nat)(s:aq)(o:bI)(P:List (Nat×O)):Prop:=∃sid tid lid opf lf fr wf frs Pw Ps Pt Pa Pl Pr,P=cat [Ae pid sid tid s opf lf++[HR oid o lid fr],Pw,Ps,Pt,Pa,Pl,Pr]∧av 4 lf wf Pw∧aA jZ 4 s.ws wf∧bZ X sid s.st Ps∧eZ tid s.n s.kn Pt∧av 1 opf [.ptr oid 0] Pa∧eY lid s.n o.kn o.ak o.opn Pl∧av 10 fr frs Pr∧aA (aV X) 10 o.rs frs
theorem cq.mono{X Y:Heap}{pid oid:Nat}{s:aq}{o:bI}{P:List (Nat×O)}(hm:ab X Y)(h:cq X pid oid s o P):cq Y pid oid s o P:=by
 obtain⟨sid,tid,lid,opf,lf,fr,wf,frs,Pw,Ps,Pt,Pa,Pl,Pr,h1,h2,h3,h4,h5,h6,h7,h8,h9⟩:=h
 exact⟨sid,tid,lid,opf,lf,fr,wf,frs,Pw,Ps,Pt,Pa,Pl,Pr,h1,h2,h3,h4.mono hm,h5,h6,h7,h8,h9.mono fun _ _ q=>q.mono _ _ _ _ hm⟩
theorem bz.open{X:Heap}{pid:Nat}{s:aq}{o:bI}{P:List (Nat×O)}(h:bz X pid {s with op:=some o} P):∃oid P2,P.Perm P2∧cq X pid oid s o P2:=by
 obtain⟨sid,tid,opf,lf,wf,Pw,Ps,Pt,Po,rfl,hw,hcw,hst,htk,oid,Pa,Pb,rfl,ha,lid,fr,frs,Pl,Pr,rfl,hl,hr,hc⟩:=h
 refine⟨oid,_,?_,sid,tid,lid,opf,lf,fr,wf,frs,Pw,Ps,Pt,Pa,Pl,Pr,rfl,hw,hcw,hst,htk,ha,hl,hr,hc⟩
 simp only[cat,List.append_nil,List.append_assoc,List.cons_append,List.nil_append]
 refine List.Perm.cons _ ?_
 have:∀(x:Nat×O) (A B C D E:List (Nat×O)),(A++(B++(C++(D++x::E)))).Perm (x::(A++(B++(C++(D++E))))):=fun x A B C D E=>by
  have:=List.perm_middle (a:=x) (l₁:=A++(B++(C++D))) (l₂:=E)
  simpa[List.append_assoc]using this
 exact this _ _ _ _ _ _
theorem cq.shut{X:Heap}{pid oid:Nat}{s:aq}{o:bI}{P:List (Nat×O)}(h:cq X pid oid s o P):∃P2,P.Perm P2∧bz X pid {s with op:=some o} P2:=by
 obtain⟨sid,tid,lid,opf,lf,fr,wf,frs,Pw,Ps,Pt,Pa,Pl,Pr,rfl,hw,hcw,hst,htk,ha,hl,hr,hc⟩:=h
 refine⟨_,?_,sid,tid,opf,lf,wf,Pw,Ps,Pt,_,rfl,hw,hcw,hst,htk,oid,Pa,_,rfl,ha,lid,fr,frs,Pl,Pr,rfl,hl,hr,hc⟩
 simp only[cat,List.append_nil,List.append_assoc,List.cons_append,List.nil_append]
 refine List.Perm.cons _ ?_
 have:∀(x:Nat×O) (A B C D E:List (Nat×O)),(A++(B++(C++(D++x::E)))).Perm (x::(A++(B++(C++(D++E))))):=fun x A B C D E=>by
  have:=List.perm_middle (a:=x) (l₁:=A++(B++(C++D))) (l₂:=E)
  simpa[List.append_assoc]using this
 exact(this _ _ _ _ _ _).symm
/-- an operation's records: a tombstone among them, or symbols of one object alone -/
def eA(o:bI):Prop:=(∃r∈o.rs,jq r=true)∨∃u B N M rcs,o.rs=rcs.map (aY o.ip o.ik u B N M)∧b7 B N M∧gZ B N M rcs∧rcs.length<4000
def du(X:Heap)(st:bi)(o:bI)(g:F)(e:Int)(ok:Bool):Prop:=
 (((bK st.gone o.ip o.ik).isSome=true∨∃r∈o.rs,jq r=true)∧g=.sl0∧e=7∧ok=true)∨
 (bK st.gone o.ip o.ik=none∧e=0∧∃u B N M rcs,o.rs=rcs.map (aY o.ip o.ik u B N M)∧((rcs=[]∧ok=false∧g=.sl0)∨(rcs≠[]∧∃e2,fY X B N M rcs g e2∧ok=decide (e2=0))))
theorem du.mono{X Y:Heap}{st:bi}{o:bI}{g:F}{e:Int}{ok:Bool}(hm:ab X Y)(h:du X st o g e ok):du Y st o g e ok:=by
 rcases h with h | ⟨h1,h2,u,B,N,M,rcs,h3,h4 | ⟨h5,e2,h6,h7⟩⟩
 ·exact .inl h
 ·exact .inr ⟨h1,h2,u,B,N,M,rcs,h3,.inl h4⟩
 ·exact .inr ⟨h1,h2,u,B,N,M,rcs,h3,.inr ⟨h5,e2,h6.mono hm,h7⟩⟩
theorem du.row{X:Heap}{st:bi}{o:bI}{g:F}{e:Int}{ok:Bool}(h:du X st o g e ok):∃d,aB X g d:=by
 rcases h with⟨_,rfl,_⟩|⟨h1,h2,u,B,N,M,rcs,h3,⟨_,_,rfl⟩|⟨h5,e2,h6,h7⟩⟩
 ·exact⟨[],rfl,fun _ h=>(by cases h),sm⟩
 ·exact⟨[],rfl,fun _ h=>(by cases h),sm⟩
 ·exact h6.row
theorem vS{X:Heap}{n:Nat}{pid oid:Nat}{s:aq}{o:bI}{P0:List (Nat×O)}(hpo:cq X pid oid s o P0)(hro:eA o)(hlr:o.rs.length<4000):al 114 [vf (.ptr (pid) (0)),vf (.ptr (oid) (0))] X n (P0) fun v X' P'=>∃g e ok,v=.tup [.f g,.f (.int .i64 e),.f (.bool ok)]∧du X' s.st o g e ok∧cq X' pid oid s o P':=by
 obtain⟨sid,tid,lid,opf,lf,fr,wf,frs,Pw,Ps,Pt,Pa,Pl,Pr,rfl,hw,hcw,hst,htk,ha,hl,hr,hcr⟩:=hpo
 refine al.of_to (Ps:=[[(pid,.cells [.ptr (sid) (0),.ptr (tid) (0),iN s.n,iN 9000,iN s.last,iN 0,iN s.tag,opf,lf,iN s.wl] true),(oid,.cells [iN o.tag,iN o.ip,iN o.ik,.ptr (lid) (0),fr] true)],Pw,Ps,Pt,Pa,Pl,Pr]) kr fun R H0 s0=>?_
 have hm0:ab X X:=ab.rfl
 rcases hgo:bK s.st.gone o.ip o.ik with _ | u
 ·refine ah 3 (sq (sq (dw [0,1,2,3,4,5,6,7,8,9,10,11,12,13,14,15] (sg [0,1,2] (sr (some 13) (pid) trivial (am (off:=0) (s0.at 0 rfl) rfl) (sg [4,5,6] (sr (some 17) (oid) trivial (aG (off:=1) (sz:=2) (c:=[iN o.ip,iN o.ik]) (s0.at 1 rfl) sm rfl) ?_)))))))
  obtain⟨_,_,_,_,Ps,m1,s1,J,⟨rfl,rfl⟩⟩:=((wt (ip:=o.ip) (ik:=o.ik) hst).imp (Post':=fun v _ P'=>P'=Ps∧v=vf (.bool false)) fun v _ P' h=>⟨h.1,by rw[h.2,hgo];rfl⟩).on [_,_] [_,_,_,_,_] s0
  have hm0:=hm0.tr m1
  have hst:=hst.mono m1
  have hcr:=hcr.mono fun _ _ q=>q.mono _ _ _ _ m1
  refine sf (some 18) (J _ _) (oR kr) (sg [9,10,11,12] ?_)
  rcases hro with⟨r,hrm,hrt⟩|⟨u,B,N,M,rcs,hrs,hS,hok,hlt⟩
  ·refine sr (some 23) (oid) (oE kr) (am (off:=4) (s1.at 1 rfl) rfl) ?_
   obtain⟨_,W,_,_,Pr,m2,s2,J,⟨rfl,rfl⟩⟩:=(af.borrow (Q:=Pr) (Post:=fun v=>v=vf (.bool true)) fun Y h1 h2 h3=>(qK (g:=157) (caps:=[]) (fun i=>(o.rs[i]?).any jq) (av.slY (R:=aV) hr (hcr.mono fun _ _ q=>q.mono _ _ _ _ h1) om h2) om kr (fun i a ha c Z m hR hm ht=>by rw[ha];exact vh hR ht) h3).imp (Post':=fun v _=>v=vf (.bool true)) fun v _ h=>by
    rcases h with⟨h,_⟩|⟨_,h⟩
    ·exact h
    ·obtain⟨i,hi,hx⟩:=List.getElem_of_mem hrm
     have:=h i hi
     rw[List.getElem?_eq_getElem hi,hx,Option.any_some,hrt]at this
     cases this).on [_,_,_,_,_,_] [_] s1
   have hm0:=hm0.tr m2
   have hst:=hst.mono m2
   have hcr:=hcr.mono fun _ _ q=>q.mono _ _ _ _ m2
   refine sf (some 24) (J _ _) (oR kr) (sg [15] (sx (nx (iT (ah 3 (rt ?_))))))
   exact⟨.inr rfl,_,kr,W,_,aa.fin (Ps:=[_,_,_,_,_,_,_]) s2,hm0,.sl0,7,true,rfl,.inl ⟨.inr ⟨r,hrm,hrt⟩,rfl,rfl,rfl⟩,sid,tid,lid,opf,lf,fr,wf,frs,Pw,Ps,Pt,Pa,Pl,Pr,rfl,hw,hcw,hst,htk,ha,hl,hr,hcr⟩
  ·refine sr (some 23) (oid) (oE kr) (am (off:=4) (s1.at 1 rfl) rfl) ?_
   obtain⟨_,_,_,_,Pr,m3,s3,J,⟨rfl,rfl⟩⟩:=(af.borrow (Q:=Pr) (Post:=fun v=>v=vf (.bool false)) fun Y h1 h2 h3=>(qK (g:=157) (caps:=[]) (fun i=>(o.rs[i]?).any jq) (av.slY (R:=aV) hr (hcr.mono fun _ _ q=>q.mono _ _ _ _ h1) om h2) om kr (fun i a ha c Z m hR hm ht=>by rw[ha];exact vh hR ht) h3).imp (Post':=fun v _=>v=vf (.bool false)) fun v _ h=>by
    rcases h with⟨_,i,hi,h⟩|⟨h,_⟩
    ·obtain⟨q,hq⟩:∃q,o.rs[i]?=some q:=⟨_,List.getElem?_eq_getElem hi⟩
     rw[hq,Option.any_some]at h
     have hq2:=List.mem_of_getElem? hq
     rw[hrs]at hq2
     obtain⟨y,_,rfl⟩:=List.mem_map.1 hq2
     cases h
    ·exact h).on [_,_,_,_,_,_] [_] s1
   have hcr:=hcr.mono fun _ _ q=>q.mono _ _ _ _ m3
   refine sf (some 24) (J _ _) (oR kr) (sg [15] (sx (nx (ar (nx (ai 3 (ov 30 (ld 4 (s3.at 1 rfl) rfl) ?_)))))))
   obtain⟨_,W,_,n1,Pr,m4,s4,J,⟨rfl,Y2,X2,⟨g,ok,sh,rfl,hshl,hfr,hwq⟩,hX2⟩⟩:=(af.borrowX (Q:=Pr) (Post:=fun Y v X2=>∃g ok sh,v=.tup [.f g,.agg sh,.f (.bool ok)]∧sh.length=3∧eM Y g∧((rcs=[]∧ok=false∧g=.sl0)∨(rcs≠[]∧∃e,fY X2 B N M rcs g e∧ok=decide (e=0)))) fun Y h1 h2 h3=>Br rcs hS (G5 (by rw[←hrs];exact(av.slY (R:=aV) hr (hcr.mono fun _ _ q=>q.mono _ _ _ _ h1) om h2))) hok hlt h3).on [_,_,_,_,_,_] [_] s3
   have hm0:=hm0.tr (m3.tr m4)
   have hst:=hst.mono (m3.tr m4)
   have hcr:=hcr.mono fun _ _ q=>q.mono _ _ _ _ m4
   refine ov 31 (J _ _) ?_
   have htq:du W s.st o g 0 ok:=.inr ⟨hgo,rfl,u,B,N,M,rcs,hrs,hwq.imp id fun q=>by obtain⟨q1,e2,q2,q3⟩:=q;exact⟨q1,e2,q2.fresh hfr hX2,q3⟩⟩
   refine go 4 ?_
   obtain⟨_,s5,J⟩:=ay s4 (.cells [.int .i64 0,.int .i64 0,.int .i64 0] true)
   refine ov 8 (J _ _ (vf (.ptr (n1) (0)))) (go 1 ?_)
   obtain⟨_,s6,J⟩:=dv (sz:=3) (new:=sh) s5 0 rfl om rfl
   refine oe (J _ _) (ae 1 (ah 5 (rt ?_)))
   exact⟨.inr rfl,_,kr,W,_,aa.fin (Ps:=[_,_,_,_,_,_,_]) (aa.tl s6),hm0,g,0,ok,rfl,htq,sid,tid,lid,opf,lf,fr,wf,frs,Pw,Ps,Pt,Pa,Pl,Pr,rfl,hw,hcw,hst,htk,ha,hl,hr,hcr⟩
 ·refine ah 3 (sq (sq (dw [0,1,2,3,4,5,6,7,8,9,10,11,12,13,14,15] (sg [0,1,2] (sr (some 13) (pid) trivial (am (off:=0) (s0.at 0 rfl) rfl) (sg [4,5,6] (sr (some 17) (oid) trivial (aG (off:=1) (sz:=2) (c:=[iN o.ip,iN o.ik]) (s0.at 1 rfl) sm rfl) ?_)))))))
  obtain⟨_,W,_,_,Ps,m5,s7,J,⟨rfl,rfl⟩⟩:=((wt (ip:=o.ip) (ik:=o.ik) hst).imp (Post':=fun v _ P'=>P'=Ps∧v=vf (.bool true)) fun v _ P' h=>⟨h.1,by rw[h.2,hgo];rfl⟩).on [_,_] [_,_,_,_,_] s0
  have hm0:=hm0.tr m5
  have hst:=hst.mono m5
  have hcr:=hcr.mono fun _ _ q=>q.mono _ _ _ _ m5
  refine sf (some 18) (J _ _) (oR kr) (sg [9,10,11,12,13,14,15] (sx (nx (iT (ah 3 (rt ?_))))))
  exact⟨.inr rfl,_,kr,W,_,aa.fin (Ps:=[_,_,_,_,_,_,_]) s7,hm0,.sl0,7,true,rfl,.inl ⟨.inl (by rw[hgo];rfl),rfl,rfl,rfl⟩,sid,tid,lid,opf,lf,fr,wf,frs,Pw,Ps,Pt,Pa,Pl,Pr,rfl,hw,hcw,hst,htk,ha,hl,hr,hcr⟩
def dO(_:Heap)(a:F)(c:List F):Prop:=c=[a]
theorem dO.mono(X Y:Heap)(a:F)(c:List F)(_:ab X Y)(h:dO X a c):dO Y a c:=h
theorem oj{X:Heap}{n:Nat}{f:F}{g:Nat}{caps cs:List F}(p:Nat→Bool)(hr:aF X 1 f=some cs)(hlt:cs.length<100000)(hgo:bX Tryz.prog g=true)(hg:∀(i:Nat) x,cs[i]?=some x→∀Y m,ab X Y→ap Y m→af g ([vf x]++caps.map fun x=>.u (.f x)) Y m fun v _=>v=vf (.bool (p i)))(ht:ap X n):af 192 [vf (f),.u (.fn g caps)] X n fun v _=>ll p cs.length v:=by
 refine af.of_to kr ?_
 have s0:aa X X n (cat [[]]):=aa.ini ht
 have hm0:ab X X:=ab.rfl
 refine ah 1 (aP 1 (ov 7 (lv cs.length (cQ hr)) (ae 1 (bk 0 (lp (aC.for (cs.length) (fun i A Hq nq=>∃(Y:Heap),aL A [(0,vf (f)),(1,.u (.fn g caps)),(7,vi cs.length),(8,vi i)]∧aa Y Hq nq (cat [[]])∧(ab X Y)∧(aF Y 1 f=some cs)∧(∀j,j<i→p j=false)) ⟨X,az (ts:=[0,1,7,8]) kr,s0,(hm0),(hr),(fun j hj=>by omega)⟩ (fun i A H n1 hi hI=>?_) (fun A H n1 hI=>?_)))))))
 ·obtain⟨Y,qA,s,hm0,hr,hn⟩:=hI
  refine To.keep _ ?_ qA.sub
  have hx:cs[i]?=some cs[i]:=List.getElem?_eq_getElem hi
  obtain⟨id,off,cap,rfl,hat⟩:=cW hr om
  refine ag (ov 9 (lT i cs.length) (aj ?_))
  cases hp:p i
  ·refine sq (aM (nx (aD 1 (ah 2 (ai 3 (ov 14 (ix id off 1 cs.length i) (ov 15 (lx id (off+i*1) cs[i] (by rw[Nat.mul_one];exact(hat i _ hx).mono (s.mono _))) ?_)))))))
   obtain⟨_,W,_,_,m1,s,J,rfl⟩:=(((hg i _ hx _ _ hm0 s.topX).imp fun v X' h=>(h.trans (by rw[hp]):v=vf (.bool false))):af g ([vf (cs[i])]++caps.map fun x=>.u (.f x)) Y (n1) _).on s
   have hm0:=hm0.tr m1
   have hr:=aO m1 hr
   refine ov 16 (J _ _ kr hgo) (aj (ar (nx (rg (ov 18 (aN i 1) (aR 1 ?_))))))
   exact .inl ⟨rfl,W,az (ts:=[0,1,7,8]) kr,s,(hm0),(hr),(fun j hj=>by rcases Nat.lt_or_ge j i with h | h;exact hn j h;rw[show j=i by omega];exact hp)⟩
  ·refine sq (aM (nx (aD 1 (ah 2 (ai 3 (ov 14 (ix id off 1 cs.length i) (ov 15 (lx id (off+i*1) cs[i] (by rw[Nat.mul_one];exact(hat i _ hx).mono (s.mono _))) ?_)))))))
   obtain⟨_,W,_,_,m2,s,J,rfl⟩:=(((hg i _ hx _ _ hm0 s.topX).imp fun v X' h=>(h.trans (by rw[hp]):v=vf (.bool true))):af g ([vf (cs[i])]++caps.map fun x=>.u (.f x)) Y (n1) _).on s
   have hm0:=hm0.tr m2
   refine ov 16 (J _ _ kr hgo) (aj (iT (ah 2 (rt (.inr ⟨sm,?_⟩)))))
   exact⟨.inr rfl,_,kr,W,_,s,hm0,.inl ⟨i,hi,hp,hn,rfl⟩⟩
 ·obtain⟨Y,qA,s,hm0,hr,hn⟩:=hI
  refine To.keep _ ?_ qA.sub
  refine ag (ov 9 (lF cs.length cs.length sm) (aQ (iF (xt 0 ?_))))
  refine⟨sm,?_⟩
  show To Tryz.prog 192 [1,1] _ _ _ _
  refine ah 1 (rt ?_)
  exact⟨.inr rfl,_,kr,Y,_,s,hm0,.inr ⟨hn,rfl⟩⟩
theorem CN{X:Heap}{n:Nat}{k len:Nat}{cs:List F}{ex:Bool}{g:Nat}{caps:List F}{l:List F}(p:F→Bool)(hlt:l.length<100000)(hgo:bX Tryz.prog g=true)(hg:∀a∈l,∀x Y m,dO Y a [x]→ab X Y→ap Y m→af g ([vf x]++caps.map fun x=>.u (.f x)) Y m fun v _=>v=vf (.bool (p a)))(hl:len*1≤cs.length)(hc:aA (dO X) 1 l (cs.take (len*1))):al 173 [vf (.sl (k) (0) 1 (len) none),.u (.fn g caps)] X n (cat [[(k,.cells (cs) ex)]]) fun v X' P'=>∃f2 fs2,v=vf f2∧av 1 f2 fs2 P'∧aA (dO X') 1 (l.filter fun a=> !p a) fs2:=by
 refine al.of_to (Ps:=[[(k,.cells (cs) ex)]]) kr fun R H0 s0=>?_
 have hm0:ab X X:=ab.rfl
 have hlen:len=l.length:=by
  have:=hc.len
  rw[List.length_take]at this
  omega
 obtain⟨fs0,hfs0⟩:∃fs0,fs0=cs.take (len*1):=⟨_,rfl⟩
 have hfl:fs0.length=len:=by rw[hfs0,List.length_take];omega
 obtain⟨v,X2,n2,hcI,hmI,htI,hfi⟩:=((oj (X:=H0) (f:=.sl k 0 1 len none) (cs:=fs0) (fun i=>(l[i]?).any p) (by
  have:=s0.at 0 rfl
  simp only[aF,if_true,this]
  rw[if_pos om,List.drop_zero,←hfs0]) om hgo (fun i x hx Y m hm ht=>by
  obtain⟨a,ha,hR⟩:=tF (by rw[hfs0];exact hc:aA (dO X) 1 l fs0) hx
  exact(hg a (List.mem_of_getElem? ha) x Y m (dO.mono _ _ _ _ (s0.mono.tr hm) hR) (s0.mono.tr hm) ht).imp fun v _ h=>by rw[h,ha];rfl) s0.top):af _ _ _ _ _)
 rcases hfi with⟨i,hi,hpI,hn,rfl⟩|⟨hn,rfl⟩
 ·refine ah 1 (ai 2 ?_)
  obtain⟨_,_,_,hc575,hm576,ht577,rfl⟩:=(af.same hcI hmI htI:af 192 [vf (.sl (k) (0) 1 (len) none),.u (.fn g caps)] H0 (n) _)
  have s:=s0.callH hc575 hm576 ht577
  refine ov 10 (jC hc575) (ae 1 (aP 1 (ov 12 (au (jc .i64 (x:=((i:Nat):Int)) (y:=(-1:Int)) om)) (aj ?_))))
  have hi2:i<len:=by omega
  obtain⟨a0,ha0⟩:∃a,l[i]?=some a:=⟨_,List.getElem?_eq_getElem om⟩
  have hp0:p a0=true:=by simpa[ha0]using hpI
  have hall:(l.take i).filter (fun a=> !p a)=l.take i:=nI hn
  refine ar (nx (aP 1 (ov 15 (aN i 1) (ae 1 (bk 0 (lp (aC.for (len-(i+1)) (fun q A Hq nq=>∃(Y:Heap) (w:Nat) (cs2:List F),aL A [(0,vf (.sl (k) (0) 1 (len) none)),(1,.u (.fn g caps)),(5,vi w),(6,vi (i+1+q))]∧aa Y Hq nq (cat [[(k,.cells (cs2) ex)],R])∧(ab X Y)∧(((l.take (i+1+q)).filter fun a=> !p a).length=w)∧(cs2.length=cs.length)∧(aA (dO Y) 1 ((l.take (i+1+q)).filter fun a=> !p a) (cs2.take (w*1)))∧(cs2.drop ((i+1+q)*1)=cs.drop ((i+1+q)*1))∧(aA (dO Y) 1 l (cs.take (len*1)))) ⟨X,i,cs,az (ts:=[0,1,5,6]) kr,s,(hm0),(by rw[show l.take (i+1+0)=l.take i++[a0]from bU ha0,List.filter_append,hall];simp[hp0];omega),(rfl),(by rw[show l.take (i+1+0)=l.take i++[a0]from bU ha0,List.filter_append,hall];simpa[hp0]using rS hc hi2),(rfl),(hc)⟩ (fun q A H n1 hi hI=>?_) (fun A H n1 hI=>?_))))))))
  ·obtain⟨Y,w,cs2,qA,s,hm0,hw,hl2,hpre,hsuf,hc⟩:=hI
   refine To.keep _ ?_ qA.sub
   obtain⟨a,hx⟩:∃a,l[i+1+q]?=some a:=⟨_,List.getElem?_eq_getElem om⟩
   obtain⟨c,hc1,hcl,hR⟩:=hc.at hx
   have htk:l.take (i+1+(q+1))=l.take (i+1+q)++[a]:=bU hx
   have hcj:(cs2.drop ((i+1+q)*1)).take 1=c:=by rw[hsuf,←hc1];exact kE om
   have hwle:w≤i+1+q:=by rw[←hw];exact Nat.le_trans (List.length_filter_le _ _) (by rw[List.length_take];omega)
   obtain⟨x,rfl⟩:∃x,c=[x]:=List.length_eq_one_iff.1 hcl
   have hxj:cs2[(i+1+q)*1]?=some x:=by have:=congrArg (fun l=>l[0]?) hcj;simpa[List.getElem?_take,List.getElem?_drop]using this
   refine aP 2 (ov 18 (ln len) (ov 19 (lT (i+1+q) len) (aj (aM (nx (aD 1 (ai 2 (ov 24 (ix k 0 1 len (i+1+q)) (ov 25 (am (id:=k) (off:=0+(i+1+q)*1) (x:=x) (s.at 0 rfl) (by rw[Nat.zero_add];exact hxj)) ?_)))))))))
   cases hp:p a
   ·refine ae 1 (ai 2 ?_)
    obtain⟨_,W,_,_,m1,s,J,rfl⟩:=(((hg a (List.mem_of_getElem? hx) x _ _ hR hm0 s.topX).imp fun v _ h=>(h.trans (by rw[hp]):v=vf (.bool false))):af g ([vf (x)]++caps.map fun x=>.u (.f x)) Y (n1) _).on s
    have hm0:=hm0.tr m1
    have hpre:=hpre.mono fun _ _ h=>dO.mono _ _ _ _ m1 h
    have hc:=hc.mono fun _ _ h=>dO.mono _ _ _ _ m1 h
    have hR:=dO.mono _ _ _ _ m1 hR
    refine ov 28 (J _ _ kr hgo) (ae 1 (iT (ai 3 (ov 33 (ix k 0 1 len w) ?_))))
    obtain⟨_,s,J⟩:=nc (sz:=1) (off:=0+w*1) (new:=[x]) (cs':=aJ cs2 (w*1) [x]) s 0 rfl rfl om (by rw[Nat.zero_add])
    refine oe (J _ _) (aj ?_)
    obtain⟨hl3,hpre3,hsuf3⟩:=rR (sz:=1) (j:=i+1+q) (len:=len) hwle hcl om hl2 hpre hR hsuf om
    refine rg (go 1 (ov 35 (aN w 1) (ae 1 (rg (go 1 (ov 21 (aN (i+1+q) 1) (aR 1 ?_)))))))
    exact .inl ⟨rfl,W,w+1,_,az (ts:=[0,1,5,6]) kr,s,(hm0),(by rw[htk,List.filter_append,List.length_append,hw];simp[hp]),(hl3),(by rw[htk,List.filter_append];simpa[hp]using hpre3),(hsuf3),(hc)⟩
   ·refine ae 1 (ai 2 ?_)
    obtain⟨_,W,_,_,m2,s,J,rfl⟩:=(((hg a (List.mem_of_getElem? hx) x _ _ hR hm0 s.topX).imp fun v _ h=>(h.trans (by rw[hp]):v=vf (.bool true))):af g ([vf (x)]++caps.map fun x=>.u (.f x)) Y (n1) _).on s
    have hm0:=hm0.tr m2
    have hpre:=hpre.mono fun _ _ h=>dO.mono _ _ _ _ m2 h
    have hc:=hc.mono fun _ _ h=>dO.mono _ _ _ _ m2 h
    refine ov 28 (J _ _ kr hgo) (ae 1 (ar (nx (rg (go 1 (ov 21 (aN (i+1+q) 1) (aR 1 ?_)))))))
    exact .inl ⟨rfl,W,w,cs2,az (ts:=[0,1,5,6]) kr,s,(hm0),(by rw[htk,List.filter_append,List.length_append,hw];simp[hp]),(hl2),(by rw[htk,List.filter_append];simpa[hp]using hpre),(by have:=congrArg (List.drop 1) hsuf;simpa[List.drop_drop,Nat.add_mul,Nat.add_assoc]using this),(hc)⟩
  ·obtain⟨Y,w,cs2,qA,s,hm0,hw,hl2,hpre,hsuf,hc⟩:=hI
   refine To.keep _ ?_ qA.sub
   refine aP 2 (ov 18 (ln len) (ov 19 (lF (i+1+(len-(i+1))) len) (aj ?_)))
   have hjl:i+1+(len-(i+1))=l.length:=by omega
   rw[hjl,List.take_length]at hw hpre
   have hwle:w≤len:=by rw[←hw,hlen];exact List.length_filter_le _ _
   refine iF (xt 0 ?_)
   refine⟨sm,?_⟩
   show To Tryz.prog 173 [1,1,1,1] _ _ _ _
   refine ai 2 (ov 38 (c7 (id:=k) (off:=0) (sz:=1) (len:=len) (L:=cs2.length) (l:=w) (h:=len) (cap:=none) (lo:=some w) (hi:=none) (by rw[s.at 0 rfl];rfl) rfl rfl om om (fun c h=>nomatch h) om) ?_)
   obtain⟨_,cs4,hl4,hc4,s,J⟩:=mY (off:=0+w*1) (len:=len-w) (sz:=1) (cap:=none) (tz 169) s 0 rfl om
   refine oe (J _ _) (aj (ai 2 (ov 41 (c7 (id:=k) (off:=0) (sz:=1) (len:=len) (L:=cs4.length) (l:=0) (h:=w) (cap:=none) (lo:=none) (hi:=some w) (by rw[s.at 0 rfl];rfl) rfl rfl om om (fun c h=>nomatch h) om) (ax 1 ?_))))
   rw[Nat.zero_add]at hc4
   exact⟨.inr rfl,vf (.sl k 0 1 w none),kr,Y,_,aa.fin (Ps:=[_]) s,hm0,.sl k 0 1 w none,_,rfl,.inr ⟨k,w,cs4,ex,rfl,rfl,om,rfl⟩,by rw[hc4];exact hpre⟩
 ·refine ah 1 (ai 2 ?_)
  obtain⟨_,_,_,hc603,hm604,ht605,rfl⟩:=(af.same hcI hmI htI:af 192 [vf (.sl (k) (0) 1 (len) none),.u (.fn g caps)] H0 (n) _)
  have s:=s0.callH hc603 hm604 ht605
  refine ov 10 (jC hc603) (ae 1 (aP 1 (ov 12 (au (gR .i64 (x:=(-1:Int)) (y:=(-1:Int)) om)) (aj (iT (ah 2 (rt ?_)))))))
  exact⟨.inr rfl,vf (.sl k 0 1 len none),kr,X,_,aa.fin (Ps:=[_]) s,hm0,_,_,rfl,.inr ⟨k,len,cs,ex,rfl,rfl,hl,rfl⟩,by rw[qH (by rw[←hlen];exact fun i hi=>hn i om)];exact hc⟩
theorem Ct{X:Heap}{n:Nat}{g:Nat}{caps:List F}(p:F→Bool)(hgo:bX Tryz.prog g=true):al 173 [vf (.sl0),.u (.fn g caps)] X n ([]) fun v _ P'=>v=vf .sl0∧P'=[]:=by
 refine al.of_to (Ps:=[[]]) kr fun R H0 s0=>?_
 have hm0:ab X X:=ab.rfl
 refine ah 1 (ai 2 ?_)
 obtain⟨_,_,_,hc609,hm610,ht611,rfl⟩:=(((oj (X:=H0) (f:=.sl0) (cs:=[]) (fun i=>false) rfl sm hgo (fun i x hx=>by simp at hx) s0.top):af _ _ _ _ _).imp fun v _ h=>(by rcases h with⟨i,hi,_⟩|⟨_,h⟩;exact absurd hi sm;exact h:v=vf (.int .i64 (-1))):af 192 [vf (.sl0),.u (.fn g caps)] H0 (n) _)
 have s:=s0.callH hc609 hm610 ht611
 refine ov 10 (jC hc609) (ae 1 (aP 1 (ov 12 (au (gR .i64 (x:=(-1:Int)) (y:=(-1:Int)) om)) (aj (iT (ah 2 (rt ?_)))))))
 exact⟨.inr rfl,_,kr,X,_,aa.fin (Ps:=[_]) s,hm0,rfl,rfl⟩
theorem GC{X:Heap}{n:Nat}{f:F}{fs:List F}{P0:List (Nat×O)}{g:Nat}{caps:List F}{l:List F}(p:F→Bool)(hlt:l.length<100000)(hgo:bX Tryz.prog g=true)(hg:∀a∈l,∀x Y m,dO Y a [x]→ab X Y→ap Y m→af g ([vf x]++caps.map fun x=>.u (.f x)) Y m fun v _=>v=vf (.bool (p a)))(ho:av 1 f fs P0)(hc:aA (dO X) 1 l fs):al 173 [vf f,.u (.fn g caps)] X n P0 fun v X' P'=>∃f2 fs2,v=vf f2∧av 1 f2 fs2 P'∧aA (dO X') 1 (l.filter fun a=> !p a) fs2:=by
 rcases ho with⟨rfl,rfl,rfl⟩|⟨k,len,cs,ex,rfl,rfl,hl,rfl⟩
 ·have hl0:l=[]:=List.eq_nil_of_length_eq_zero (by have:=hc.len;simp at this;omega)
  subst hl0
  refine(Ct p hgo).imp fun v X' P' h=>?_
  obtain⟨rfl,rfl⟩:=h
  exact⟨.sl0,[],rfl,av.nil _,rfl⟩
 ·exact CN p hlt hgo hg hl hc
theorem Dk{X:Heap}{n:Nat}{oid bid:Nat}{o:bI}{lid:Nat}{fr:F}(ho:X oid=some (.cells [iN o.tag,iN o.ip,iN o.ik,.ptr (lid) (0),fr] true))(hb:X bid=some (.cells [.ptr oid 0] true))(ht:ap X n):af 174 [vf (.ptr (oid) (0)),vf (.ptr (bid) (0))] X n fun v _=>v=vf (.bool true):=by
 refine af.of_to kr ?_
 have s0:aa X X n (cat [[]]):=aa.ini ht
 have hm0:ab X X:=ab.rfl
 refine ah 1 (sq (dw [0,1,2,3,4,5,6,7,8,9] (sg [0,1,2] (sr (some 7) (oid) trivial (am (off:=0) (s0.mono _ _ ho) rfl) (sr (some 8) (bid) trivial (am (off:=0) (s0.mono _ _ hb) rfl) (sg [5,6] (sr (some 11) (oid) trivial (am (off:=0) (s0.mono _ _ ho) rfl) (ss (some 12) (au (lA (o.tag) (o.tag) om)) (sg [9] (sx (nx (rt ?_))))))))))))
 exact⟨.inr rfl,_,kr,X,_,s0,hm0,rfl⟩
theorem xp{X:Heap}{n:Nat}{pid oid:Nat}{s:aq}{o:bI}{P0:List (Nat×O)}(hpo:cq X pid oid s o P0){e:Int}{g:F}(hws:s.ws.length≤1000):al 123 [vf (.ptr (pid) (0)),vf (.ptr (oid) (0)),vf (.int .i64 (e)),vf (g)] X n (P0) fun v X' P'=>∃k,v=vf (.sl k 0 6 1 none)∧X' k=some (.cells [iN s.n,iN o.tag,.int .i64 e,iN o.ip,iN o.ik,g] true)∧bz X' pid {s with op:=none,ws:=s.ws.filter fun w=> !decide (w.op=o.tag)} P':=by
 obtain⟨sid,tid,lid,opf,lf,fr,wf,frs,Pw,Ps,Pt,Pa,Pl,Pr,rfl,hw,hcw,hst,htk,ha,hl,hr,hcr⟩:=hpo
 refine al.of_to (Ps:=[[(pid,.cells [.ptr (sid) (0),.ptr (tid) (0),iN s.n,iN 9000,iN s.last,iN 0,iN s.tag,opf,lf,iN s.wl] true),(oid,.cells [iN o.tag,iN o.ip,iN o.ik,.ptr (lid) (0),fr] true)],Pw,Ps,Pt,Pa,Pl,Pr]) kr fun R H0 s0=>?_
 have hm0:ab X X:=ab.rfl
 refine ag ?_
 obtain⟨_,s1,J⟩:=ay s0 (.cells [.ptr (oid) (0)] true)
 refine ov 5 (J _ _ (vf (.ptr (n) (0)))) ?_
 obtain⟨_,m1,s2,f⟩:=aa.frzC s1
 have hbx:=f
 refine ae 1 (ai 4 (ov 13 (ld 7 (s2.at 0 rfl) rfl) ?_))
 have s3:=aa.outAt [_] [] s2
 have s4:=aa.swap [_] [_,_,_,_,_,_] s3
 have s5:=aa.swap [_,_] [_,_,_,_,_] s4
 have s6:=aa.swap [_,_,_] [_,_,_,_] s5
 have s7:=aa.pck [_,_,_,_] [_,_,_] [_,_] s6
 refine go 1 ?_
 obtain⟨_,_,_,_,Q9,m2,s8,J,⟨Pa2,rfl,opf2,rfl,ha2⟩⟩:=(al.borrow (Q:=[(oid,.cells [iN o.tag,iN o.ip,iN o.ik,.ptr (lid) (0),fr] true)]) (P:=Pa) (Post:=fun v P2=>∃f2,v=vf f2∧av 1 f2 [] P2) fun Y h1 h2 h3=>(GC (g:=174) (caps:=[.ptr n 0]) (l:=[.ptr oid 0]) (fun _=>true) sm kr (fun a hq x Z m hR hm ht=>by
  rw[List.mem_singleton]at hq
  subst hq
  have hR:[x]=[_]:=hR
  cases hR
  exact Dk (hm _ _ (h2 _ (List.mem_singleton.2 rfl))) (hm _ _ (h1 _ _ hbx)) ht) ha (aA.one rfl rfl)).imp fun v X2 P2 h=>by
   obtain⟨f2,fs2,h4,h5,h6⟩:=h
   have h6:fs2=[]:=h6
   rw[h6]at h5
   exact⟨f2,h4,h5⟩).on [_,_,_,_] [_,_,_] s7
 have f1:=m2 _ _ f
 refine ov 15 (J _ _) ?_
 have s9:=aa.unp [_,_,_,_] [_,_,_] [_,_] s8
 have s10:=aa.inn [_,_,_] [_,_,_,_] s9
 refine go 2 ?_
 obtain⟨_,s11,J⟩:=aI (off:=7) (new:=[opf2]) (cs':=[.ptr (sid) (0),.ptr (tid) (0),iN s.n,iN 9000,iN s.last,iN 0,iN s.tag,opf2,lf,iN s.wl]) s10 1 rfl sm rfl
 refine oe (J _ _) (aQ (dw [0,1,2,3,4,5,6,7] (sg [0,1,2] (sr (some 21) (n) trivial (am (off:=0) (s11.mono _ _ f1) rfl) (sg [4,5] (sr (some 24) (oid) trivial (am (off:=0) (s11.at 0 rfl) rfl) ?_))))))
 have s12:=aa.outAt [_] [] s11
 have s13:=aa.pck [_] [_,_,_,_,_,_] [_,_] s12
 obtain⟨_,_,_,n1,Q8,m3,s14,J,⟨rfl,lf2,wf2,Pw2,rfl,hw2,hcw2⟩⟩:=(D' (pid:=pid) (q0:=.ptr sid 0) (q1:=.ptr tid 0) (q2:=iN s.n) (q3:=iN 9000) (q4:=iN s.last) (q5:=iN 0) (q6:=iN s.tag) (q7:=opf2) (last:=s.wl) (ws:=s.ws) (P0:=cat [[(pid,.cells [.ptr (sid) (0),.ptr (tid) (0),iN s.n,iN 9000,iN s.last,iN 0,iN s.tag,opf2,lf,iN s.wl] true)],Pw]) ⟨lf,wf,Pw,rfl,hw,hcw⟩ hws (op:=o.tag)).on [_] [_,_,_,_,_,_] s13
 have f3:=m3 _ _ f1
 refine sf (some 25) (J _ _) (oR kr) (sx (nx ?_))
 have s15:=aa.unp [_] [_,_,_,_,_,_] [_,_] s14
 have s16:=aa.inn [] [_,_,_,_,_,_,_] s15
 refine sq (dw [0,1,2,3,4,5,6,7,8,9,10,11,12,13,14,15,16] (sg [0,1,2] (sr (some 29) (pid) trivial (am (off:=2) (s16.at 0 rfl) rfl) (sr (some 30) (n) trivial (am (off:=0) (s16.mono _ _ f3) rfl) (sg [5,6] (sr (some 33) (oid) trivial (am (off:=0) (s16.at 1 rfl) rfl) (sg [8] (sr (some 35) (n) trivial (am (off:=0) (s16.mono _ _ f3) rfl) (sg [10,11] (sr (some 38) (oid) trivial (aG (off:=1) (sz:=2) (c:=[iN o.ip,iN o.ik]) (s16.at 1 rfl) sm rfl) (sg [13,14] ?_)))))))))))
 obtain⟨W,_,s17,m4,f4,J⟩:=bj s16 (.cells [iN s.n,iN o.tag,.int .i64 (e),iN o.ip,iN o.ik,g] true)
 have hm0:=hm0.tr (m1.tr (m2.tr (m3.tr m4)))
 have hst:=hst.mono (m1.tr (m2.tr (m3.tr m4)))
 refine sf (some 41) (J _ _ (vf (.sl (n1) (0) 6 (1) none))) (oR kr) (sg [16] (sx (nx (rt ?_))))
 have s18:=aa.outAt [_] [] s17
 have s19:=aa.rid [_] [_,_,_,_,_,_,_] s18
 have s20:=aa.rid [_,_,_,_,_] [_,_] s19
 have s21:=aa.rid [_,_,_,_,_] [_] s20
 exact⟨.inr rfl,_,kr,W,_,aa.fin (Ps:=[_,_,_,_,_]) s21,hm0,_,rfl,f4,sid,tid,opf2,lf2,wf2,Pw2,Ps,Pt,Pa2,rfl,hw2,hcw2,hst,htk,ha2⟩
end Go.Proofs.YtkimkgbppegkhaaGreat.Cm

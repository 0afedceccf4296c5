/- The clean machine's walks of stores (5): tombstones are kept, and what is too old is forgotten. · The clean machine's walks of calls that wait. -/
import Derived.Test.YtkimkgbppegkhaaGreatKb
import Derived.Test.YtkimkgbppegkhaaGreatGn
set_option linter.unusedVariables false
set_option linter.unusedSimpArgs false
namespace Go.Proofs.YtkimkgbppegkhaaGreat.Cm
open Go Go.RowKit Go.Proofs.YtkimkgbppegkhaaGreat.Gf
set_option maxRecDepth 1000000
theorem aa.frzAt{X H:Heap}{n id:Nat}{ob:O}(A B:List (Nat×O)){L:List (List (Nat×O))}(s:aa X H n (cat ((A++(id,ob)::B)::L))):∃X',ab X X'∧aa X' H n (cat ((A++B)::L))∧X' id=some ob:=
 aa.frzC (M:=A++B) (s.perm (by
  simp only[cat]
  exact List.Perm.append_right _ List.perm_middle))
section
variable {P:Program} {H:Heap} {n:Nat} {o:Oper} {r:Operand→Option V}
noncomputable def Ad(P:Program)(o:Oper)(r:Operand→Option V):Option Nat:=match o.op with
 |.call {callee:=.builtin .len,args:=xs,argTypes:=ats}=>match ct r xs.toList,ats[0]? with
  |some [.u (.f (.map id))],some t=>match P.underlying t with
   |some (.map _ _)=>some id
   |_=>none
  |_,_=>none
 |_=>none
theorem pE{id:Nat}{es:List (U×U)}(hh:H id=some (.mp es))(hk:Ad P o r=some id:=by kernel_rfl):aE P o r H n (vi es.length) H n:=by
 unfold Ad at hk
 split at hk
 ·rename_i xs ats ho
  split at hk
  ·rename_i id' t h1 h2
   split at hk
   ·rename_i a b h3
    cases hk
    exact .prim (vi es.length,[],0) (by simp only[ho,stepOp,h1,cK,h2,gy,h3,hh])
   ·cases hk
  ·cases hk
 ·cases hk
noncomputable def tU(P:Program)(o:Oper)(r:Operand→Option V):Option Nat:=match o.op with
 |.range t x=>match P.underlying t,r x with
  |some (.map _ _),some (.u (.f (.map id)))=>some id
  |_,_=>none
 |_=>none
noncomputable def km(o:Oper)(r:Operand→Option V):Option Nat:=match o.op with
 |.next x false=>match r x with
  |some (.u (.f (.ptr id 0)))=>some id
  |_=>none
 |_=>none
noncomputable def Ac(o:Oper)(r:Operand→Option V):Option Nat:=match o.op with
 |.entry x=>match r x with
  |some (.u (.f (.ptr id 0)))=>some id
  |_=>none
 |_=>none
theorem Gr{id m si:Nat}{q:Bool}(h1:H id=some (.it (some m) si q))(h2:H m=some (.mp []))(hk:km o r=some id:=by kernel_rfl):aE P o r H n (.tup [.f (.bool false)]) H n:=by
 unfold km at hk
 split at hk
 ·rename_i x ho
  split at hk
  ·rename_i id' hx
   cases hk
   exact .prim (.tup [.f (.bool false)],[],0) (by simp only[ho,stepOp,hx,h1,h2])
  ·cases hk
 ·cases hk
theorem Gd{id m si:Nat}{e:U×U}(h1:H id=some (.it (some m) si true))(h2:H m=some (.mp [e]))(hk:km o r=some id:=by kernel_rfl):aE P o r H n (.tup [.f (.bool false)]) H n:=by
 unfold km at hk
 split at hk
 ·rename_i x ho
  split at hk
  ·rename_i id' hx
   cases hk
   exact .prim (.tup [.f (.bool false)],[],0) (by simp only[ho,stepOp,hx,h1,h2];rfl)
  ·cases hk
 ·cases hk
theorem Gv{id m si:Nat}{e:U×U}(h1:H id=some (.it (some m) (si+1) false))(h2:H m=some (.mp [e]))(hk:km o r=some id:=by kernel_rfl):aE P o r H n (.tup [.f (.bool true),e.1,e.2]) (upd H id (some (.it (some m) (si+1) true))) n:=by
 unfold km at hk
 split at hk
 ·rename_i x ho
  split at hk
  ·rename_i id' hx
   cases hk
   exact .prim (.tup [.f (.bool true),e.1,e.2],[(id,some (.it (some m) (si+1) true))],0) (by simp only[ho,stepOp,hx,h1,h2];rfl)
  ·cases hk
 ·cases hk
theorem Gn{id m si:Nat}{e:U×U}(h1:H id=some (.it (some m) si true))(h2:H m=some (.mp [e]))(hk:Ac o r=some id:=by kernel_rfl):aE P o r H n (.tup [e.1,e.2]) H n:=by
 unfold Ac at hk
 split at hk
 ·rename_i x ho
  split at hk
  ·rename_i id' hx
   cases hk
   exact .prim (.tup [e.1,e.2],[],0) (by simp only[ho,stepOp,hx,h1,h2])
  ·cases hk
 ·cases hk
theorem GK{id:Nat}{es:List (U×U)}(hh:H id=some (.mp es))(hk:tU P o r=some id:=by kernel_rfl):aE P o r H n (vf (.ptr n 0)) (upd H n (some (.it (some id) es.length false))) (n+1):=by
 unfold tU at hk
 split at hk
 ·rename_i t x ho
  split at hk
  ·rename_i a b id' h1 h2
   cases hk
   exact .prim (vf (.ptr n 0),[(n,some (.it (some id) es.length false))],1) (by simp only[ho,stepOp,h1,h2,hh])
  ·cases hk
 ·cases hk
end
section
variable {X H:Heap} {n:Nat} {M:List (Nat×O)} {L:List (List (Nat×O))}
theorem aa.setO(s:aa X H n (cat (M::L)))(j:Nat){id:Nat}{ob:O}(hj:M[j]?=some (id,ob))(ob':O):H id=some ob∧aa X (upd H id (some ob')) n (cat (M.set j (id,ob')::L)):=by
 have hj':(cat (M::L))[j]?=some (id,ob):=by
  simp only[cat]
  rw[List.getElem?_append_left]
  ·exact hj
  ·rcases Nat.lt_or_ge j M.length with h1 | h1
   ·exact h1
   ·rw[List.getElem?_eq_none h1]at hj;cases hj
 have s2:=s.set j hj' ob'
 rw[sj hj]at s2
 exact⟨s.at j hj',s2⟩
theorem HE(s:aa X H n (cat (M::L)))(j:Nat){id:Nat}{es es':List (U×U)}{k v:U}(hj:M[j]?=some (id,.mp es))(hf:cg k es 0=some none)(he:es++[(k,v)]=es'):
 ∃H',aa X H' n (cat (M.set j (id,.mp es')::L))∧∀(o:Oper) (r:Operand→Option V) (_:qu Tryz.prog o r=some (id,k,v):=by kernel_rfl),aE Tryz.prog o r H n cy H' n:=by
 subst he
 obtain⟨h1,h2⟩:=s.setO j hj (.mp (es++[(k,v)]))
 exact⟨_,h2,fun o r hk=>Al h1 hf hk⟩
theorem GV(s:aa X H n (cat (M::L)))(j:Nat){id m si:Nat}{e:U×U}(hj:M[j]?=some (id,.it (some m) (si+1) false))(hm:H m=some (.mp [e])):
 ∃H',aa X H' n (cat (M.set j (id,.it (some m) (si+1) true)::L))∧∀(o:Oper) (r:Operand→Option V) (_:km o r=some id:=by kernel_rfl),aE Tryz.prog o r H n (.tup [.f (.bool true),e.1,e.2]) H' n:=by
 obtain⟨h1,h2⟩:=s.setO j hj (.it (some m) (si+1) true)
 exact⟨_,h2,fun o r hk=>Gv h1 hm hk⟩
theorem yg(s:aa X H n (cat (M::L))){id:Nat}{es:List (U×U)}(hh:H id=some (.mp es)):
 ∃H',aa X H' (n+1) (cat (((n,.it (some id) es.length false)::M)::L))∧∀(o:Oper) (r:Operand→Option V) (_:tU Tryz.prog o r=some id:=by kernel_rfl),aE Tryz.prog o r H n (vf (.ptr n 0)) H' (n+1):=
 ⟨_,s.newM _,fun o r hk=>GK hh hk⟩
end
def eX:Rg→Nat
 |.sy _ _ u _ _ _ _ _ _=>u
 |.tb _ _ u=>u
theorem aV.ex3{X:Heap}{r:Rg}{c:List F}(h:aV X r c):∃x2 x3 x4 x5 x6 x7 x9:F,c=[iN (bu r).1,iN (bu r).2,x2,x3,x4,x5,x6,x7,iN (eX r),x9]:=by
 cases r with
 |sy ip ik u B N M b e d=>obtain⟨g,rfl,_⟩:=h;exact⟨_,_,_,_,_,_,_,rfl⟩
 |tb ip ik u=>have h:c=_:=h;subst h;exact⟨_,_,_,_,_,_,_,rfl⟩
theorem F4{X:Heap}{n:Nat}{r:Rg}{ip ik u bid:Nat}{x2 x3 x4 x5 x6 x7 x9:F}(hb:X bid=some (.cells [iN ip,iN ik,.int .i64 0,.int .i64 0,.int .i64 0,.int .i64 0,.int .i64 0,.bool true,iN u,.sl0] true))(ht:ap X n):af 239 [.u (.agg [iN ((bu r).1),iN ((bu r).2),x2,x3,x4,x5,x6,x7,iN (eX r),x9]),vf (.ptr (bid) (0))] X n fun v _=>v=vf (.bool (aW ip ik r)):=by
 refine af.of_to kr ?_
 have s0:aa X X n (cat [[]]):=aa.ini ht
 have hm0:ab X X:=ab.rfl
 by_cases hq:(bu r).1=ip∧(bu r).2=ik
 ·refine ag ?_
  obtain⟨_,s,J⟩:=ay s0 (.cells [iN ((bu r).1),iN ((bu r).2),x2,x3,x4,x5,x6,x7,iN (eX r),x9] true)
  refine ov 2 (J _ _ (vf (.ptr (n) (0)))) (ae 1 (ai 1 (ov 5 (la 0 2 [iN ((bu r).1),iN ((bu r).2)] (s.at 0 rfl)) (go 1 (ov 7 (la 0 2 [iN ip,iN ik] (s.mono _ _ hb)) (ov 8 (jo (e:=true) (z:=true) (ks:=[true,true]) (xs:=[iN ((bu r).1),iN ((bu r).2)]) (ys:=[iN ip,iN ik]) (by simp[cm,hq.1,hq.2])) (ax 1 ?_)))))))
  exact⟨.inr rfl,_,kr,X,_,s,hm0,by rw[show aW ip ik r=true from decide_eq_true hq]⟩
 ·refine ag ?_
  obtain⟨_,s,J⟩:=ay s0 (.cells [iN ((bu r).1),iN ((bu r).2),x2,x3,x4,x5,x6,x7,iN (eX r),x9] true)
  refine ov 2 (J _ _ (vf (.ptr (n) (0)))) (ae 1 (ai 1 (ov 5 (la 0 2 [iN ((bu r).1),iN ((bu r).2)] (s.at 0 rfl)) (go 1 (ov 7 (la 0 2 [iN ip,iN ik] (s.mono _ _ hb)) (ov 8 (jo (e:=true) (z:=false) (ks:=[true,true]) (xs:=[iN ((bu r).1),iN ((bu r).2)]) (ys:=[iN ip,iN ik]) (by simp only[cm,if_true];congr 1;rw[Bool.eq_iff_iff];simp;omega)) (ax 1 ?_)))))))
  exact⟨.inr rfl,_,kr,X,_,s,hm0,by rw[show aW ip ik r=false from decide_eq_false hq]⟩
theorem yU{X:Heap}{n:Nat}{r:Rg}{now bid:Nat}{x2 x3 x4 x5 x6 x7 x9:F}(hb:X bid=some (.cells [iN now] true))(hu:now≤eX r)(ht:ap X n):af 119 [.u (.agg [iN ((bu r).1),iN ((bu r).2),x2,x3,x4,x5,x6,x7,iN (eX r),x9]),vf (.ptr (bid) (0))] X n fun v _=>v=vf (.bool false):=by
 refine af.of_to kr ?_
 have s0:aa X X n (cat [[]]):=aa.ini ht
 have hm0:ab X X:=ab.rfl
 refine ag ?_
 obtain⟨_,s,J⟩:=ay s0 (.cells [iN ((bu r).1),iN ((bu r).2),x2,x3,x4,x5,x6,x7,iN (eX r),x9] true)
 refine ov 2 (J _ _ (vf (.ptr (n) (0)))) (ae 1 (ai 1 (ov 5 (ld 8 (s.at 0 rfl) rfl) (ov 6 (ld 0 (s.mono _ _ hb) rfl) (ov 7 (lF (eX r) now) (ax 1 ?_))))))
 exact⟨.inr rfl,_,kr,X,_,s,hm0,rfl⟩
theorem Aw{X:Heap}{n:Nat}{sid:Nat}{st:bi}{P0:List (Nat×O)}(hst:bZ X sid st P0){ip ik u:Nat}(hgu:bK st.gone ip ik=none)(hlt:st.sy.length≤1000):al 216 [vf (.ptr (sid) (0)),.u (.agg [iN ip,iN ik,.int .i64 0,.int .i64 0,.int .i64 0,.int .i64 0,.int .i64 0,.bool true,iN u,.sl0])] X n (P0) fun v X' P'=>v=.tup [.agg [iN ip,iN ik,.int .i64 0,.int .i64 0,.int .i64 0,.int .i64 0,.int .i64 0,.bool true,iN u,.sl0],.f (.bool true)]∧bZ X' sid {st with gone:=st.gone++[(ip,ik,u)],sy:=st.sy.filter fun r=> !aW ip ik r} P':=by
 obtain⟨b,sure,syf,mid,log,fs,pb,ps,rfl,hb,hlg,hs,hc⟩:=hst
 refine al.of_to (Ps:=[[(sid,.cells [b,iN sure,iN 500,syf,.map (mid)] true),(mid,.mp (c8 st.gone))],pb,ps]) kr fun R H0 s0=>?_
 have hm0:ab X X:=ab.rfl
 have hj:=og st.gone ip ik 0 hgu
 refine ag ?_
 obtain⟨_,s,J⟩:=ay s0 (.cells [iN ip,iN ik,.int .i64 0,.int .i64 0,.int .i64 0,.int .i64 0,.int .i64 0,.bool true,iN u,.sl0] true)
 refine ov 3 (J _ _ (vf (.ptr (n) (0)))) ?_
 obtain⟨_,s1,J⟩:=ay s (.cells [.int .i64 0,.int .i64 0,.int .i64 0,.int .i64 0,.int .i64 0,.int .i64 0,.int .i64 0,.bool false,.int .i64 0,.sl0] true)
 refine ov 4 (J _ _ (vf (.ptr (n+1) (0)))) (ae 1 (sq (dw [0,1,2,3,4,5,6,7,8,9,10,11] (sg [0,1,2] (sr (some 12) (sid) trivial (am (off:=4) (s1.at 2 rfl) rfl) (sg [4] (sr (some 14) (n) trivial (aG (off:=0) (sz:=2) (c:=[iN ip,iN ik]) (s1.at 1 rfl) sm rfl) (sr (some 15) (mid) trivial (tE (z:=.f (iN 0)) (s1.at 3 rfl) hj) ?_))))))))
 obtain⟨_,m1,s2,f1⟩:=aa.frzAt [_] [_,_] s1
 have hc:=hc.mono fun _ _ q=>q.mono _ _ _ _ m1
 have hbx:=f1
 refine sg [7,8,9,10,11] (sx (nx (sq (ah 7 (ar (nx (ai 4 (ov 30 (ld 3 (s2.at 1 rfl) rfl) (go 1 ?_)))))))))
 obtain⟨_,W,_,_,ps2,m2,s3,J,⟨f2,fn2,rfl,hn2,hcn2⟩⟩:=(o_ (l:=st.sy) (g:=239) (caps:=[.ptr n 0]) (aW ip ik) om kr (fun a _ c Y m hR hm ht=>by
  obtain⟨x2,x3,x4,x5,x6,x7,x9,rfl⟩:=hR.ex3
  exact F4 (hm _ _ hbx) ht) hs hc).on [_,_] [_] s2
 have f3:=m2 _ _ f1
 have hm0:=hm0.tr (m1.tr m2)
 refine ov 32 (J _ _) (go 2 ?_)
 obtain⟨_,s4,J⟩:=aI (off:=3) (new:=[f2]) (cs':=[b,iN sure,iN 500,f2,.map (mid)]) s3 1 rfl sm rfl
 refine oe (J _ _) (aQ (dw [0,1,2,3,4,5,6,7,8] (sg [0,1,2] (sr (some 38) (sid) trivial (am (off:=4) (s4.at 1 rfl) rfl) (sg [4] (sr (some 40) (n) trivial (aG (off:=0) (sz:=2) (c:=[iN ip,iN ik]) (s4.mono _ _ f3) sm rfl) (sg [6] (sr (some 42) (n) trivial (am (off:=8) (s4.mono _ _ f3) rfl) ?_))))))))
 obtain⟨_,s5,J⟩:=HE (es':=c8 (st.gone++[(ip,ik,u)])) (k:=.agg [iN ip,iN ik]) (v:=.f (iN u)) s4 2 rfl hj (by simp[c8])
 refine sf none (J _ _) (oR kr) (sx (nx (ag (ov 43 (la 0 10 [iN ip,iN ik,.int .i64 0,.int .i64 0,.int .i64 0,.int .i64 0,.int .i64 0,.bool true,iN u,.sl0] (s5.mono _ _ f3)) ?_))))
 obtain⟨_,s6,J⟩:=aI (off:=0) (new:=[iN ip,iN ik,.int .i64 0,.int .i64 0,.int .i64 0,.int .i64 0,.int .i64 0,.bool true,iN u,.sl0]) (cs':=[iN ip,iN ik,.int .i64 0,.int .i64 0,.int .i64 0,.int .i64 0,.int .i64 0,.bool true,iN u,.sl0]) s5 0 rfl sm rfl
 refine oe (J _ _) (ax 1 ?_)
 exact⟨.inr rfl,_,cS (s6.at 0 rfl) kr kr,W,_,aa.fin (Ps:=[_,_,_]) (aa.tl s6),hm0,rfl,_,_,_,_,_,_,_,_,rfl,hb,hlg,hn2,hcn2⟩
theorem AO{X:Heap}{n:Nat}{sid:Nat}{st:bi}{P0:List (Nat×O)}(hst:bZ X sid st P0){now:Nat}(hg:st.gone=[])(hsu:∀r∈st.sy,now≤eX r)(hlt:st.sy.length≤1000):al 83 [vf (.ptr (sid) (0)),vi now] X n (P0) fun v X' P'=>(∃k:Int,v=vf (.int .i64 k))∧bZ X' sid st P':=by
 obtain⟨gone,sy,lg⟩:=st
 simp only at hg hsu hlt
 subst hg
 obtain⟨b,sure,syf,mid,log,fs,pb,ps,rfl,hb,hlg,hs,hc⟩:=hst
 refine al.of_to (Ps:=[[(sid,.cells [b,iN sure,iN 500,syf,.map (mid)] true),(mid,.mp (c8 []))],pb,ps]) kr fun R H0 s0=>?_
 have hm0:ab X X:=ab.rfl
 refine ag ?_
 obtain⟨_,s,J⟩:=ay s0 (.cells [iN now] true)
 refine ov 3 (J _ _ (vf (.ptr (n) (0)))) ?_
 obtain⟨_,m1,s1,f⟩:=aa.frzC s
 have hc:=hc.mono fun _ _ q=>q.mono _ _ _ _ m1
 have hbx:=f
 refine ae 1 (sq (ah 2 (ar (nx (sq (dw [0,1,2,3,4,5,6,7,8,9,10,11] (sg [0,1,2] (sr (some 13) (sid) trivial (am (off:=3) (s1.at 0 rfl) rfl) (sr (some 14) (dC (some (vf (syf)))) trivial (fw (l:=sy.length) (hs.lenC om hc)) (sg [5,6,7] (sr (some 18) (sid) trivial (am (off:=4) (s1.at 0 rfl) rfl) (sr (some 19) (mid) trivial (pE (s1.at 1 rfl) kr) (ss (some 20) (au (eo (sy.length) (0) om)) (sg [11] (sx (nx (ai 4 (ov 25 (ld 3 (s1.at 0 rfl) rfl) (go 1 ?_)))))))))))))))))))
 obtain⟨_,W,_,n1,ps2,m2,s2,J,⟨f2,fn2,rfl,hn2,hcn2⟩⟩:=(o_ (l:=sy) (g:=119) (caps:=[.ptr n 0]) (fun _=>false) om kr (fun a ha c Y m hR hm ht=>by
  obtain⟨x2,x3,x4,x5,x6,x7,x9,rfl⟩:=hR.ex3
  exact yU (hm _ _ hbx) (hsu a ha) ht) hs hc).on [_,_] [_] s1
 have f1:=m2 _ _ f
 have hm0:=hm0.tr (m1.tr m2)
 have hbx:=m2 _ _ hbx
 refine ov 27 (J _ _) ?_
 have hcn2:aA (aV W) 10 sy fn2:=by
  rw[show sy.filter (fun a=> !((fun _=>false) a))=sy from List.filter_eq_self.2 fun _ _=>rfl]at hcn2
  exact hcn2
 refine go 2 ?_
 obtain⟨_,s3,J⟩:=aI (off:=3) (new:=[f2]) (cs':=[b,iN sure,iN 500,f2,.map (mid)]) s2 0 rfl sm rfl
 refine oe (J _ _) (aj (aP 3 (ov 33 (ld 4 (s3.at 0 rfl) rfl) ?_)))
 obtain⟨_,s4,J⟩:=yg s3 (s3.at 1 rfl)
 refine ov 34 (J _ _) (aj (bk 0 (lp (aC.for (0) (fun i A Hq nq=>∃(Y:Heap),aL A [(0,vf (.ptr (sid) (0))),(5,vi (sy.length+0)),(34,vf (.ptr (n1) (0)))]∧aa Y Hq nq (cat [[(n1,.it (some mid) 0 false),(sid,.cells [b,iN sure,iN 500,f2,.map (mid)] true),(mid,.mp (c8 []))],pb,ps2,R])∧(ab X Y)∧(aA (aV Y) 10 sy fn2)) ⟨W,az (ts:=[0,5,34]) kr,s4,(hm0),(hcn2)⟩ (fun i A H n2 hi hI=>?_) (fun A H n2 hI=>?_)))))
 ·obtain⟨Y,hT,_,hm0,hcn2⟩:=hI
  refine To.keep _ ?_ hT.sub
  exact absurd hi om
 ·obtain⟨Y,hT,s5,hm0,hcn2⟩:=hI
  refine To.keep _ ?_ hT.sub
  refine ag (ov 35 (Gr (s5.at 0 rfl) (s5.at 2 rfl) kr) (ae 1 (sq (iF (xt 0 ?_)))))
  refine⟨sm,?_⟩
  show To Tryz.prog 83 [1,1,1,1,1] _ _ _ _
  refine sq (dw [0,1,2,3,4,5,6,7,8,9,10,11,12,13] (sg [0,1,2,3] (sr (some 52) (sid) trivial (am (off:=3) (s5.at 1 rfl) rfl) (sr (some 53) (dC (some (vf (f2)))) trivial (fw (l:=sy.length) (hn2.lenC om hcn2)) (ss (some 54) (au (iH (sy.length+0) (sy.length) om om)) (sg [7,8,9] (sr (some 58) (sid) trivial (am (off:=4) (s5.at 1 rfl) rfl) (sr (some 59) (mid) trivial (pE (s5.at 2 rfl) kr) (ss (some 60) (au (iH ((sy.length+0)-sy.length) (0) om om)) (sg [13] (sx (nx (rt ?_)))))))))))))
  exact⟨.inr rfl,vi (sy.length+0-sy.length-0),kr,Y,_,aa.fin (Ps:=[_,_,_]) (aa.tl s5),hm0,⟨_,rfl⟩,_,_,_,_,_,_,_,_,rfl,hb,hlg,hn2,hcn2⟩
theorem AP{X:Heap}{n:Nat}{sid:Nat}{st:bi}{P0:List (Nat×O)}(hst:bZ X sid st P0){now:Nat}{a b2 u2:Nat}(hg:st.gone=[(a,b2,u2)])(hu:now≤u2)(hsu:∀r∈st.sy,now≤eX r)(hlt:st.sy.length≤1000):al 83 [vf (.ptr (sid) (0)),vi now] X n (P0) fun v X' P'=>(∃k:Int,v=vf (.int .i64 k))∧bZ X' sid st P':=by
 obtain⟨gone,sy,lg⟩:=st
 simp only at hg hsu hlt
 subst hg
 obtain⟨b,sure,syf,mid,log,fs,pb,ps,rfl,hb,hlg,hs,hc⟩:=hst
 refine al.of_to (Ps:=[[(sid,.cells [b,iN sure,iN 500,syf,.map (mid)] true),(mid,.mp (c8 [(a,b2,u2)]))],pb,ps]) kr fun R H0 s0=>?_
 have hm0:ab X X:=ab.rfl
 refine ag ?_
 obtain⟨_,s,J⟩:=ay s0 (.cells [iN now] true)
 refine ov 3 (J _ _ (vf (.ptr (n) (0)))) ?_
 obtain⟨_,m1,s1,f1⟩:=aa.frzC s
 have hc:=hc.mono fun _ _ q=>q.mono _ _ _ _ m1
 have hbx:=f1
 refine ae 1 (sq (ah 2 (ar (nx (sq (dw [0,1,2,3,4,5,6,7,8,9,10,11] (sg [0,1,2] (sr (some 13) (sid) trivial (am (off:=3) (s1.at 0 rfl) rfl) (sr (some 14) (dC (some (vf (syf)))) trivial (fw (l:=sy.length) (hs.lenC om hc)) (sg [5,6,7] (sr (some 18) (sid) trivial (am (off:=4) (s1.at 0 rfl) rfl) (sr (some 19) (mid) trivial (pE (s1.at 1 rfl) kr) (ss (some 20) (au (eo (sy.length) (1) om)) (sg [11] (sx (nx (ai 4 (ov 25 (ld 3 (s1.at 0 rfl) rfl) (go 1 ?_)))))))))))))))))))
 obtain⟨_,W,_,n1,ps2,m2,s2,J,⟨f2,fn2,rfl,hn2,hcn2⟩⟩:=(o_ (l:=sy) (g:=119) (caps:=[.ptr n 0]) (fun _=>false) om kr (fun a ha c Y m hR hm ht=>by
  obtain⟨x2,x3,x4,x5,x6,x7,x9,rfl⟩:=hR.ex3
  exact yU (hm _ _ hbx) (hsu a ha) ht) hs hc).on [_,_] [_] s1
 have f3:=m2 _ _ f1
 have hm0:=hm0.tr (m1.tr m2)
 have hbx:=m2 _ _ hbx
 refine ov 27 (J _ _) ?_
 have hcn2:aA (aV W) 10 sy fn2:=by
  rw[show sy.filter (fun a=> !((fun _=>false) a))=sy from List.filter_eq_self.2 fun _ _=>rfl]at hcn2
  exact hcn2
 refine go 2 ?_
 obtain⟨_,s3,J⟩:=aI (off:=3) (new:=[f2]) (cs':=[b,iN sure,iN 500,f2,.map (mid)]) s2 0 rfl sm rfl
 refine oe (J _ _) (aj (aP 3 (ov 33 (ld 4 (s3.at 0 rfl) rfl) ?_)))
 obtain⟨_,s4,J⟩:=yg s3 (s3.at 1 rfl)
 refine ov 34 (J _ _) (aj (bk 0 (lp (aC.for (1) (fun i A Hq nq=>∃(Y:Heap),aL A [(0,vf (.ptr (sid) (0))),(3,vf (.ptr (n) (0))),(5,vi (sy.length+1)),(34,vf (.ptr (n1) (0)))]∧aa Y Hq nq (cat [[(n1,.it (some mid) 1 (decide (i=1))),(sid,.cells [b,iN sure,iN 500,f2,.map (mid)] true),(mid,.mp (c8 [(a,b2,u2)]))],pb,ps2,R])∧(ab X Y)∧(aA (aV Y) 10 sy fn2)∧(Y n=some (.cells [iN now] true))) ⟨W,az (ts:=[0,3,5,34]) kr,s4,(hm0),(hcn2),(hbx)⟩ (fun i A H n2 hi hI=>?_) (fun A H n2 hI=>?_)))))
 ·obtain⟨Y,hT,s5,hm0,hcn2,hbx⟩:=hI
  refine To.keep _ ?_ hT.sub
  obtain rfl:i=0:=by omega
  refine ag ?_
  obtain⟨_,s6,J⟩:=GV (e:=(.agg [iN a,iN b2],.f (iN u2))) (si:=0) s5 0 rfl (s5.at 2 rfl)
  refine ov 35 (J _ _) (ae 1 (sq (aM (nx (bk 1 (ag (ov 37 (Gn (e:=(.agg [iN a,iN b2],.f (iN u2))) (s6.at 0 rfl) (s6.at 2 rfl) kr) (go 2 ?_))))))))
  obtain⟨_,s7,J⟩:=ay s6 (.cells [.int .i64 0,.int .i64 0] true)
  refine ov 6 (J _ _ (vf (.ptr (n2) (0)))) ?_
  obtain⟨_,s8,J⟩:=aI (off:=0) (new:=[iN a,iN b2]) (cs':=[iN a,iN b2]) s7 0 rfl sm rfl
  refine oe (J _ _) (ae 1 (ai 1 (ov 41 (ld 0 (s8.mono _ _ hbx) rfl) (ov 42 (lF u2 now) (aj ?_)))))
  have s9:=aa.tl s8
  refine iF (To.skip kr ?_)
  exact .inl ⟨rfl,Y,az (ts:=[0,3,5,34]) kr,s9,(hm0),(hcn2),(hbx)⟩
 ·obtain⟨Y,hT,s10,hm0,hcn2,hbx⟩:=hI
  refine To.keep _ ?_ hT.sub
  refine ag (ov 35 (Gd (e:=(.agg [iN a,iN b2],.f (iN u2))) (s10.at 0 rfl) (s10.at 2 rfl) kr) (ae 1 (sq (iF (xt 0 ?_)))))
  refine⟨sm,?_⟩
  show To Tryz.prog 83 [1,1,1,1,1] _ _ _ _
  refine sq (dw [0,1,2,3,4,5,6,7,8,9,10,11,12,13] (sg [0,1,2,3] (sr (some 52) (sid) trivial (am (off:=3) (s10.at 1 rfl) rfl) (sr (some 53) (dC (some (vf (f2)))) trivial (fw (l:=sy.length) (hn2.lenC om hcn2)) (ss (some 54) (au (iH (sy.length+1) (sy.length) om om)) (sg [7,8,9] (sr (some 58) (sid) trivial (am (off:=4) (s10.at 1 rfl) rfl) (sr (some 59) (mid) trivial (pE (s10.at 2 rfl) kr) (ss (some 60) (au (iH ((sy.length+1)-sy.length) (1) om om)) (sg [13] (sx (nx (rt ?_)))))))))))))
  exact⟨.inr rfl,vi (sy.length+1-sy.length-1),kr,Y,_,aa.fin (Ps:=[_,_,_]) (aa.tl s10),hm0,⟨_,rfl⟩,_,_,_,_,_,_,_,_,rfl,hb,hlg,hn2,hcn2⟩
/-- a call that waits -/
structure Wt where
 tag:Nat
 op:Nat
 peer:Nat
 til:Nat
abbrev i3(w:Wt):List F:=[iN w.tag,iN w.op,iN w.peer,iN w.til]
def jZ(w:Wt)(c:List F):Prop:=c=i3 w
/-- a peer's object: its calls are its last two cells -/
abbrev As(pid:Nat)(q0 q1 q2 q3 q4 q5 q6 q7 lf:F)(last:Nat):List (Nat×O):=[(pid,.cells [q0,q1,q2,q3,q4,q5,q6,q7,lf,iN last] true)]
def fE(pid:Nat)(q0 q1 q2 q3 q4 q5 q6 q7:F)(last:Nat)(ws:List Wt)(P:List (Nat×O)):Prop:=∃lf fl pl,P=cat [As pid q0 q1 q2 q3 q4 q5 q6 q7 lf last,pl]∧av 4 lf fl pl∧aA jZ 4 ws fl
theorem aa.rid{X H:Heap}{n:Nat}(A B:List (List (Nat×O))){M:List (Nat×O)}(s:aa X H n (cat (A++M::B))):aa X H n (cat (A++B)):=s.sub (by
 rw[bT,bT,cat]
 exact List.Sublist.append (List.Sublist.refl _) (List.sublist_append_right _ _))
theorem aa.swap{X H:Heap}{n:Nat}(A B:List (List (Nat×O))){M N:List (Nat×O)}(s:aa X H n (cat (A++M::N::B))):aa X H n (cat (A++N::M::B)):=s.perm (by
 rw[bT,bT]
 simp only[cat,←List.append_assoc]
 exact List.Perm.append_right _ (by rw[List.append_assoc,List.append_assoc];exact List.Perm.append_left _ List.perm_append_comm))
theorem qY{X:Heap}{n:Nat}{pid:Nat}{q0 q1 q2 q3 q4 q5 q6 q7:F}{last:Nat}{ws:List Wt}{P0:List (Nat×O)}(hwt:fE pid q0 q1 q2 q3 q4 q5 q6 q7 last ws P0)(hwl:ws.length≤1000){g:Nat}{caps:List F}(p:Wt→Bool)(hgo:bX Tryz.prog g=true)(hg:∀w∈ws,∀Y m,ab X Y→ap Y m→af g ([.u (.agg (i3 w))]++caps.map fun x=>.u (.f x)) Y m fun v _=>v=vf (.bool (p w))):al 168 [vf (.ptr (pid) (8)),.u (.fn g caps)] X n (P0) fun v _ P'=>∃a fa Pa b fb Pb,v=vf a∧P'=cat [As pid q0 q1 q2 q3 q4 q5 q6 q7 b last,Pb,Pa]∧av 4 a fa Pa∧aA jZ 4 (ws.filter p) fa∧(fa=[]→a=.sl0)∧av 4 b fb Pb∧aA jZ 4 (ws.filter fun w=> !p w) fb:=by
 obtain⟨lf,fl,pl,rfl,hl,hc⟩:=hwt
 refine al.of_to (Ps:=[[(pid,.cells [q0,q1,q2,q3,q4,q5,q6,q7,lf,iN last] true)],pl]) kr fun R H0 s0=>?_
 have hm0:ab X X:=ab.rfl
 refine ah 1 (sq (ah 2 (ar (nx (ah 2 (aP 3 (ov 14 (ld 8 (s0.at 0 rfl) rfl) (ov 15 (lv ws.length (hl.lenC om hc)) (ae 1 (bk 0 (lp (aC.for (ws.length) (fun i A Hq nq=>∃(Y:Heap) (a:F) (Pa:List (Nat×O)) (fa:List F) (b:F) (Pb:List (Nat×O)) (fb:List F),aL A [(0,vf (.ptr (pid) (8))),(1,.u (.fn g caps)),(5,vf (a)),(6,vf (b)),(14,vf (lf)),(15,vi ws.length),(16,vi i)]∧aa Y Hq nq (cat [[(pid,.cells [q0,q1,q2,q3,q4,q5,q6,q7,lf,iN last] true)],pl,Pa,Pb,R])∧(ab X Y)∧(av 4 a fa Pa)∧(aA jZ 4 ((ws.take i).filter p) fa)∧(fa=[]→a=.sl0)∧(av 4 b fb Pb)∧(aA jZ 4 ((ws.take i).filter fun w=> !p w) fb)) ⟨X,.sl0,[],[],.sl0,[],[],az (ts:=[0,1,5,6,14,15,16]) kr,s0,(hm0),(av.nil 4),(rfl),(fun _=>rfl),(av.nil 4),(rfl)⟩ (fun i A H1 n2 hi hI=>?_) (fun A H1 n2 hI=>?_)))))))))))))
 ·obtain⟨Y,a,Pa,fa,b,Pb,fb,hT,s3,hm0,ha,hca,ha0,hb,hcb⟩:=hI
  refine To.keep _ ?_ hT.sub
  obtain⟨w,hx⟩:∃w,ws[i]?=some w:=⟨_,List.getElem?_eq_getElem hi⟩
  obtain⟨k,cs,exb,c,rfl,h2,h3,h4,hcl,hR,_⟩:=hl.at om hc hx [_] [_,_,_] s3
  have hR:c=i3 w:=hR
  subst hR
  have hfa:=hca.len
  have hfb:=hcb.len
  have hla:((ws.take i).filter p).length≤i:=Nat.le_trans (List.length_filter_le _ _) (by rw[List.length_take];omega)
  have hlb:((ws.take i).filter fun w=> !p w).length≤i:=Nat.le_trans (List.length_filter_le _ _) (by rw[List.length_take];omega)
  refine ag (ov 17 (lT i ws.length) (aQ (aM (nx (aD 1 (ag (ov 18 (ix k 0 4 ws.length i) (ov 19 (aG (id:=k) (off:=0+i*4) (sz:=4) (c:=i3 w) h2 h3 h4) ?_))))))))
  cases hp:p w
  ·obtain⟨H4,s5,J6⟩:=ay s3 (.cells [.int .i64 0,.int .i64 0,.int .i64 0,.int .i64 0] true)
   refine ov 8 (J6 _ _ (vf (.ptr (n2) (0)))) ?_
   obtain⟨H7,s8,J9⟩:=aI (off:=0) (new:=[iN w.tag,iN w.op,iN w.peer,iN w.til]) (cs':=[iN w.tag,iN w.op,iN w.peer,iN w.til]) s5 0 rfl sm rfl
   refine oe (J9 _ _) (aj (ai 1 (ov 21 (la 0 4 [iN w.tag,iN w.op,iN w.peer,iN w.til] (s8.at 0 rfl)) ?_)))
   obtain⟨_,_,_,n1,m1,s,J,rfl⟩:=(((hg w (List.mem_of_getElem? hx) _ _ hm0 s8.topX).imp fun v _ h=>(h.trans (by rw[hp]):v=vf (.bool false))):af g ([.u (.agg [iN w.tag,iN w.op,iN w.peer,iN w.til])]++caps.map fun x=>.u (.f x)) Y (n2+1) _).on s8
   refine ov 22 (J _ _ kr hgo) (aj (iF (rg (go 1 (ov 28 (la 0 4 [iN w.tag,iN w.op,iN w.peer,iN w.til] (s.at 0 rfl)) ?_)))))
   obtain⟨W,_,s,m2,f1,J⟩:=bj s (.cells [iN w.tag,iN w.op,iN w.peer,iN w.til] true)
   have hm0:=hm0.tr (m1.tr m2)
   refine ov 29 (J _ _ (vf (.sl (n1) (0) 4 (1) none))) ?_
   obtain⟨_,_,_,_,ho26,s,J⟩:=b6 (sz:=4) (bytes:=32) (x:=.sl (n1) (0) 4 (1) none) (new:=[iN w.tag,iN w.op,iN w.peer,iN w.til]) [_,_,_] [_] s (hb) (bf (s.mono _ _ f1) rfl) (rfl) om om
   refine ov 30 (J _ _) ?_
   have s:=aa.tl s
   refine ae 1 (rg (ov 31 (aN i 1) (aR 1 ?_)))
   exact .inl ⟨rfl,W,_,_,_,_,_,_,az (ts:=[0,1,5,6,14,15,16]) kr,s,(hm0),(ha),(by rw[bU hx,List.filter_append];simpa[hp]using hca),(ha0),(ho26),(by rw[bU hx,List.filter_append];simpa[hp]using hcb.snoc (a:=w) rfl rfl)⟩
  ·obtain⟨_,s,J⟩:=ay s3 (.cells [.int .i64 0,.int .i64 0,.int .i64 0,.int .i64 0] true)
   refine ov 8 (J _ _ (vf (.ptr (n2) (0)))) ?_
   obtain⟨_,s,J⟩:=aI (off:=0) (new:=[iN w.tag,iN w.op,iN w.peer,iN w.til]) (cs':=[iN w.tag,iN w.op,iN w.peer,iN w.til]) s 0 rfl sm rfl
   refine oe (J _ _) (aj (ai 1 (ov 21 (la 0 4 [iN w.tag,iN w.op,iN w.peer,iN w.til] (s.at 0 rfl)) ?_)))
   obtain⟨_,_,_,n3,m3,s,J,rfl⟩:=(((hg w (List.mem_of_getElem? hx) _ _ hm0 s.topX).imp fun v _ h=>(h.trans (by rw[hp]):v=vf (.bool true))):af g ([.u (.agg [iN w.tag,iN w.op,iN w.peer,iN w.til])]++caps.map fun x=>.u (.f x)) Y (n2+1) _).on s
   refine ov 22 (J _ _ kr hgo) (aj (iT (rg (go 1 (ov 24 (la 0 4 [iN w.tag,iN w.op,iN w.peer,iN w.til] (s.at 0 rfl)) ?_)))))
   obtain⟨W,_,s,m4,f2,J⟩:=bj s (.cells [iN w.tag,iN w.op,iN w.peer,iN w.til] true)
   have hm0:=hm0.tr (m3.tr m4)
   refine ov 25 (J _ _ (vf (.sl (n3) (0) 4 (1) none))) ?_
   obtain⟨_,_,_,_,ho52,s,J⟩:=b6 (sz:=4) (bytes:=32) (x:=.sl (n3) (0) 4 (1) none) (new:=[iN w.tag,iN w.op,iN w.peer,iN w.til]) [_,_] [_,_] s (ha) (bf (s.mono _ _ f2) rfl) (rfl) om om
   refine ov 26 (J _ _) ?_
   have s:=aa.tl s
   refine ae 1 (rg (ov 31 (aN i 1) (aR 1 ?_)))
   exact .inl ⟨rfl,W,_,_,_,_,_,_,az (ts:=[0,1,5,6,14,15,16]) kr,s,(hm0),(ho52),(by rw[bU hx,List.filter_append];simpa[hp]using hca.snoc (a:=w) rfl rfl),(fun h=>by simp at h),(hb),(by rw[bU hx,List.filter_append];simpa[hp]using hcb)⟩
 ·obtain⟨Y,a,Pa,fa,b,Pb,fb,hT,s,hm0,ha,hca,ha0,hb,hcb⟩:=hI
  refine To.keep _ ?_ hT.sub
  refine ag (ov 17 (lF ws.length ws.length) (aj ?_))
  rw[List.take_length]at hca hcb
  refine sq (iF (xt 0 ?_))
  refine⟨sm,?_⟩
  show To Tryz.prog 168 [1,1,1,1] _ _ _ _
  refine ai 4 ?_
  obtain⟨_,s,J⟩:=aI (off:=8) (new:=[b]) (cs':=[q0,q1,q2,q3,q4,q5,q6,q7,b,iN last]) s 0 rfl sm rfl
  refine oe (J _ _) (aj (ah 2 (rt ?_)))
  exact⟨.inr rfl,vf a,kr,Y,_,aa.fin (Ps:=[_,_,_]) (aa.swap [_] [_] (aa.rid [_] [_,_,_] s)),hm0,a,fa,Pa,b,fb,Pb,rfl,rfl,ha,hca,ha0,hb,hcb⟩
theorem CA{X:Heap}{n:Nat}{w:Wt}{tb pb tag peer:Nat}(h1:X tb=some (.cells [iN tag] true))(h2:X pb=some (.cells [iN peer] true))(ht:ap X n):af 228 [.u (.agg [iN w.tag,iN w.op,iN w.peer,iN w.til]),vf (.ptr (tb) (0)),vf (.ptr (pb) (0))] X n fun v _=>v=vf (.bool (decide (w.tag=tag∧w.peer=peer))):=by
 refine af.of_to kr ?_
 have s0:aa X X n (cat [[]]):=aa.ini ht
 have hm0:ab X X:=ab.rfl
 by_cases hq:w.tag=tag
 ·refine ag ?_
  obtain⟨_,s,J⟩:=ay s0 (.cells [iN w.tag,iN w.op,iN w.peer,iN w.til] true)
  refine ov 3 (J _ _ (vf (.ptr (n) (0)))) (ae 1 (ai 1 (ov 6 (ld 0 (s.at 0 rfl) rfl) (ov 7 (ld 0 (s.mono _ _ h1) rfl) (ov 8 (eT w.tag tag) ?_)))))
  by_cases hq2:w.peer=peer
  ·refine go 2 (ov 11 (ld 2 (s.at 0 rfl) rfl) (ov 12 (ld 0 (s.mono _ _ h2) rfl) (ov 13 (eT w.peer peer) (ax 2 ?_))))
   exact⟨.inr rfl,_,kr,X,_,s,hm0,by rw[decide_eq_true ⟨hq,hq2⟩]⟩
  ·refine go 2 (ov 11 (ld 2 (s.at 0 rfl) rfl) (ov 12 (ld 0 (s.mono _ _ h2) rfl) (ov 13 (eF w.peer peer) (ax 2 ?_))))
   exact⟨.inr rfl,_,kr,X,_,s,hm0,by rw[decide_eq_false fun h=>hq2 h.2]⟩
 ·refine ag ?_
  obtain⟨_,s,J⟩:=ay s0 (.cells [iN w.tag,iN w.op,iN w.peer,iN w.til] true)
  refine ov 3 (J _ _ (vf (.ptr (n) (0)))) (ae 1 (ai 1 (ov 6 (ld 0 (s.at 0 rfl) rfl) (ov 7 (ld 0 (s.mono _ _ h1) rfl) (ov 8 (eF w.tag tag) (ax 7 ?_))))))
  exact⟨.inr rfl,_,kr,X,_,s,hm0,by rw[decide_eq_false fun h=>hq h.1]⟩
theorem BY{X:Heap}{n:Nat}{w:Wt}{nb now:Nat}(h1:X nb=some (.cells [iN now] true))(h:now≤w.til)(ht:ap X n):af 169 [.u (.agg [iN w.tag,iN w.op,iN w.peer,iN w.til]),vf (.ptr (nb) (0))] X n fun v _=>v=vf (.bool false):=by
 refine af.of_to kr ?_
 have s0:aa X X n (cat [[]]):=aa.ini ht
 have hm0:ab X X:=ab.rfl
 refine ag ?_
 obtain⟨_,s,J⟩:=ay s0 (.cells [iN w.tag,iN w.op,iN w.peer,iN w.til] true)
 refine ov 2 (J _ _ (vf (.ptr (n) (0)))) (ae 1 (ai 1 (ov 5 (ld 3 (s.at 0 rfl) rfl) (ov 6 (ld 0 (s.mono _ _ h1) rfl) (ov 7 (lF w.til now) (ax 1 ?_))))))
 exact⟨.inr rfl,_,kr,X,_,s,hm0,rfl⟩
theorem Cv{X:Heap}{n:Nat}{w:Wt}{ob op:Nat}(h1:X ob=some (.cells [iN op] true))(ht:ap X n):af 219 [.u (.agg [iN w.tag,iN w.op,iN w.peer,iN w.til]),vf (.ptr (ob) (0))] X n fun v _=>v=vf (.bool (decide (w.op=op))):=by
 refine af.of_to kr ?_
 have s0:aa X X n (cat [[]]):=aa.ini ht
 have hm0:ab X X:=ab.rfl
 by_cases hq:w.op=op
 ·refine ag ?_
  obtain⟨_,s,J⟩:=ay s0 (.cells [iN w.tag,iN w.op,iN w.peer,iN w.til] true)
  refine ov 2 (J _ _ (vf (.ptr (n) (0)))) (ae 1 (ai 1 (ov 5 (ld 1 (s.at 0 rfl) rfl) (ov 6 (ld 0 (s.mono _ _ h1) rfl) (ov 7 (eT w.op op) (ax 1 ?_))))))
  exact⟨.inr rfl,_,kr,X,_,s,hm0,by rw[decide_eq_true hq]⟩
 ·refine ag ?_
  obtain⟨_,s,J⟩:=ay s0 (.cells [iN w.tag,iN w.op,iN w.peer,iN w.til] true)
  refine ov 2 (J _ _ (vf (.ptr (n) (0)))) (ae 1 (ai 1 (ov 5 (ld 1 (s.at 0 rfl) rfl) (ov 6 (ld 0 (s.mono _ _ h1) rfl) (ov 7 (eF w.op op) (ax 1 ?_))))))
  exact⟨.inr rfl,_,kr,X,_,s,hm0,by rw[decide_eq_false hq]⟩
theorem uS{X:Heap}{n:Nat}{pid:Nat}{q0 q1 q2 q3 q4 q5 q6 q7:F}{last:Nat}{ws:List Wt}{P0:List (Nat×O)}(hwt:fE pid q0 q1 q2 q3 q4 q5 q6 q7 last ws P0)(hwl:ws.length≤1000){tag peer:Nat}:al 191 [vf (.ptr (pid) (8)),vi tag,vi peer] X n (P0) fun v _ P'=>fE pid q0 q1 q2 q3 q4 q5 q6 q7 last (ws.filter fun w=> !decide (w.tag=tag∧w.peer=peer)) P'∧((v=.tup [.agg [iN 0,iN 0,iN 0,iN 0],.f (.bool false)]∧ws.filter (fun w=>decide (w.tag=tag∧w.peer=peer))=[])∨∃w,w∈ws∧w.tag=tag∧w.peer=peer∧v=.tup [.agg (i3 w),.f (.bool true)]):=by
 refine al.of_to1 kr fun R H0 s0=>?_
 have hm0:ab X X:=ab.rfl
 refine ag ?_
 obtain⟨_,s,J⟩:=ay s0 (.cells [iN tag] true)
 refine ov 4 (J _ _ (vf (.ptr (n) (0)))) ?_
 obtain⟨_,s,J⟩:=ay s (.cells [iN peer] true)
 refine ov 5 (J _ _ (vf (.ptr (n+1) (0)))) ?_
 obtain⟨_,s,J⟩:=ay s (.cells [.int .i64 0,.int .i64 0,.int .i64 0,.int .i64 0] true)
 refine ov 6 (J _ _ (vf (.ptr (n+1+1) (0)))) ?_
 obtain⟨_,m1,s,f1⟩:=aa.frzAt [_,_] [] s
 have hb1:=f1
 obtain⟨_,m2,s,f2⟩:=aa.frzAt [_] [] s
 have f3:=m2 _ _ f1
 have hb1:=m2 _ _ hb1
 have hb2:=f2
 refine ae 1 (ai 2 ?_)
 obtain⟨_,W,_,_,Q1,m3,s,J,⟨a,fa,Pa,b,fb,Pb,rfl,rfl,ha,hca,ha0,hb,hcb⟩⟩:=(qY (g:=228) (caps:=[.ptr n 0,.ptr (n+1) 0]) hwt hwl (fun w=>decide (w.tag=tag∧w.peer=peer)) kr (fun w _ Y m hm ht=>CA (hm _ _ hb1) (hm _ _ hb2) ht)).on [_] [_] s
 have f4:=m3 _ _ f3
 have f5:=m3 _ _ f2
 have hm0:=hm0.tr (m1.tr (m2.tr m3))
 have hb1:=m3 _ _ hb1
 have hb2:=m3 _ _ hb2
 refine ov 11 (J _ _) ?_
 have hca2:=hca
 have s:=aa.unp [_] [_] [_,_,_] s
 rcases hf:ws.filter (fun w=>decide (w.tag=tag∧w.peer=peer))with _ | ⟨w,t⟩
 ·refine ae 1 (aP 1 (ov 13 (lv 0 (by rw[hf]at hca;exact ha.lenA om (by have h:fa=[]:=hca;rw[h];rfl))) (ov 14 (eT 0 0) (aj (iT (ai 1 ?_))))))
  obtain⟨_,s,J⟩:=aI (off:=0) (new:=[.int .i64 0,.int .i64 0,.int .i64 0,.int .i64 0]) (cs':=[.int .i64 0,.int .i64 0,.int .i64 0,.int .i64 0]) s 0 rfl sm rfl
  refine oe (J _ _) (ax 1 ?_)
  exact⟨.inr rfl,_,cS (s.at 0 rfl) kr kr,W,_,aa.fin1 (aa.pck [_] [_] [_,_] (aa.rid [_,_,_] [_] s)),hm0,⟨b,fb,Pb,rfl,hb,hcb⟩,.inl ⟨rfl,hf⟩⟩
 ·rw[hf]at hca hca2
  refine ae 1 (aP 1 (ov 13 (lv ((w::t).length) (ha.lenC om hca)) (ov 14 (eF ((w::t).length) 0 sm) (aj ?_))))
  obtain⟨k,cs,exb,c,rfl,h2,h3,h4,hcl,hR,_⟩:=ha.at (i:=0) (x:=w) om hca rfl [_,_,_] [_] s
  have hR:c=i3 w:=hR
  subst hR
  refine ar (nx (ai 1 (ov 17 (ix k 0 4 ((w::t).length) 0) (ov 18 (aG (id:=k) (off:=0+0*4) (sz:=4) (c:=i3 w) h2 h3 h4) ?_))))
  obtain⟨hw1,hw2⟩:=List.mem_filter.1 (show w∈ws.filter (fun w=>decide (w.tag=tag∧w.peer=peer))by rw[hf];simp)
  have hw2:=of_decide_eq_true hw2
  obtain⟨_,s,J⟩:=aI (off:=0) (new:=[iN w.tag,iN w.op,iN w.peer,iN w.til]) (cs':=[iN w.tag,iN w.op,iN w.peer,iN w.til]) s 0 rfl sm rfl
  refine oe (J _ _) (ax 1 ?_)
  exact⟨.inr rfl,_,cS (s.at 0 rfl) kr kr,W,_,aa.fin1 (aa.pck [_] [_] [_,_] (aa.rid [_,_,_] [_] s)),hm0,⟨b,fb,Pb,rfl,hb,hcb⟩,.inr ⟨w,hw1,hw2.1,hw2.2,rfl⟩⟩
theorem BR{X:Heap}{n:Nat}  (ht:ap X n):af 167 [vf (.sl0)] X n fun v _=>v=vf .sl0:=by
 refine af.of_to kr ?_
 have s0:aa X X n (cat [[]]):=aa.ini ht
 have hm0:ab X X:=ab.rfl
 refine ah 1 (sq (ah 2 (iT (ah 1 (rt ?_)))))
 exact⟨.inr rfl,_,kr,X,_,s0,hm0,rfl⟩
theorem DN{X:Heap}{n:Nat}{pid:Nat}{q0 q1 q2 q3 q4 q5 q6 q7:F}{last:Nat}{ws:List Wt}{P0:List (Nat×O)}(hwt:fE pid q0 q1 q2 q3 q4 q5 q6 q7 last ws P0)(hwl:ws.length≤1000){now:Nat}(hnow:∀w∈ws,now≤w.til):al 120 [vf (.ptr (pid) (8)),vi now] X n (P0) fun v _ P'=>v=vf .sl0∧fE pid q0 q1 q2 q3 q4 q5 q6 q7 last ws P':=by
 refine al.of_to1 kr fun R H0 s0=>?_
 have hm0:ab X X:=ab.rfl
 refine ag ?_
 obtain⟨_,s,J⟩:=ay s0 (.cells [iN now] true)
 refine ov 3 (J _ _ (vf (.ptr (n) (0)))) ?_
 obtain⟨_,m1,s,f⟩:=aa.frzC s
 have hb1:=f
 refine ae 1 (ai 2 ?_)
 obtain⟨_,_,_,_,Q1,m2,s,J,⟨a,fa,Pa,b,fb,Pb,rfl,rfl,ha,hca,ha0,hb,hcb⟩⟩:=(qY (g:=169) (caps:=[.ptr n 0]) hwt hwl (fun _=>false) kr (fun w hw Y m hm ht=>BY (hm _ _ hb1) (hnow w hw) ht)).on [_] [_] s
 refine ov 7 (J _ _) ?_
 obtain rfl:a=.sl0:=ha0 (by have h:=hca.len;rw[List.filter_eq_nil_iff.2 (fun _ _=>by simp)]at h;exact List.eq_nil_of_length_eq_zero (by simpa using h))
 rw[show ws.filter (fun w=> !(fun _=>false) w)=ws from List.filter_eq_self.2 fun _ _=>rfl]at hcb
 have s:=aa.unp [_] [_] [_,_,_] s
 obtain⟨_,W,_,_,m3,s,J,rfl⟩:=(BR s.topX).on s
 have hm0:=hm0.tr (m1.tr (m2.tr m3))
 refine ov 8 (J _ _) (ax 1 ?_)
 exact⟨.inr rfl,_,kr,W,_,aa.fin1 (aa.pck [_] [_] [_,_] (aa.rid [_,_,_] [_] s)),hm0,rfl,b,fb,Pb,rfl,hb,hcb⟩
theorem D'{X:Heap}{n:Nat}{pid:Nat}{q0 q1 q2 q3 q4 q5 q6 q7:F}{last:Nat}{ws:List Wt}{P0:List (Nat×O)}(hwt:fE pid q0 q1 q2 q3 q4 q5 q6 q7 last ws P0)(hwl:ws.length≤1000){op:Nat}:al 175 [vf (.ptr (pid) (8)),vi op] X n (P0) fun v _ P'=>v=.tup []∧fE pid q0 q1 q2 q3 q4 q5 q6 q7 last (ws.filter fun w=> !decide (w.op=op)) P':=by
 refine al.of_to1 kr fun R H0 s0=>?_
 have hm0:ab X X:=ab.rfl
 refine ag ?_
 obtain⟨_,s,J⟩:=ay s0 (.cells [iN op] true)
 refine ov 3 (J _ _ (vf (.ptr (n) (0)))) (aj ?_)
 obtain⟨_,m1,s,f⟩:=aa.frzC s
 have hb1:=f
 refine rg (go 2 ?_)
 obtain⟨_,W,_,_,Q1,m2,s,J,⟨a,fa,Pa,b,fb,Pb,rfl,rfl,ha,hca,ha0,hb,hcb⟩⟩:=(qY (g:=219) (caps:=[.ptr n 0]) hwt hwl (fun w=>decide (w.op=op)) kr (fun w hw Y m hm ht=>Cv (hm _ _ hb1) ht)).on [_] [_] s
 have hm0:=hm0.tr (m1.tr m2)
 refine ov 6 (J _ _) (dn ?_)
 have s:=aa.unp [_] [_] [_,_,_] s
 exact⟨.inl rfl,_,kr,W,_,aa.fin1 (aa.pck [_] [_] [_,_] (aa.rid [_,_,_] [_] s)),hm0,rfl,b,fb,Pb,rfl,hb,hcb⟩
theorem DR{X:Heap}{n:Nat}{pid:Nat}{q0 q1 q2 q3 q4 q5 q6 q7:F}{last:Nat}{ws:List Wt}{P0:List (Nat×O)}(hwt:fE pid q0 q1 q2 q3 q4 q5 q6 q7 last ws P0)(hwl:ws.length≤1000){op peer now:Nat}(hnow:now≤1073741824)(hla:last<1000000000):al 160 [vf (.ptr (pid) (8)),vi op,vi peer,vi now] X n (P0) fun v _ P'=>v=vi (last+1)∧fE pid q0 q1 q2 q3 q4 q5 q6 q7 (last+1) (ws++[⟨last+1,op,peer,now+6⟩]) P':=by
 obtain⟨lf,fl,pl,rfl,hl,hc⟩:=hwt
 refine al.of_to (Ps:=[[(pid,.cells [q0,q1,q2,q3,q4,q5,q6,q7,lf,iN last] true)],pl]) kr fun R H0 s0=>?_
 have hm0:ab X X:=ab.rfl
 have hfl:=hc.len
 refine ah 1 (sq (ah 2 (ar (nx (ai 3 (ov 14 (ld 9 (s0.at 0 rfl) rfl) (ov 15 (aN last 1) (go 2 ?_))))))))
 obtain⟨_,s,J⟩:=aI (off:=9) (new:=[iN (last+1)]) (cs':=[q0,q1,q2,q3,q4,q5,q6,q7,lf,iN (last+1)]) s0 0 rfl sm rfl
 refine oe (J _ _) (aQ (dw [1,2,3,4,5,6,7,8,9,10,11,12,13,14,15,16,0,17,18,19] (sg [1,2,3] (sr (some 22) (pid) trivial (am (off:=8) (s.at 0 rfl) rfl) (sg [5,6,7] (sr (some 26) (pid) trivial (am (off:=9) (s.at 0 rfl) rfl) (sg [9,10,11] (ss (some 30) (dR (mx:=false) (x:=((now:Nat):Int)) (y:=(1099511627776:Int)) (z:=((now:Nat):Int)) (by simp only[Bool.false_eq_true,if_false]; split<;>omega) kr) (ss (some 31) (au (eo (now) (6) om)) (sg [14] ?_))))))))))
 obtain⟨W,_,s1,m,f,J⟩:=bj s (.cells [iN (last+1),iN op,iN peer,iN (now+6)] true)
 have hm0:=hm0.tr m
 refine sf (some 33) (J _ _ (vf (.sl (n) (0) 4 (1) none))) ⟨ki,ke (s.at 0 rfl) (s1.at 0 rfl),trivial⟩ ?_
 obtain⟨a1,_,_,_,ho158,s2,J⟩:=b6 (sz:=4) (bytes:=32) (x:=.sl (n) (0) 4 (1) none) (new:=[iN (last+1),iN op,iN peer,iN (now+6)]) [_] [_] s1 (hl) (bf (s1.mono _ _ f) rfl) (rfl) om om
 refine sf (some 34) (J _ _) (oR kr) (sg [0,17,18] ?_)
 obtain⟨_,s3,J⟩:=aI (off:=8) (new:=[a1]) (cs':=[q0,q1,q2,q3,q4,q5,q6,q7,a1,iN (last+1)]) s2 0 rfl sm rfl
 refine sf none (J _ _) (oR kr) (sx (nx (ai 3 (ov 40 (ld 9 (s3.at 0 rfl) rfl) (ax 1 ?_)))))
 exact⟨.inr rfl,_,kr,W,_,aa.fin (Ps:=[_,_]) s3,hm0,rfl,_,_,_,rfl,ho158,hc.snoc (a:=(⟨last+1,op,peer,now+6⟩:Wt)) rfl rfl⟩
end Go.Proofs.YtkimkgbppegkhaaGreat.Cm

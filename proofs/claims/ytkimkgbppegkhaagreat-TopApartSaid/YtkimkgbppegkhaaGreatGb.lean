/- Rows over the 256 elements: sums of multiples of rows, steps that turn a matrix and what stands beside it, and what they keep: solving is right. No program is walked here. · The clean machine's walks of solving (1): rows cut to a length. · The clean machine's walks of solving (2): which is the first one. -/
import Derived.Test.YtkimkgbppegkhaaGreatFnR
import Derived.Test.YtkimkgbppegkhaaGreatAb
set_option linter.unusedVariables false
set_option linter.unusedSimpArgs false
namespace Go.Proofs.YtkimkgbppegkhaaGreat.Cm
open Go Go.RowKit Go.Proofs.YtkimkgbppegkhaaGreat.Gf
abbrev zs(N:Nat):List Nat:=List.replicate N 0
abbrev bW(c:Nat)(r:List Nat):List Nat:=r.map (gm c)
theorem sv(a:Nat):gm 0 a=0:=by
 unfold gm
 have:∀n a,b3 n 0 a=0:=by
  intro n
  induction n with
  |zero=>intro a;rfl
  |succ n ih=>intro a;unfold b3;rw[r9,ih];simp
 exact this 8 a
theorem FK(c a b:Nat):gm c (a ^^^ b)=gm c a ^^^ gm c b:=rB 8 _ _ _
theorem FO{a b:Nat}(c:Nat)(ha:a<256)(hb:b<256):gm (a ^^^ b) c=gm a c ^^^ gm b c:=gmN_addl 8 _ _ _ ha hb
theorem jO:∀(a:List Nat) (N:Nat),aX a (zs N)=a
 |[],N=>by cases N<;>rfl
 |x::a,0=>rfl
 |x::a,N+1=>by
  show(x ^^^ 0)::aX a (zs N)=x::a
  rw[jO a N,Nat.xor_zero]
theorem mH:∀(a:List Nat),aX (zs a.length) a=a
 |[]=>rfl
 |x::a=>by
  show(0 ^^^ x)::aX (zs a.length) a=x::a
  rw[mH a,Nat.zero_xor]
theorem wu:∀(a:List Nat),aX a a=zs a.length
 |[]=>rfl
 |x::a=>by
  show(x ^^^ x)::aX a a=0::zs a.length
  rw[wu a,Nat.xor_self]
theorem rf:∀{a b:List Nat},a.length=b.length→aX a b=aX b a
 |[],[],_=>rfl
 |x::a,y::b,h=>by
  show(x ^^^ y)::aX a b=(y ^^^ x)::aX b a
  rw[rf (by simpa using h),Nat.xor_comm]
 |[],_::_,h=>by simp at h
 |_::_,[],h=>by simp at h
theorem jF:∀{a b c:List Nat},a.length=b.length→b.length=c.length→aX (aX a b) c=aX a (aX b c)
 |[],[],[],_,_=>rfl
 |x::a,y::b,z::c,h,k=>by
  show((x ^^^ y) ^^^ z)::aX (aX a b) c=(x ^^^ (y ^^^ z))::aX a (aX b c)
  rw[jF (by simpa using h) (by simpa using k),Nat.xor_assoc]
 |[],_::_,_,h,_=>by simp at h
 |_::_,[],_,h,_=>by simp at h
 |[],[],_::_,_,k=>by simp at k
 |_::_,_::_,[],_,k=>by simp at k
theorem wT(c:Nat):∀(a b:List Nat),bW c (aX a b)=aX (bW c a) (bW c b)
 |[],b=>by cases b<;>rfl
 |x::a,[]=>rfl
 |x::a,y::b=>by
  show gm c (x ^^^ y)::bW c (aX a b)=(gm c x ^^^ gm c y)::aX (bW c a) (bW c b)
  rw[wT c a b,FK]
theorem xI{a b:Nat}(ha:a<256)(hb:b<256):∀(r:List Nat),bW (a ^^^ b) r=aX (bW a r) (bW b r)
 |[]=>rfl
 |x::r=>by
  show gm (a ^^^ b) x::bW (a ^^^ b) r=(gm a x ^^^ gm b x)::aX (bW a r) (bW b r)
  rw[xI ha hb r,FO x ha hb]
theorem xF{a b:Nat}(ha:a<256)(hb:b<256)(r:List Nat):bW a (bW b r)=bW (gm a b) r:=by
 unfold bW
 rw[List.map_map]
 apply List.map_congr_left
 intro x _
 exact EV ha hb x
theorem po(c N:Nat):bW c (zs N)=zs N:=by simp[bW,zs,gM]
theorem rG(r:List Nat):bW 0 r=zs r.length:=by
 induction r with
 |nil=>rfl
 |cons x r ih=>show gm 0 x::bW 0 r=0::zs r.length;rw[ih,sv]
theorem oY:∀{r:List Nat},B8 r→bW 1 r=r
 |[],_=>rfl
 |x::r,h=>by
  show gm 1 x::bW 1 r=x::r
  rw[oY (fun y hy=>h y (by simp[hy])),mR (h x sm)]
theorem jP(c:Nat)(r:List Nat):(bW c r).length=r.length:=by simp[bW]
theorem yP{c:Nat}(hc:c<256)(r:List Nat):B8 (bW c r):=fun x hx=>by
 obtain⟨y,_,rfl⟩:=List.mem_map.1 hx
 exact lJ hc
theorem tm(N:Nat):B8 (zs N):=fun x hx=>by rw[List.eq_of_mem_replicate hx];omega
/-- a row of so many elements -/
def Rw(N:Nat)(r:List Nat):Prop:=r.length=N∧B8 r
theorem Rw.zs(N:Nat):Rw N (zs N):=⟨sm,tm N⟩
theorem Rw.sca{N c:Nat}{r:List Nat}(h:Rw N r)(hc:c<256):Rw N (bW c r):=⟨by rw[jP,h.1],yP hc r⟩
theorem Rw.add{N:Nat}{r s:List Nat}(h:Rw N r)(k:Rw N s):Rw N (aX r s):=⟨by rw[iz,h.1],lc h.2 k.2⟩
theorem F6{a b c d:List Nat}(h1:a.length=b.length)(h2:b.length=c.length)(h3:c.length=d.length):aX (aX a b) (aX c d)=aX (aX a c) (aX b d):=by
 rw[jF h1 (by rw[iz];exact h2),←jF h2 h3,rf h2,jF h2.symm (h2.trans h3),←jF (h1.trans h2) (by rw[iz];exact h2.symm)]
/-- a sum of multiples -/
def a9(N:Nat):List Nat→List (List Nat)→List Nat
 |a::r,x::xs=>aX (bW a x) (a9 N r xs)
 |[],_=>zs N
 |_::_,[]=>zs N
theorem oi{N:Nat}:∀(r:List Nat) (xs:List (List Nat)),(∀x∈xs,Rw N x)→(a9 N r xs).length=N
 |[],_,_=>by simp[a9]
 |_::_,[],_=>by simp[a9]
 |a::r,x::xs,h=>by rw[a9,iz,jP];exact(h x sm).1
theorem mF{N:Nat}:∀{r:List Nat} {xs:List (List Nat)},B8 r→(∀x∈xs,Rw N x)→Rw N (a9 N r xs)
 |[],_,_,_=>Rw.zs N
 |_::_,[],_,_=>Rw.zs N
 |a::r,x::xs,hr,h=>Rw.add ((h x sm).sca (hr a sm)) (mF (fun y hy=>hr y (by simp[hy])) (fun y hy=>h y (by simp[hy])))
theorem wQ{N:Nat}:∀{r s:List Nat} {xs:List (List Nat)},r.length=s.length→B8 r→B8 s→(∀x∈xs,Rw N x)→a9 N (aX r s) xs=aX (a9 N r xs) (a9 N s xs)
 |[],[],xs,_,_,_,_=>by simp only[aX,a9];rw[jO]
 |a::r,b::s,[],_,_,_,_=>by simp only[aX,a9];rw[jO]
 |a::r,b::s,x::xs,h,hr,hs,hx=>by
  have hx':∀y∈xs,Rw N y:=fun y hy=>hx y (by simp[hy])
  simp only[aX,a9]
  rw[wQ (by simpa using h) (fun y hy=>hr y (by simp[hy])) (fun y hy=>hs y (by simp[hy])) hx',xI (hr a sm) (hs b sm)]
  have hl:=(hx x sm).1
  exact F6 (by rw[jP,jP]) (by rw[jP,oi _ _ hx',hl]) (by rw[oi _ _ hx',oi _ _ hx'])
 |[],_::_,_,h,_,_,_=>by simp at h
 |_::_,[],_,h,_,_,_=>by simp at h
theorem rL{N c:Nat}(hc:c<256):∀{r:List Nat} {xs:List (List Nat)},B8 r→a9 N (bW c r) xs=bW c (a9 N r xs)
 |[],xs,_=>by simp only[List.map_nil,a9,po]
 |a::r,[],_=>by simp only[List.map_cons,a9,po]
 |a::r,x::xs,hr=>by
  simp only[List.map_cons,a9]
  rw[rL hc (fun y hy=>hr y (by simp[hy])),wT,xF hc (hr a sm)]
theorem oS{N:Nat}:∀(k:Nat) {xs:List (List Nat)},(∀x∈xs,Rw N x)→a9 N (zs k) xs=zs N
 |0,_,_=>rfl
 |k+1,[],_=>rfl
 |k+1,x::xs,h=>by
  show aX (bW 0 x) (a9 N (zs k) xs)=zs N
  rw[oS k (fun y hy=>h y (by simp[hy])),jO,rG,(h x sm).1]
theorem vP{N:Nat}:∀{r:List Nat} {xs:List (List Nat)} {i:Nat},r.length=xs.length→(∀c,c<r.length→r[c]?=some (if i=c then 1 else 0))→(∀x∈xs,Rw N x)→∀{x},xs[i]?=some x→a9 N r xs=x
 |[],xs,i,hl,_,_,x,hx=>by
  cases xs with
  |nil=>simp at hx
  |cons _ _=>simp at hl
 |a::r,[],i,hl,_,_,_,_=>by simp at hl
 |a::r,y::xs,0,hl,h,hr,x,hx=>by
  have h0:=h 0 sm
  simp only[List.getElem?_cons_zero,if_true,Option.some.injEq]at h0 hx
  subst h0 hx
  have hz:r=zs r.length:=by
   apply List.ext_getElem?
   intro c
   rcases Nat.lt_or_ge c r.length with hc | hc
   ·have:=h (c+1) (by simp;exact hc)
    simp only[List.getElem?_cons_succ]at this
    rw[this,List.getElem?_replicate,if_pos hc,if_neg om]
   ·rw[List.getElem?_eq_none hc,List.getElem?_eq_none (by simpa using hc)]
  simp only[a9]
  rw[hz,oS _ (fun z hz=>hr z (by simp[hz])),jO,oY (hr y sm).2]
 |a::r,y::xs,i+1,hl,h,hr,x,hx=>by
  have h0:=h 0 sm
  simp only[List.getElem?_cons_zero,Option.some.injEq]at h0
  rw[if_neg om]at h0
  subst h0
  have ih:=vP (N:=N) (r:=r) (xs:=xs) (i:=i) (by simpa using hl) (fun c hc=>by
   have:=h (c+1) (by simp;exact hc)
   simp only[List.getElem?_cons_succ]at this
   rw[this]
   congr 1
   by_cases e:i=c<;>simp[e]) (fun z hz=>hr z (by simp[hz])) (x:=x) (by simpa using hx)
  simp only[a9]
  rw[ih,rG,(hr y sm).1]
  have hxm:x∈xs:=List.mem_of_getElem? (by simpa using hx)
  have:=(hr x (by simp[hxm])).1
  rw[←this]
  exact mH x
/-- what turns rows -/
inductive Tn where
 |sw (i j:Nat)
 |sc (i c:Nat)
 |ad (i c n:Nat)
def Tn.ok(len:Nat):Tn→Prop
 |.sw i j=>i<len∧j<len
 |.sc i c=>i<len∧c<256∧c≠0
 |.ad i c n=>i<len∧n<len∧i≠n∧c<256
def bc(L:List (List Nat))(i:Nat):List Nat:=(L[i]?).getD []
def Tn.run:Tn→List (List Nat)→List (List Nat)
 |.sw i j,L=>(L.set i (bc L j)).set j (bc L i)
 |.sc i c,L=>L.set i (bW c (bc L i))
 |.ad i c n,L=>L.set i (aX (bc L i) (bW c (bc L n)))
/-- a matrix: so many rows of so many elements -/
def Mx(len N:Nat)(L:List (List Nat)):Prop:=L.length=len∧∀r∈L,Rw N r
theorem Mx.row{len N:Nat}{L:List (List Nat)}(h:Mx len N L){i:Nat}(hi:i<len):Rw N (bc L i):=by
 unfold bc
 rw[List.getElem?_eq_getElem (by rw[h.1];exact hi)]
 exact h.2 _ (List.getElem_mem _)
theorem Mx.set{len N:Nat}{L:List (List Nat)}(h:Mx len N L)(i:Nat){r:List Nat}(hr:Rw N r):Mx len N (L.set i r):=
 ⟨by rw[List.length_set,h.1],fun s hs=>by rcases List.mem_or_eq_of_mem_set hs with h1 | rfl;exact h.2 s h1;exact hr⟩
theorem Mx.run{len N:Nat}{L:List (List Nat)}(h:Mx len N L){t:Tn}(ht:t.ok len):Mx len N (t.run L):=by
 cases t with
 |sw i j=>exact(h.set i (h.row ht.2)).set j (h.row ht.1)
 |sc i c=>exact h.set i ((h.row ht.1).sca ht.2.1)
 |ad i c n=>exact h.set i ((h.row ht.1).add ((h.row ht.2.1).sca ht.2.2.2))
theorem my{L:List (List Nat)}{f:List Nat→List Nat}{i:Nat}(hi:i<L.length):bc (L.map f) i=f (bc L i):=by
 unfold bc
 rw[List.getElem?_map,List.getElem?_eq_getElem hi]
 rfl
theorem run_map{len W N:Nat}{L:List (List Nat)}(h:Mx len W L){t:Tn}(ht:t.ok len){xs:List (List Nat)}(hx:∀x∈xs,Rw N x):t.run (L.map fun r=>a9 N r xs)=(t.run L).map fun r=>a9 N r xs:=by
 cases t with
 |sw i j=>
  obtain⟨h1,h2⟩:=ht
  simp only[Tn.run,List.map_set]
  rw[my (by rw[h.1];exact h2),my (by rw[h.1];exact h1)]
 |sc i c=>
  obtain⟨h1,h2,_⟩:=ht
  simp only[Tn.run,List.map_set]
  rw[my (by rw[h.1];exact h1),rL h2 (h.row h1).2]
 |ad i c n=>
  obtain⟨h1,h2,h3,h4⟩:=ht
  simp only[Tn.run,List.map_set]
  have g1:=h.row h1
  have g2:=(h.row h2).sca h4
  rw[my (by rw[h.1];exact h1),my (by rw[h.1];exact h2),wQ (by rw[g1.1,g2.1]) g1.2 g2.2 hx,rL h4 (h.row h2).2]
/-- what turns back -/
def Tn.inv:Tn→Tn
 |.sw i j=>.sw i j
 |.sc i c=>.sc i (iv c)
 |.ad i c n=>.ad i c n
theorem zq{c:Nat}(hc:c<256)(h0:c≠0):iv c≠0:=fun h=>by
 have:=(tp hc h0).1
 rw[h,gM]at this
 cases this
theorem Tn.inv_ok{len:Nat}{t:Tn}(h:t.ok len):t.inv.ok len:=by
 cases t with
 |sw i j=>exact h
 |sc i c=>exact⟨h.1,jh h.2.1,zq h.2.1 h.2.2⟩
 |ad i c n=>exact h
theorem gL{L:List (List Nat)}{i j:Nat}{r:List Nat}(hi:i<L.length):bc (L.set i r) j=if j=i then r else bc L j:=by
 unfold bc
 by_cases e:j=i
 ·subst e;rw[List.getElem?_set_self hi,if_pos rfl];rfl
 ·rw[List.getElem?_set_ne (Ne.symm e),if_neg e]
theorem rO{L:List (List Nat)}{i:Nat}(hi:i<L.length):L.set i (bc L i)=L:=by
 unfold bc
 rw[List.getElem?_eq_getElem hi]
 exact List.set_getElem_self hi
theorem xE{len N:Nat}{L:List (List Nat)}(h:Mx len N L){t:Tn}(ht:t.ok len):t.inv.run (t.run L)=L:=by
 cases t with
 |sw i j=>
  obtain⟨h1,h2⟩:=ht
  rw[←h.1]at h1 h2
  simp only[Tn.inv,Tn.run]
  have l1:i<(L.set i (bc L j)).length:=by simpa using h1
  have l2:j<(L.set i (bc L j)).length:=by simpa using h2
  rw[gL l2,gL l2,if_pos rfl]
  by_cases e:i=j
  ·subst e
   rw[if_pos rfl]
   simp only[List.set_set]
   exact rO h1
  ·rw[if_neg e,gL h1,if_pos rfl]
   have e1:L[i]?=some (bc L i):=by unfold bc;rw[List.getElem?_eq_getElem h1];rfl
   have e2:L[j]?=some (bc L j):=by unfold bc;rw[List.getElem?_eq_getElem h2];rfl
   apply List.ext_getElem?
   intro k
   simp only[List.getElem?_set,List.length_set]
   grind
 |sc i c=>
  obtain⟨h1,h2,h3⟩:=ht
  have hr:=h.row h1
  rw[←h.1]at h1
  simp only[Tn.inv,Tn.run]
  rw[gL h1,if_pos rfl,List.set_set,xF (jh h2) h2,gm_comm (jh h2) h2,(tp h2 h3).1,oY hr.2,rO h1]
 |ad i c n=>
  obtain⟨h1,h2,h3,h4⟩:=ht
  have hr:=h.row h1
  have hq:=(h.row h2).sca h4
  rw[←h.1]at h1 h2
  simp only[Tn.inv,Tn.run]
  rw[gL h1,if_pos rfl,gL h1,if_neg (Ne.symm h3),List.set_set,jF (by rw[hr.1,hq.1]) rfl,wu,jO,rO h1]
def aK:List Tn→List (List Nat)→List (List Nat)
 |[],L=>L
 |t::ts,L=>aK ts (t.run L)
def iq(len:Nat)(ts:List Tn):Prop:=∀t∈ts,t.ok len
theorem uN:∀(ts us:List Tn) (L:List (List Nat)),aK (ts++us) L=aK us (aK ts L)
 |[],_,_=>rfl
 |t::ts,us,L=>uN ts us (t.run L)
theorem Mx.runs{len N:Nat}:∀{ts:List Tn} {L:List (List Nat)},Mx len N L→iq len ts→Mx len N (Cm.aK ts L)
 |[],_,h,_=>h
 |t::ts,L,h,k=>Mx.runs (ts:=ts) (h.run (k t sm)) fun u hu=>k u (by simp[hu])
theorem k6{len W N:Nat}{xs:List (List Nat)}(hx:∀x∈xs,Rw N x):∀{ts:List Tn} {m d:List (List Nat)},Mx len W m→Mx len N d→iq len ts→(d=m.map (fun r=>a9 N r xs)↔aK ts d=(aK ts m).map fun r=>a9 N r xs)
 |[],_,_,_,_,_=>Iff.rfl
 |t::ts,m,d,hm,hd,hk=>by
  have ht:=hk t sm
  refine Iff.trans ?_ (k6 hx (ts:=ts) (hm.run ht) (hd.run ht) fun u hu=>hk u (by simp[hu]))
  constructor
  ·intro h
   rw[h]
   exact run_map hm ht hx
  ·intro h
   have h1:=congrArg t.inv.run h
   rw[xE hd ht,run_map (hm.run ht) (Tn.inv_ok ht) hx,xE hm ht]at h1
   exact h1
/-- the first columns are those of steps -/
def m_(n:Nat)(m:List (List Nat)):Prop:=∀c,c<n→∀i r,m[i]?=some r→r[c]?=some (if i=c then 1 else 0)
/-- solved -/
structure dV(W N len:Nat)(m d out:List (List Nat)):Prop where
 ex:∃ts,iq len ts∧m_ W (aK ts m)∧W≤len∧out=(aK ts d).take W∧∀i e,W≤i→(aK ts d)[i]?=some e→∀x∈e,x=0
/-- not to be solved -/
structure fO(W N len:Nat)(m d:List (List Nat)):Prop where
 ex:∃ts,iq len ts∧((∃n,n<W∧n≤len∧m_ n (aK ts m)∧∀i r,n≤i→(aK ts m)[i]?=some r→r[n]?=some 0)∨(m_ W (aK ts m)∧W≤len∧∃i e,W≤i∧(aK ts d)[i]?=some e∧∃x∈e,x≠0))
theorem Ha{r:List Nat}(h:∀x∈r,x=0):r=zs r.length:=by
 induction r with
 |nil=>rfl
 |cons a r ih=>rw[h a sm,ih (fun x hx=>h x (by simp[hx]))];simp[zs,List.replicate_succ]
theorem nS{W N len:Nat}{m xs:List (List Nat)}(hm:Mx len W m)(hu:m_ W m)(hl:xs.length=W)(hx:∀x∈xs,Rw N x){i:Nat}{r:List Nat}(hi:m[i]?=some r):(∀x,xs[i]?=some x→a9 N r xs=x)∧(W≤i→a9 N r xs=zs N):=by
 have hr:=hm.2 r (List.mem_of_getElem? hi)
 refine⟨fun x h=>?_,fun h=>?_⟩
 ·exact vP (by rw[hr.1,hl]) (fun c hc=>hu c (by rw[←hr.1];exact hc) i r hi) hx h
 ·have hz:r=zs W:=by
   apply List.ext_getElem?
   intro c
   rcases Nat.lt_or_ge c W with hc | hc
   ·rw[hu c hc i r hi,if_neg om,List.getElem?_replicate,if_pos hc]
   ·rw[List.getElem?_eq_none (by rw[hr.1];exact hc),List.getElem?_eq_none (by simpa using hc)]
  rw[hz]
  exact oS W hx
theorem dV.mx{W N len:Nat}{m d out:List (List Nat)}(hd:Mx len N d)(h:dV W N len m d out):out.length=W∧∀x∈out,Rw N x:=by
 obtain⟨ts,h1,h2,h3,rfl,h5⟩:=h.ex
 have hd':=hd.runs h1
 exact⟨by rw[List.length_take,hd'.1];omega,fun x hx=>hd'.2 x (List.mem_of_mem_take hx)⟩
theorem dV.right{W N len:Nat}{m d out:List (List Nat)}(hm:Mx len W m)(hd:Mx len N d)(h:dV W N len m d out):d=m.map fun r=>a9 N r out:=by
 obtain⟨hl,hx⟩:=h.mx hd
 obtain⟨ts,h1,h2,h3,h4,h5⟩:=h.ex
 have hm':=hm.runs h1
 have hd':=hd.runs h1
 rw[k6 hx hm hd h1]
 apply List.ext_getElem?
 intro i
 rw[List.getElem?_map]
 rcases Nat.lt_or_ge i len with hi | hi
 ·have e1:=List.getElem?_eq_getElem (l:=aK ts m) (i:=i) (by rw[hm'.1];exact hi)
  have e2:=List.getElem?_eq_getElem (l:=aK ts d) (i:=i) (by rw[hd'.1];exact hi)
  rw[e1,e2,Option.map_some]
  congr 1
  obtain⟨g1,g2⟩:=nS hm' h2 hl hx e1
  rcases Nat.lt_or_ge i W with hW | hW
  ·exact(g1 _ (by rw[h4,List.getElem?_take,if_pos hW,e2])).symm
  ·rw[g2 hW,Ha (h5 i _ hW e2),(hd'.2 _ (List.getElem_mem _)).1]
 ·rw[List.getElem?_eq_none (by rw[hd'.1];exact hi),List.getElem?_eq_none (by rw[hm'.1];exact hi)]
  rfl
theorem dV.one{W N len:Nat}{m d out xs:List (List Nat)}(hm:Mx len W m)(hd:Mx len N d)(h:dV W N len m d out)(hl:xs.length=W)(hx:∀x∈xs,Rw N x)(hs:d=m.map fun r=>a9 N r xs):out=xs:=by
 obtain⟨ts,h1,h2,h3,h4,h5⟩:=h.ex
 have hm':=hm.runs h1
 have hd':=hd.runs h1
 rw[k6 hx hm hd h1]at hs
 rw[h4,hs]
 apply List.ext_getElem?
 intro i
 rw[List.getElem?_take]
 rcases Nat.lt_or_ge i W with hi | hi
 ·rw[if_pos hi,List.getElem?_map]
  have e1:=List.getElem?_eq_getElem (l:=aK ts m) (i:=i) (by rw[hm'.1];omega)
  have e3:=List.getElem?_eq_getElem (l:=xs) (i:=i) (by rw[hl];exact hi)
  rw[e1,e3,Option.map_some]
  congr 1
  exact(nS hm' h2 hl hx e1).1 _ e3
 ·rw[if_neg om,List.getElem?_eq_none (by rw[hl];exact hi)]
theorem yq{len:Nat}:∀{ts:List Tn},iq len ts→aK ts (List.replicate len (zs 1))=List.replicate len (zs 1):=by
 intro ts
 induction ts with
 |nil=>intro _;rfl
 |cons t ts ih=>
  intro hk
  have ht:=hk t sm
  have hrow:∀i,i<len→bc (List.replicate len (zs 1)) i=zs 1:=fun i hi=>by unfold bc;rw[List.getElem?_replicate,if_pos hi];rfl
  have hset:∀i,(List.replicate len (zs 1)).set i (zs 1)=List.replicate len (zs 1):=fun i=>by
   apply List.ext_getElem?
   intro j
   rw[List.getElem?_set]
   by_cases e:i=j
   ·subst e
    rw[if_pos rfl,List.length_replicate,List.getElem?_replicate]
   ·rw[if_neg e]
  have:t.run (List.replicate len (zs 1))=List.replicate len (zs 1):=by
   cases t with
   |sw i j=>simp only[Tn.run];rw[hrow _ ht.1,hrow _ ht.2,hset,hset]
   |sc i c=>simp only[Tn.run];rw[hrow _ ht.1,po,hset]
   |ad i c n=>simp only[Tn.run];rw[hrow _ ht.1,hrow _ ht.2.1,po,jO,hset]
  show aK ts (t.run _)=_
  rw[this]
  exact ih fun u hu=>hk u (by simp[hu])
theorem dV.inj{W N len:Nat}{m d out ys:List (List Nat)}(hm:Mx len W m)(h:dV W N len m d out)(hl:ys.length=W)(hy:∀y∈ys,Rw 1 y)(hs:m.map (fun r=>a9 1 r ys)=List.replicate len (zs 1)):ys=List.replicate W (zs 1):=by
 obtain⟨ts,h1,h2,h3,h4,h5⟩:=h.ex
 have hm':=hm.runs h1
 have hz:Mx len 1 (List.replicate len (zs 1)):=⟨sm,fun r hr=>by rw[List.eq_of_mem_replicate hr];exact Rw.zs 1⟩
 have hz':=hz.runs h1
 have hs:=(k6 hy hm hz h1).1 hs.symm
 rw[yq h1]at hs
 apply List.ext_getElem?
 intro i
 rcases Nat.lt_or_ge i W with hi | hi
 ·have e1:=List.getElem?_eq_getElem (l:=aK ts m) (i:=i) (by rw[hm'.1];omega)
  have e3:=List.getElem?_eq_getElem (l:=ys) (i:=i) (by rw[hl];exact hi)
  have:=(nS hm' h2 hl hy e1).1 _ e3
  have e4:=congrArg (fun l:List (List Nat)=>l[i]?) hs
  simp only[List.getElem?_map,e1,Option.map_some,this]at e4
  rw[List.getElem?_replicate,if_pos om]at e4
  rw[e3,List.getElem?_replicate,if_pos hi]
  exact e4.symm
 ·rw[List.getElem?_eq_none (by rw[hl];exact hi),List.getElem?_eq_none (by simpa using hi)]
def fX:List Nat→Nat
 |[]=>0
 |a::l=>a ^^^ fX l
theorem q_:∀{l:List Nat},(∀(c:Nat) b,l[c]?=some b→b=0)→fX l=0
 |[],_=>rfl
 |a::l,h=>by
  have h0:=h 0 a sm
  subst h0
  simp only[fX,Nat.zero_xor]
  exact q_ fun c b hb=>h (c+1) b (by simpa using hb)
theorem rK:∀{l:List Nat} {i a:Nat},l[i]?=some a→(∀(c:Nat) b,c≠i→l[c]?=some b→b=0)→fX l=a
 |[],i,a,h,_=>by simp at h
 |x::l,0,a,h,k=>by
  simp at h
  subst h
  simp only[fX]
  rw[q_ (l:=l) fun c b hb=>k (c+1) b om (by simpa using hb),Nat.xor_zero]
 |x::l,i+1,a,h,k=>by
  have h0:=k 0 x om sm
  subst h0
  simp only[fX,Nat.zero_xor]
  exact rK (by simpa using h) fun c b hc hb=>k (c+1) b om (by simpa using hb)
theorem wF:∀{l:List Nat} {i j a b:Nat},i≠j→l[i]?=some a→l[j]?=some b→(∀(c:Nat) x,c≠i→c≠j→l[c]?=some x→x=0)→fX l=a ^^^ b
 |[],i,j,a,b,_,h,_,_=>by simp at h
 |x::l,0,0,a,b,h,_,_,_=>absurd rfl h
 |x::l,0,j+1,a,b,_,h,k,z=>by
  simp at h
  subst h
  simp only[fX]
  rw[rK (l:=l) (i:=j) (a:=b) (by simpa using k) fun c y hc hb=>z (c+1) y om om (by simpa using hb)]
 |x::l,i+1,0,a,b,_,h,k,z=>by
  simp at k
  subst k
  simp only[fX]
  rw[rK (l:=l) (i:=i) (a:=a) (by simpa using h) fun c y hc hb=>z (c+1) y om om (by simpa using hb),Nat.xor_comm]
 |x::l,i+1,j+1,a,b,hij,h,k,z=>by
  have h0:=z 0 x om om sm
  subst h0
  simp only[fX,Nat.zero_xor]
  exact wF (i:=i) (j:=j) om (by simpa using h) (by simpa using k) fun c y hc hd hb=>z (c+1) y om om (by simpa using hb)
theorem wZ:∀{r y:List Nat},r.length=y.length→a9 1 r (y.map fun a=>[a])=[fX (List.zipWith gm r y)]
 |[],[],_=>rfl
 |a::r,b::y,h=>by
  simp only[List.map_cons,a9,List.zipWith_cons_cons,fX,List.map_nil]
  rw[wZ (by simpa using h)]
  rfl
 |[],_::_,h=>by simp at h
 |_::_,[],h=>by simp at h
theorem vr{r y:List Nat}{c b:Nat}(h:(List.zipWith gm r y)[c]?=some b):∃p q,r[c]?=some p∧y[c]?=some q∧b=gm p q:=by
 rw[List.getElem?_zipWith]at h
 cases hp:r[c]? with
 |none=>rw[hp]at h;cases h
 |some p=>
  cases hq:y[c]? with
  |none=>rw[hp,hq]at h;cases h
  |some q=>rw[hp,hq]at h;cases h;exact⟨p,q,rfl,rfl,rfl⟩
theorem uv{r y:List Nat}{c p q:Nat}(hp:r[c]?=some p)(hq:y[c]?=some q):(List.zipWith gm r y)[c]?=some (gm p q):=by rw[List.getElem?_zipWith,hp,hq]
theorem fO.null{W N len:Nat}{m d xs:List (List Nat)}(hm:Mx len W m)(hd:Mx len N d)(h:fO W N len m d)(hl:xs.length=W)(hx:∀x∈xs,Rw N x)(hs:d=m.map fun r=>a9 N r xs):
 ∃ys,ys.length=W∧(∀y∈ys,Rw 1 y)∧m.map (fun r=>a9 1 r ys)=List.replicate len (zs 1)∧ys≠List.replicate W (zs 1):=by
 obtain⟨ts,h1,h2⟩:=h.ex
 have hm':=hm.runs h1
 have hd':=hd.runs h1
 rcases h2 with⟨n,h2,h3,h4,h5⟩|⟨h2,h3,i,e,h4,h5,x,h6,h7⟩
 ·have hv:∀c,c<W→∃a,(if c<n then((bc (aK ts m) c)[n]?).getD 0 else if c=n then 1 else 0)=a∧a<256:=fun c hc=>by
   refine⟨_,rfl,?_⟩
   split
   ·rename_i hcn
    have hr:=hm'.row (show c<len by omega)
    cases hq:(bc (aK ts m) c)[n]? with
    |none=>simp
    |some a=>exact hr.2 a (List.mem_of_getElem? hq)
   ·split<;>omega
  generalize hy:(List.range W).map (fun c=>if c<n then((bc (aK ts m) c)[n]?).getD 0 else if c=n then 1 else 0)=y at*
  have hyl:y.length=W:=by rw[←hy];simp
  have hyc:∀c,c<W→y[c]?=some (if c<n then((bc (aK ts m) c)[n]?).getD 0 else if c=n then 1 else 0):=fun c hc=>by
   rw[←hy,List.getElem?_map,List.getElem?_range hc];rfl
  have hyb:B8 y:=fun a ha=>by
   obtain⟨c,hc⟩:=List.getElem?_of_mem ha
   have hcW:c<W:=by
    rcases Nat.lt_or_ge c W with g | g
    ·exact g
    ·rw[List.getElem?_eq_none om]at hc;cases hc
   rw[hyc c hcW]at hc
   cases hc
   obtain⟨a,e,ha⟩:=hv c hcW
   rw[e];exact ha
  have hyr:∀z∈y.map (fun a=>[a]),Rw 1 z:=fun z hz=>by
   obtain⟨a,ha,rfl⟩:=List.mem_map.1 hz
   exact⟨rfl,fun b hb=>by simp at hb;subst hb;exact hyb b ha⟩
  refine⟨y.map fun a=>[a],by rw[List.length_map,hyl],hyr,?_,fun he=>?_⟩
  ·have hz:Mx len 1 (List.replicate len (zs 1)):=⟨sm,fun r hr=>by rw[List.eq_of_mem_replicate hr];exact Rw.zs 1⟩
   refine((k6 hyr hm hz h1).2 ?_).symm
   rw[yq h1]
   apply List.ext_getElem?
   intro i
   rw[List.getElem?_map]
   rcases Nat.lt_or_ge i len with hi | hi
   ·have e1:=List.getElem?_eq_getElem (l:=aK ts m) (i:=i) (by rw[hm'.1];exact hi)
    generalize hr:(aK ts m)[i]'(by rw[hm'.1];exact hi)=r at e1
    have hrw:=hm'.2 r (by rw[←hr];exact List.getElem_mem _)
    rw[e1,Option.map_some,List.getElem?_replicate,if_pos hi,wZ (by rw[hrw.1,hyl])]
    congr 1
    show[0]=_
    congr 1
    symm
    have hrn:∃v,r[n]?=some v∧v<256:=⟨r[n]'(by rw[hrw.1];exact h2),List.getElem?_eq_getElem _,hrw.2 _ (List.getElem_mem _)⟩
    obtain⟨v,hv1,hv2⟩:=hrn
    have hzero:∀(c:Nat) p q,c≠i→c≠n→r[c]?=some p→y[c]?=some q→gm p q=0:=fun c p q hci hcn hp hq=>by
     have hcW:c<W:=by
      rcases Nat.lt_or_ge c W with g | g
      ·exact g
      ·rw[List.getElem?_eq_none om]at hq;cases hq
     rcases Nat.lt_or_ge c n with g | g
     ·have:=h4 c g i r e1
      rw[if_neg (Ne.symm hci),hp]at this
      cases this
      exact sv q
     ·have:=hyc c hcW
      rw[hq,if_neg om,if_neg hcn]at this
      cases this
      exact gM p
    have hyn:=hyc n h2
    rw[if_neg om,if_pos rfl]at hyn
    rcases Nat.lt_or_ge i n with g | g
    ·have hri:=h4 i g i r e1
     rw[if_pos rfl]at hri
     have hyi:=hyc i om
     have e3:bc (aK ts m) i=r:=by unfold bc;rw[e1];rfl
     rw[if_pos g,e3,hv1,Option.getD_some]at hyi
     rw[wF (i:=i) (j:=n) om (uv hri hyi) (uv hv1 hyn) fun c x hci hcn hx=>by
      obtain⟨p,q,hp,hq,rfl⟩:=vr hx
      exact hzero c p q hci hcn hp hq]
     rw[mR hv2,gm_comm hv2 om,mR hv2,Nat.xor_self]
    ·have hr0:=h5 i r g e1
     refine q_ fun c x hx=>?_
     obtain⟨p,q,hp,hq,rfl⟩:=vr hx
     by_cases hcn:c=n
     ·subst hcn
      rw[hp]at hr0
      cases hr0
      exact sv q
     ·by_cases hci:c=i
      ·subst hci
       have hcW:c<W:=by
        rcases Nat.lt_or_ge c W with g' | g'
        ·exact g'
        ·rw[List.getElem?_eq_none om]at hq;cases hq
       have:=hyc c hcW
       rw[hq,if_neg om,if_neg hcn]at this
       cases this
       exact gM p
      ·exact hzero c p q hci hcn hp hq
   ·rw[List.getElem?_eq_none (l:=List.replicate len (zs 1)) (by simpa using hi),List.getElem?_eq_none (l:=aK ts m) (by rw[hm'.1];exact hi)]
    rfl
  ·have:=congrArg (fun l:List (List Nat)=>l[n]?) he
   simp only[List.getElem?_map,hyc n h2,Option.map_some]at this
   rw[List.getElem?_replicate,if_pos h2,if_neg om]at this
   simp[zs]at this
 ·exfalso
  rw[k6 hx hm hd h1]at hs
  rw[hs,List.getElem?_map,Option.map_eq_some_iff]at h5
  obtain⟨r,hr,rfl⟩:=h5
  rw[(nS hm' h2 hl hx hr).2 h4]at h6
  exact h7 (List.eq_of_mem_replicate h6)
theorem bf{H:Heap}{id sz len:Nat}{cs:List F}{ex:Bool}{cap:Option Nat}(h:H id=some (.cells cs ex))(hl:len*sz=cs.length):aF H sz (.sl id 0 sz len cap)=some cs:=by
 simp only[aF,if_true,h]
 rw[if_pos om,hl]
 simp
theorem bJ.lenA{H:Heap}{f:F}{rs:List (List Nat)}(h:bJ H f rs):Cm.cd f=some rs.length:=by
 rcases h.cases with⟨rfl,rfl⟩|⟨id,off,cap,fs,rfl,_⟩<;>rfl
theorem bJ.sl{H:Heap}{f:F}{rs:List (List Nat)}(h:bJ H f rs)(h0:0<rs.length):∃id off cap fs,f=.sl id off 1 rs.length cap∧aw (aB H) fs rs∧∀(i:Nat) g,fs[i]?=some g→cn H id (off+i) g:=by
 rcases h.cases with⟨rfl,rfl⟩ | h
 ·simp at h0
 ·exact h
theorem bJ.mono{H H':Heap}(hm:ab H H'){f:F}{rs:List (List Nat)}(h:bJ H f rs):bJ H' f rs:=by
 obtain⟨fs,h1,h2⟩:=h
 exact⟨fs,aO hm h1,h2.mono fun _ _ q=>q.mono hm⟩
theorem aB.sl{H:Heap}{f:F}{l:List Nat}(h:aB H f l)(h0:0<l.length):∃id off cap,f=.sl id off 1 l.length cap∧∀(i x:Nat),l[i]?=some x→cn H id (off+i) (.int .u8 (x:Int)):=by
 rcases h.cases with⟨rfl,rfl⟩ | h
 ·simp at h0
 ·exact h
theorem rI{X:Heap}{n N:Nat}{f:F}(rs:List (List Nat))(hr:bJ X f rs)(hN:N≤1000)(hlt:rs.length<9223372036854775808)(ht:ap X n):af 65 [vi N,vf f] X n fun v X'=>∃g,v=vf g∧aB X' g (cE N rs):=by
 have h:=xT rs hr hN hlt ht
 have hb:Rw N (cE N rs):=by
  have:∀(rs:List (List Nat)) (cur:List Nat),Rw N cur→(∀r∈rs,B8 r)→Rw N (rs.foldl aX cur):=by
   intro rs
   induction rs with
   |nil=>intro cur h _;exact h
   |cons r rs ih=>intro cur h hr;exact ih _ ⟨by rw[iz,h.1],lc h.2 (hr r sm)⟩ fun q hq=>hr q (by simp[hq])
  refine this rs _ (Rw.zs N) fun r hq=>?_
  obtain⟨fs,_,hA⟩:=hr
  obtain⟨i,hi,rfl⟩:=List.mem_iff_getElem.1 hq
  obtain⟨g,_,hg⟩:=hA.nth hi
  exact hg.2.1
 refine⟨_,_,_,h,kY (ht n (Nat.le_refl _)),h.1.top ht,_,rfl,bf (bG _ _ _) (by rw[bg,hb.1];simp),hb.2,by rw[hb.1];omega⟩
theorem qU{X:Heap}{n c:Nat}{f:F}(l:List Nat)(hr:aB X f l)(h0:0<l.length)(hc:c<256)(ht:ap X n):af 141 [vb c,vf f] X n fun v X'=>∃g,v=vf g∧aB X' g (bW c l):=by
 obtain⟨id,off,cap,rfl,_⟩:=hr.sl h0
 have h:=wB (n:=n) (c:=c) l hr.1 hr.2.1 hc hr.2.2 ht
 exact⟨_,_,_,h,kY (ht n (Nat.le_refl _)),h.1.top ht,_,rfl,bf (bG _ _ _) (by simp[bg]),yP hc l,by rw[jP];exact hr.2.2⟩
theorem aw.snoc{α β:Type}{R:α→β→Prop}{l:List α}{k:List β}(h:aw R l k){a:α}{b:β}(hab:R a b):aw R (l++[a]) (k++[b]):=aw.append h ⟨hab,trivial⟩
theorem e_{α:Type}{l:List α}{i:Nat}(hi:i<l.length):l.take (i+1)=l.take i++[l[i]]:=by simp
theorem ww{X:Heap}{n:Nat}{N:Nat}{f:F}(l:List Nat)(hr:aB X f l)(hN:N≤1000)(ht:ap X n):af 41 [vi N,vf (f)] X n fun v X'=>∃g,v=vf g∧aB X' g (cE N [l]):=by
 refine af.of_to kr ?_
 have s0:=aa.ini ht
 have hm0:ab X X:=ab.rfl
 refine ah 1 (ai 2 ?_)
 obtain⟨X1,H2,s3,m4,f5,J6⟩:=bj s0 (.cells [f] true)
 have hm0:=hm0.tr m4
 have hr:=hr.mono m4
 refine ov 7 (J6 _ _ (vf (.sl (n) (0) 1 (1) none))) ?_
 obtain⟨_,X7,n8,hc9,hm10,ht11,⟨g,rfl,hg⟩⟩:=(rI (N:=N) [l] ⟨[f],bf f5 rfl,⟨hr,trivial⟩⟩ hN sm s3.topX:af 65 [vi N,vf (.sl (n) (0) 1 (1) none)] X1 (n+1) _)
 obtain⟨_,hc13,s⟩:=s3.call hc9 hm10 ht11
 have hm0:=hm0.tr hm10
 refine ov 8 (jC hc13) (ax 1 ?_)
 exact⟨.inr rfl,_,kr,X7,_,s,hm0,g,rfl,hg⟩
theorem xn{X:Heap}{n:Nat}{N:Nat}{f:F}(rs:List (List Nat))(hr:bJ X f rs)(hN:N≤1000)(hlt:rs.length<100000)(ht:ap X n):bF 94 [vi N,vf (f)] X n fun v X' M'=>∃a fs,v=vf a∧M'=a_ a fs∧bO 1 a fs∧aw (aB X') fs (rs.map fun r=>cE N [r]):=by
 refine bF.of_to kr ?_
 have s0:=aa.ini ht
 have hm0:ab X X:=ab.rfl
 refine ah 1 (ah 1 (aP 1 (ov 9 (lv rs.length hr.lenA) (ae 1 (bk 0 (To.loop kr (aC.for (rs.length) (fun i A H n=>∃(Y:Heap) (a:F) (fs:List F),aL A [(0,vi N),(8,vf (f)),(9,vi rs.length),(10,vi i),(5,vf (a))]∧aa Y H n ([]++(a_ (a) (fs)++[]))∧ab X Y∧bJ Y f rs∧bO 1 a fs∧aw (aB Y) fs ((rs.take i).map fun r=>cE N [r])) ⟨X,.sl0,[],az (ts:=[0,8,9,10,5]) kr,s0,hm0,hr,bO.nil 1,trivial⟩ (fun i A H n hi hI=>?_) (fun A H n hI=>?_))))))))
 ·obtain⟨Y,a,fs,hT,s,hm0,hr,ha,hA⟩:=hI
  refine To.keep _ ?_ hT.sub
  have hl:=hA.length
  rw[List.length_map,List.length_take]at hl
  obtain⟨id,off,cap,gs,rfl,hG,hat⟩:=hr.sl om
  obtain⟨g,hg0,hg⟩:=hG.nth hi
  refine ag (ov 11 (lT i rs.length) (aQ (aM (nx (aD 1 (ag (ov 12 (ix id off 1 rs.length i) (ov 13 (lx id (off+i*1) g (by rw[Nat.mul_one];exact(hat i g hg0).mono (s.mono _))) (ae 1 (rg (go 3 ?_)))))))))))
  obtain⟨_,_,n1,hc19,hm20,ht21,⟨g2,rfl,hg2⟩⟩:=(ww (N:=N) rs[i] hg hN s.topX:af 41 [vi N,vf (g)] Y (n) _)
  obtain⟨_,hc23,s⟩:=s.call hc19 hm20 ht21
  have hm0:=hm0.tr hm20
  have hr:=hr.mono hm20
  have hA:=hA.mono fun _ _ q=>q.mono hm20
  refine ov 17 (jC hc23) ?_
  obtain⟨W,_,s,m,f1,J⟩:=bj s (.cells [g2] true)
  have hm0:=hm0.tr m
  have hr:=hr.mono m
  have hA:=hA.mono fun _ _ q=>q.mono m
  have hg2:=hg2.mono m
  refine ov 18 (J _ _ (vf (.sl (n1) (0) 1 (1) none))) ?_
  obtain⟨_,_,_,ha34,s,J⟩:=eW (sz:=1) (bytes:=24) (x:=.sl (n1) (0) 1 (1) none) (fs:=fs) (new:=[g2]) (M1:=[]) s ha (bf (s.mono _ _ f1) rfl) (rfl) om om
  refine ov 19 (J _ _) (ae 1 (rg (ov 20 (aN i 1) (aR 1 ?_))))
  exact .inl ⟨rfl,W,_,_,az (ts:=[0,8,9,10,5]) kr,s,hm0,hr,ha34,by rw[e_ hi,List.map_append];exact hA.snoc hg2⟩
 ·obtain⟨Y,a,fs,hT,s,hm0,hr,ha,hA⟩:=hI
  refine To.keep _ ?_ hT.sub
  refine ag (ov 11 (au (cr .i64 (x:=(((rs.length):Nat):Int)) (y:=((rs.length:Nat):Int)) sm)) (aQ (iF (To.exit 0 kr ?_))))
  refine⟨sm,?_⟩
  show To Tryz.prog 94 [1,1,1] _ _ _ _
  refine ah 2 (rt ?_)
  exact⟨.inr rfl,_,kr,Y,_,s,hm0,a,fs,rfl,sm,ha,by rw[List.take_length]at hA;exact hA⟩
theorem wH{H:Heap}{sz:Nat}{f:F}{cs:List F}(h:aF H sz f=some cs):∃len,cd f=some len∧cs.length=len*sz:=by
 cases f with
 |sl0=>simp only[aF,Option.some.injEq]at h;subst h;exact⟨0,rfl,sm⟩
 |sl id off sz' len cap=>exact⟨len,rfl,(dG h).2.1⟩
 |_=>simp[aF]at h
theorem cQ{H:Heap}{f:F}{cs:List F}(h:aF H 1 f=some cs):cd f=some cs.length:=by
 obtain⟨len,h1,h2⟩:=wH h
 rw[h1];congr 1;omega
theorem cW{H:Heap}{f:F}{cs:List F}(h:aF H 1 f=some cs)(h0:0<cs.length):∃id off cap,f=.sl id off 1 cs.length cap∧∀(i:Nat) x,cs[i]?=some x→cn H id (off+i) x:=by
 cases f with
 |sl0=>simp only[aF,Option.some.injEq]at h;subst h;simp at h0
 |sl id off sz' len cap=>
  obtain⟨rfl,h1,_,h2⟩:=dG h
  have:len=cs.length:=by omega
  subst this
  exact⟨id,off,cap,rfl,h2⟩
 |_=>simp[aF]at h
theorem af.same{f:Nat}{args:List V}{X X':Heap}{n n':Nat}{v:V}(hc:aS Tryz.prog f args X n v X' n')(hm:ab X X')(ht:ap X' n'):af f args X n fun u _=>u=v:=⟨_,_,_,hc,hm,ht,rfl⟩
/-- the first one of which something is so -/
def ll(p:Nat→Bool)(len:Nat)(v:V):Prop:=(∃i,i<len∧p i=true∧(∀j,j<i→p j=false)∧v=vi i)∨((∀i,i<len→p i=false)∧v=vf (.int .i64 (-1)))
theorem ye{X:Heap}{n:Nat}{f:F}{g:Nat}{caps cs:List F}(p:Nat→Bool)(hr:aF X 1 f=some cs)(hlt:cs.length<100000)(hgo:bX Tryz.prog g=true)(hg:∀(i:Nat) x,cs[i]?=some x→∀Y m,ab X Y→ap Y m→af g ([vf x]++caps.map fun x=>.u (.f x)) Y m fun v _=>v=vf (.bool (p i)))(ht:ap X n):af 66 [vf (f),.u (.fn g caps)] X n fun v X'=>ll p cs.length v:=by
 refine af.of_to kr ?_
 have s0:=aa.ini ht
 have hm0:ab X X:=ab.rfl
 refine ah 1 (aP 1 (ov 7 (lv cs.length (cQ hr)) (ae 1 (bk 0 (To.loop kr (aC.for (cs.length) (fun i A H n=>∃(Y:Heap),aL A [(0,vf (f)),(1,.u (.fn g caps)),(7,vi cs.length),(8,vi i)]∧aa Y H n []∧ab X Y∧aF Y 1 f=some cs∧∀j,j<i→p j=false) ⟨X,az (ts:=[0,1,7,8]) kr,s0,hm0,hr,fun j hj=>by omega⟩ (fun i A H n hi hI=>?_) (fun A H n hI=>?_)))))))
 ·obtain⟨Y,hT,s1,hm0,hr,hn⟩:=hI
  refine To.keep _ ?_ hT.sub
  have hx:cs[i]?=some cs[i]:=List.getElem?_eq_getElem hi
  obtain⟨id,off,cap,rfl,hat⟩:=cW hr om
  refine ag (ov 9 (lT i cs.length) (aj ?_))
  cases hp:p i
  ·refine sq (aM (nx (aD 1 (ah 2 (ai 3 (ov 14 (ix id off 1 cs.length i) (ov 15 (lx id (off+i*1) cs[i] (by rw[Nat.mul_one];exact(hat i _ hx).mono (s1.mono _))) ?_)))))))
   obtain⟨_,X2,n3,hc4,hm5,ht6,rfl⟩:=(((hg i _ hx _ _ hm0 s1.topX).imp fun v X' h=>(h.trans (by rw[hp]):v=vf (.bool false))):af g ([vf (cs[i])]++caps.map fun x=>.u (.f x)) Y (n) _)
   obtain⟨H7,hc8,s9⟩:=s1.call hc4 hm5 ht6
   have hm0:=hm0.tr hm5
   have hr:=aO hm5 hr
   refine ov 16 (b_ hgo hc8 kr) (aj (ar (nx (rg (ov 18 (aN i 1) (aR 1 ?_))))))
   exact .inl ⟨rfl,X2,az (ts:=[0,1,7,8]) kr,s9,hm0,hr,fun j hj=>by rcases Nat.lt_or_ge j i with h | h;exact hn j h;rw[show j=i by omega];exact hp⟩
  ·refine sq (aM (nx (aD 1 (ah 2 (ai 3 (ov 14 (ix id off 1 cs.length i) (ov 15 (lx id (off+i*1) cs[i] (by rw[Nat.mul_one];exact(hat i _ hx).mono (s1.mono _))) ?_)))))))
   obtain⟨_,W,_,hc12,hm13,ht14,rfl⟩:=(((hg i _ hx _ _ hm0 s1.topX).imp fun v X' h=>(h.trans (by rw[hp]):v=vf (.bool true))):af g ([vf (cs[i])]++caps.map fun x=>.u (.f x)) Y (n) _)
   obtain⟨_,hc16,s⟩:=s1.call hc12 hm13 ht14
   have hm0:=hm0.tr hm13
   refine ov 16 (b_ hgo hc16 kr) (aj (iT (ah 2 (rt (.inr ⟨sm,?_⟩)))))
   exact⟨.inr rfl,_,kr,W,_,s,hm0,.inl ⟨i,hi,hp,hn,rfl⟩⟩
 ·obtain⟨Y,hT,s,hm0,hr,hn⟩:=hI
  refine To.keep _ ?_ hT.sub
  refine ag (ov 9 (au (cr .i64 (x:=(((cs.length):Nat):Int)) (y:=((cs.length:Nat):Int)) sm)) (aQ (iF (To.exit 0 kr ?_))))
  refine⟨sm,?_⟩
  show To Tryz.prog 66 [1,1] _ _ _ _
  refine ah 1 (rt ?_)
  exact⟨.inr rfl,_,kr,Y,_,s,hm0,.inr ⟨hn,rfl⟩⟩
theorem Eh{X:Heap}{n:Nat}{f:F}{g:Nat}{caps cs:List F}(p:Nat→Bool)(hr:aF X 1 f=some cs)(hlt:cs.length<100000)(hgo:bX Tryz.prog g=true)(hg:∀(i:Nat) x,cs[i]?=some x→∀Y m,ab X Y→ap Y m→af g ([vf x]++caps.map fun x=>.u (.f x)) Y m fun v _=>v=vf (.bool (p i)))(ht:ap X n):af 144 [vf (f),.u (.fn g caps)] X n fun v X'=>ll p cs.length v:=by
 refine af.of_to kr ?_
 have s0:=aa.ini ht
 have hm0:ab X X:=ab.rfl
 refine ah 1 (aP 1 (ov 7 (lv cs.length (cQ hr)) (ae 1 (bk 0 (To.loop kr (aC.for (cs.length) (fun i A H n=>∃(Y:Heap),aL A [(0,vf (f)),(1,.u (.fn g caps)),(7,vi cs.length),(8,vi i)]∧aa Y H n []∧ab X Y∧aF Y 1 f=some cs∧∀j,j<i→p j=false) ⟨X,az (ts:=[0,1,7,8]) kr,s0,hm0,hr,fun j hj=>by omega⟩ (fun i A H n hi hI=>?_) (fun A H n hI=>?_)))))))
 ·obtain⟨Y,hT,s,hm0,hr,hn⟩:=hI
  refine To.keep _ ?_ hT.sub
  have hx:cs[i]?=some cs[i]:=List.getElem?_eq_getElem hi
  obtain⟨id,off,cap,rfl,hat⟩:=cW hr om
  refine ag (ov 9 (lT i cs.length) (aj ?_))
  cases hp:p i
  ·refine sq (aM (nx (aD 1 (ah 2 (ai 3 (ov 14 (ix id off 1 cs.length i) (ov 15 (lx id (off+i*1) cs[i] (by rw[Nat.mul_one];exact(hat i _ hx).mono (s.mono _))) ?_)))))))
   obtain⟨_,W,_,hc22,hm23,ht24,rfl⟩:=(((hg i _ hx _ _ hm0 s.topX).imp fun v X' h=>(h.trans (by rw[hp]):v=vf (.bool false))):af g ([vf (cs[i])]++caps.map fun x=>.u (.f x)) Y (n) _)
   obtain⟨_,hc26,s⟩:=s.call hc22 hm23 ht24
   have hm0:=hm0.tr hm23
   have hr:=aO hm23 hr
   refine ov 16 (b_ hgo hc26 kr) (aj (ar (nx (rg (ov 18 (aN i 1) (aR 1 ?_))))))
   exact .inl ⟨rfl,W,az (ts:=[0,1,7,8]) kr,s,hm0,hr,fun j hj=>by rcases Nat.lt_or_ge j i with h | h;exact hn j h;rw[show j=i by omega];exact hp⟩
  ·refine sq (aM (nx (aD 1 (ah 2 (ai 3 (ov 14 (ix id off 1 cs.length i) (ov 15 (lx id (off+i*1) cs[i] (by rw[Nat.mul_one];exact(hat i _ hx).mono (s.mono _))) ?_)))))))
   obtain⟨_,W,_,hc30,hm31,ht32,rfl⟩:=(((hg i _ hx _ _ hm0 s.topX).imp fun v X' h=>(h.trans (by rw[hp]):v=vf (.bool true))):af g ([vf (cs[i])]++caps.map fun x=>.u (.f x)) Y (n) _)
   obtain⟨_,hc34,s⟩:=s.call hc30 hm31 ht32
   have hm0:=hm0.tr hm31
   refine ov 16 (b_ hgo hc34 kr) (aj (iT (ah 2 (rt (.inr ⟨sm,?_⟩)))))
   exact⟨.inr rfl,_,kr,W,_,s,hm0,.inl ⟨i,hi,hp,hn,rfl⟩⟩
 ·obtain⟨Y,hT,s,hm0,hr,hn⟩:=hI
  refine To.keep _ ?_ hT.sub
  refine ag (ov 9 (au (cr .i64 (x:=(((cs.length):Nat):Int)) (y:=((cs.length:Nat):Int)) sm)) (aQ (iF (To.exit 0 kr ?_))))
  refine⟨sm,?_⟩
  show To Tryz.prog 144 [1,1] _ _ _ _
  refine ah 1 (rt ?_)
  exact⟨.inr rfl,_,kr,Y,_,s,hm0,.inr ⟨hn,rfl⟩⟩
theorem uP{X:Heap}{n:Nat}{f:F}{g:Nat}{caps cs:List F}(p:Nat→Bool)(hr:aF X 1 f=some cs)(hlt:cs.length<100000)(hgo:bX Tryz.prog g=true)(hg:∀(i:Nat) x,cs[i]?=some x→∀Y m,ab X Y→ap Y m→af g ([vf x]++caps.map fun x=>.u (.f x)) Y m fun v _=>v=vf (.bool (p i)))(ht:ap X n):af 43 [vf (f),.u (.fn g caps)] X n fun v X'=>(v=vf (.bool true)∧∃i,i<cs.length∧p i=true)∨(v=vf (.bool false)∧∀i,i<cs.length→p i=false):=by
 refine af.of_to kr ?_
 have s0:=aa.ini ht
 have hm0:ab X X:=ab.rfl
 obtain⟨v,X2,n2,hc,hm,ht2,hfi⟩:=(ye p hr hlt hgo hg s0.topX:af _ _ _ _ _)
 rcases hfi with⟨i,hi,hp,hn,rfl⟩|⟨hn,rfl⟩
 ·refine ah 1 (ai 2 ?_)
  obtain⟨_,W,_,hc39,hm40,ht41,rfl⟩:=(af.same hc hm ht2:af 66 [vf (f),.u (.fn g caps)] X (n) _)
  obtain⟨_,hc43,s⟩:=s0.call hc39 hm40 ht41
  have hm0:=hm0.tr hm40
  refine ov 7 (jC hc43) (ov 8 (hT i 0) (ax 1 ?_))
  exact⟨.inr rfl,_,kr,W,_,s,hm0,.inl ⟨rfl,i,hi,hp⟩⟩
 ·refine ah 1 (ai 2 ?_)
  obtain⟨_,W,_,hc47,hm48,ht49,rfl⟩:=(af.same hc hm ht2:af 66 [vf (f),.u (.fn g caps)] X (n) _)
  obtain⟨_,hc51,s⟩:=s0.call hc47 hm48 ht49
  have hm0:=hm0.tr hm48
  refine ov 7 (jC hc51) (ov 8 (au (gS .i64 (x:=(-1:Int)) (y:=(0:Int)) om)) (ax 1 ?_))
  exact⟨.inr rfl,_,kr,W,_,s,hm0,.inr ⟨rfl,hn⟩⟩
theorem Cj{X:Heap}{n:Nat}{f:F}{g:Nat}{caps cs:List F}(p:Nat→Bool)(hr:aF X 1 f=some cs)(hlt:cs.length<100000)(hgo:bX Tryz.prog g=true)(hg:∀(i:Nat) x,cs[i]?=some x→∀Y m,ab X Y→ap Y m→af g ([vf x]++caps.map fun x=>.u (.f x)) Y m fun v _=>v=vf (.bool (p i)))(ht:ap X n):af 99 [vf (f),.u (.fn g caps)] X n fun v X'=>(v=vf (.bool true)∧∃i,i<cs.length∧p i=true)∨(v=vf (.bool false)∧∀i,i<cs.length→p i=false):=by
 refine af.of_to kr ?_
 have s0:=aa.ini ht
 have hm0:ab X X:=ab.rfl
 obtain⟨v,X2,n2,hc,hm,ht2,hfi⟩:=(Eh p hr hlt hgo hg s0.topX:af _ _ _ _ _)
 rcases hfi with⟨i,hi,hp,hn,rfl⟩|⟨hn,rfl⟩
 ·refine ah 1 (ai 2 ?_)
  obtain⟨_,W,_,hc55,hm56,ht57,rfl⟩:=(af.same hc hm ht2:af 144 [vf (f),.u (.fn g caps)] X (n) _)
  obtain⟨_,hc59,s⟩:=s0.call hc55 hm56 ht57
  have hm0:=hm0.tr hm56
  refine ov 7 (jC hc59) (ov 8 (hT i 0) (ax 1 ?_))
  exact⟨.inr rfl,_,kr,W,_,s,hm0,.inl ⟨rfl,i,hi,hp⟩⟩
 ·refine ah 1 (ai 2 ?_)
  obtain⟨_,W,_,hc63,hm64,ht65,rfl⟩:=(af.same hc hm ht2:af 144 [vf (f),.u (.fn g caps)] X (n) _)
  obtain⟨_,hc67,s⟩:=s0.call hc63 hm64 ht65
  have hm0:=hm0.tr hm64
  refine ov 7 (jC hc67) (ov 8 (au (gS .i64 (x:=(-1:Int)) (y:=(0:Int)) om)) (ax 1 ?_))
  exact⟨.inr rfl,_,kr,W,_,s,hm0,.inr ⟨rfl,hn⟩⟩
end Go.Proofs.YtkimkgbppegkhaaGreat.Cm

/- The clean machine, where a region draws its order: any order comes to what one order comes to. No program is walked here. -/
import Derived.Test.YtkimkgbppegkhaaGreatCmM
import Derived.Orders
set_option linter.unusedVariables false
set_option linter.unusedSimpArgs false
namespace Go.Proofs.YtkimkgbppegkhaaGreat.Cm
open Go Go.RowKit
section
variable {P:Program} {r r':Operand→Option V} {h:Heap} {n:Nat} {ef:Ef}
theorem nH:∀(l:List Operand),(∀x∈l,r x=r' x)→ct r l=ct r' l
 |[],_=>rfl
 |x::l,hx=>by simp only[ct];rw[hx x sm,nH l fun y hy=>hx y (by simp[hy])]
theorem qF:∀(l:List (Nat×Operand)),(∀x∈l,r x.2=r' x.2)→fj r l=fj r' l
 |[],_=>rfl
 |(i,x)::l,hx=>by simp only[fj];rw[hx (i,x) sm,qF l fun y hy=>hx y (by simp[hy])]
theorem qG{x:Option Operand}(hx:∀y,x=some y→r y=r' y):cR r x=cR r' x:=by
 cases x with
 |none=>rfl
 |some y=>simp only[cR];rw[hx y rfl]
theorem ma{op:Op}(hx:∀x∈op.operands,r x=r' x):stepOp P op r h n=stepOp P op r' h n:=by
 cases op<;>simp only[Op.operands]at hx<;>first
  |rfl
  |skip
 case build t ps=>simp only[stepOp];rw[qF ps.toList fun x hm=>hx x.2 (by simp;exact⟨x.1,by simpa using hm⟩)]
 case buildSlice t l ps=>simp only[stepOp];rw[qF ps.toList fun x hm=>hx x.2 (by simp;exact⟨x.1,by simpa using hm⟩)]
 case makeFunc fn first caps=>cases fn<;>first | rfl | (simp only[stepOp]; rw[nH caps.toList fun x hm=>hx x (by simp at hm; simp[hm])])
 case makeMap t x=>cases x<;>rfl
 case unOp op t x=>cases op<;>first | rfl | (simp only[stepOp]; rw[hx x sm])
 case slice t x lo hi mx=>
  simp only[stepOp]
  rw[hx x sm,qG (x:=lo) fun y hy=>hx y (by simp[hy]),qG (x:=hi) fun y hy=>hx y (by simp[hy]),qG (x:=mx) fun y hy=>hx y (by simp[hy])]
 case pick c a b=>
  simp only[stepOp]
  rw[hx c sm]
  split
  ·rename_i t _
   cases t
   ·simp only[Bool.false_eq_true,if_false];rw[hx b sm]
   ·simp only[if_true];rw[hx a sm]
  ·rfl
 case next x s=>cases s<;>first | rfl | (simp only[stepOp]; rw[hx x sm])
 case entry x=>simp only[stepOp];rw[hx x sm]
 case call c=>
  obtain⟨callee,args,ats⟩:=c
  cases callee with
  |builtin b=>simp only[stepOp];rw[nH args.toList fun x hm=>hx x (by simp[Call.operands];simpa using hm)]
  |value f=>rfl
  |invoke a b=>rfl
 case mapUpdate t m k x=>simp only[stepOp];rw[hx m sm,hx k sm,hx x sm]
 case move x=>simp only[stepOp];rw[hx x sm]
 case assign x=>simp only[stepOp];rw[hx x sm]
 case box t x=>simp only[stepOp];rw[hx x sm]
 case load t x=>simp only[stepOp];rw[hx x sm]
 case store t a x=>simp only[stepOp];rw[hx a sm,hx x sm]
 case nilCheck x=>simp only[stepOp];rw[hx x sm]
 case binOp op t x y t'=>simp only[stepOp];rw[hx x sm,hx y sm]
 case convert s d x=>simp only[stepOp];rw[hx x sm]
 case makeSlice t l c=>simp only[stepOp];rw[hx l sm,hx c sm]
 case fieldAddr s x f=>simp only[stepOp];rw[hx x sm]
 case indexAddr t x i=>simp only[stepOp];rw[hx x sm,hx i sm]
 case index t x i=>simp only[stepOp];rw[hx x sm,hx i sm]
 case lookup t m k ok=>simp only[stepOp];rw[hx m sm,hx k sm]
 case range t x=>simp only[stepOp];rw[hx x sm]
 case extract x i=>simp only[stepOp];rw[hx x sm]
theorem vB{op:Op}(hx:∀x∈op.operands,r x=r' x):cw r op=cw r' op:=by
 cases op<;>simp only[Op.operands]at hx<;>first
  |rfl
  |skip
 case load t x=>simp only[cw];rw[hx x sm]
 case slice t x lo hi mx=>simp only[cw];rw[hx x sm]
 case lookup t m k ok=>simp only[cw];rw[hx m sm]
 case convert s d x=>simp only[cw];rw[hx x sm]
 case call c=>
  obtain⟨callee,args,ats⟩:=c
  cases callee with
  |builtin b=>
   cases b<;>first
    |rfl
    |skip
   simp only[cw]
   cases hl:args.toList with
   |nil=>rfl
   |cons x l=>cases l with
    |nil=>simp only;rw[hx x (by have:x∈args.toList:=(by rw[hl];simp);simp[Call.operands];simpa using this)]
    |cons y l=>rfl
  |value f=>rfl
  |invoke a b=>rfl
theorem aE.congr{o:Oper}{H H':Heap}{n n':Nat}{v:V}(J:aE P o r H n v H' n')(hx:∀x∈o.op.operands,r x=r' x):aE P o r' H n v H' n':=by
 cases J with
 |prim ef h=>exact .prim ef (by rw[←ma hx];exact h)
 |call f xs ats g caps args v H' n' ho hf ha hg hc=>
  rw[ho]at hx
  simp only[Op.operands,Call.operands]at hx
  exact .call f xs ats g caps args v H' n' ho (by rw[←hx f sm];exact hf) (by rw[←nH _ fun x hm=>hx x (by simp;exact .inr (by simpa using hm))];exact ha) hg hc
theorem aE.frame{o:Oper}{H H':Heap}{n n' k:Nat}{v:V}{ob:O}(J:aE P o r H n v H' n')(hc:bY P o.op=.eff)(hk:H k=none)(hn:k<n∨n'≤k):aE P o r (upd H k (some ob)) n v (upd H' k (some ob)) n':=by
 have hg:=J.good
 cases J with
 |prim ef h=>
  obtain⟨h1,h2⟩:=wX (h':=upd H k (some ob)) (kY hk) hc h
  rw[←xK ef.2.1 H fun p hp e=>by
   rcases h2 p hp with h3 | ⟨h3,h4⟩
   ·rw[e]at h3;exact h3 hk
   ·omega]
  exact .prim ef h1
 |call f xs ats g caps args v H' n' ho hf ha hg' hc'=>
  have hk':H' k=none:=by
   cases hq:H' k with
   |none=>rfl
   |some o=>
    rcases hg.2 k (by simp[hq])with h1 | h1
    ·exact absurd hk h1
    ·omega
  exact .call f xs ats g caps args v _ n' ho hf ha hg' (hc'.frame hk hk')
end
/-- the places of names, and what quiet operations read -/
structure gt where
 lo:Nat→Nat
 hi:Nat→Nat
 rid:Nat→Nat
 fq:Nat→Option O→Option V
section
variable (P:Program) (m:Nat) (ops:Array Oper) (b:Nat→Nat) (D:gt)
/-- one operation of a region that draws -/
inductive cU(i:Nat)(o:Oper)(A:Tm)(H:Heap):V→Heap→Prop where
 |skip (hw:cF ops A o=some false) (hfq:∀ob,D.fq i ob=none):cU i o A H cy H
 |quiet (v:V) (hw:cF ops A o=some true) (hc:bY P o.op=.quiet) (hr:D.rid i=cw (aZ A) o.op) (hf:∀ob,D.fq i ob=(stepOp P o.op (aZ A) (fun _=>ob) 0).map (·.1)) (hv:D.fq i (H (D.rid i))=some v):cU i o A H v H
 |fresh (v:V) (ob:O) (hw:cF ops A o=some true) (hc:bY P o.op=.fresh) (hs:stepOp P o.op (aZ A) H (D.lo i)=some (v,[(D.lo i,some ob)],1)) (hn:D.hi i=D.lo i+1):cU i o A H v (upd H (D.lo i) (some ob))
 |eff (v:V) (H':Heap) (hw:cF ops A o=some true) (hc:bY P o.op=.eff) (J:aE P o (aZ A) H (D.lo i) v H' (D.hi i)):cU i o A H v H'
def sA(i:Nat):Prop:=∃o,ops[i]?=some o∧bY P o.op=.quiet
/-- what an operation turns is nothing that a quiet one, not ordered with it, reads -/
def fT(i:Nat)(H H':Heap):Prop:=∀q,q≠i→sA P ops q→(b i).testBit q=false→(b q).testBit i=false→D.fq q (H (D.rid q))=D.fq q (H' (D.rid q))
inductive iR:List Nat→Tm→Heap→Tm→Heap→Prop where
 |nil (A:Tm) (H:Heap):iR [] A H A H
 |cons (i:Nat) (L:List Nat) (o:Oper) (A:Tm) (H:Heap) (v:V) (H1:Heap) (A':Tm) (H':Heap) (ho:ops[i]?=some o) (hd:∀d,o.dst=some d→d<m) (h:cU P ops D i o A H v H1) (hc:fT P ops b D i H H1)
  (hr:iR L (bR A o.dst v) H1 A' H'):iR (i::L) A H A' H'
/-- of two operations, the first one standing ahead: ordered, or free to be swapped -/
def mQ(x y:Nat):Prop:=x≠y∧(D.hi x≤D.lo y∨D.hi y≤D.lo x)∧((b y).testBit x=true∨((b x).testBit y=false∧∀ox oy,ops[x]?=some ox→ops[y]?=some oy→ox.apart ops oy=true∧(bY P oy.op=.eff→bY P ox.op=.quiet)))
end
section
variable {P:Program} {m:Nat} {ops:Array Oper} {b:Nat→Nat} {D:gt}
theorem FA{A:Tm}{dst:Option Tmp}{v:V}{x:Operand}(h:∀d,dst=some d→x≠.tmp d):aZ (bR A dst v) x=aZ A x:=by
 cases x with
 |tmp t=>
  cases dst with
  |none=>rfl
  |some d=>
   show bR A (some d) v t=A t
   simp only[bR]
   rw[if_neg]
   rintro rfl
   exact h t rfl rfl
 |const v=>rfl
 |func f=>rfl
 |global g=>rfl
theorem DD{A:Tm}{x y:Option Tmp}{v u:V}(h:∀d,x=some d→y≠some d):bR (bR A x v) y u=bR (bR A y u) x v:=by
 cases x with
 |none=>cases y<;>rfl
 |some d=>
  cases y with
  |none=>rfl
  |some e=>
   have hne:d≠e:=fun he=>h d rfl (he▸rfl)
   funext t
   simp only[bR]
   by_cases a:t=e
   ·subst a;simp[Ne.symm hne]
   ·simp[a]
theorem Dx{A:Tm}{dst:Option Tmp}{v:V}{o:Oper}(h:∀d,dst=some d→d∉o.looksAt ops):cF ops (bR A dst v) o=cF ops A o:=by
 unfold cF
 split
 ·rfl
 ·rename_i j want hg
  split
  ·rename_i d hd
   cases dst with
   |none=>rfl
   |some e=>
    have:d≠e:=by
     rintro rfl
     exact h d rfl (by simp[Oper.looksAt,hg,hd])
    simp only[bR,if_neg this]
  ·rfl
theorem DX{o:Oper}{d:Tmp}(h:d∉o.looksAt ops):∀x∈o.op.operands,x≠.tmp d:=by
 rintro x hx rfl
 exact h (List.mem_append_left _ (List.mem_filterMap.2 ⟨.tmp d,by simpa using hx,rfl⟩))
theorem cU.put{i:Nat}{o:Oper}{A:Tm}{H H':Heap}{v u:V}{dst:Option Tmp}(h:∀d,dst=some d→d∉o.looksAt ops):cU P ops D i o (bR A dst u) H v H'↔cU P ops D i o A H v H':=by
 have he:∀x∈o.op.operands,aZ (bR A dst u) x=aZ A x:=fun x hx=>FA fun d hd=>DX (h d hd) x hx
 have hw:=Dx (ops:=ops) (A:=A) (v:=u) h
 constructor
 ·intro J
  cases J with
  |skip h1 h2=>exact .skip (by rw[←hw];exact h1) h2
  |quiet v h1 h2 h3 h4 h5=>exact .quiet v (by rw[←hw];exact h1) h2 (by rw[←vB he];exact h3) (fun ob=>by rw[←ma he];exact h4 ob) h5
  |fresh v ob h1 h2 h3 h4=>exact .fresh v ob (by rw[←hw];exact h1) h2 (by rw[←ma he];exact h3) h4
  |eff v H' h1 h2 h3=>exact .eff v H' (by rw[←hw];exact h1) h2 (h3.congr he)
 ·intro J
  cases J with
  |skip h1 h2=>exact .skip (by rw[hw];exact h1) h2
  |quiet v h1 h2 h3 h4 h5=>exact .quiet v (by rw[hw];exact h1) h2 (by rw[vB he];exact h3) (fun ob=>by rw[ma he];exact h4 ob) h5
  |fresh v ob h1 h2 h3 h4=>exact .fresh v ob (by rw[hw];exact h1) h2 (by rw[ma he];exact h3) h4
  |eff v H' h1 h2 h3=>exact .eff v H' (by rw[hw];exact h1) h2 (h3.congr fun x hx=>(he x hx).symm)
theorem cU.dom{i:Nat}{o:Oper}{A:Tm}{H H':Heap}{v:V}(J:cU P ops D i o A H v H')(k:Nat)(hk:H' k≠none):H k≠none∨(D.lo i≤k∧k<D.hi i):=by
 cases J with
 |skip=>exact .inl hk
 |quiet=>exact .inl hk
 |fresh v ob h1 h2 h3 h4=>
  by_cases a:k=D.lo i
  ·subst a;exact .inr om
  ·rw[br _ _ a]at hk;exact .inl hk
 |eff v H' h1 h2 h3=>exact h3.good.2 k hk
theorem Hv{x y:Nat}{ox oy:Oper}{A:Tm}{H H1 H2:Heap}{v u:V}(hox:ops[x]?=some ox)(hoy:ops[y]?=some oy)(hp:mQ P ops b D x y)(hnb:(b y).testBit x=false)
 (hfx:∀k,D.lo x≤k→k<D.hi x→H k=none) (hfy:∀k,D.lo y≤k→k<D.hi y→H k=none)
 (Jx:cU P ops D x ox A H v H1) (Cx:fT P ops b D x H H1) (Jy:cU P ops D y oy (bR A ox.dst v) H1 u H2) (Cy:fT P ops b D y H1 H2):
 ∃G,cU P ops D y oy A H u G∧fT P ops b D y H G∧cU P ops D x ox (bR A oy.dst u) G v H2∧fT P ops b D x G H2∧bR (bR A ox.dst v) oy.dst u=bR (bR A oy.dst u) ox.dst v:=by
 obtain⟨hne,hdis,hp⟩:=hp
 rcases hp with hp | ⟨hbx,hp⟩
 ·rw[hnb]at hp;cases hp
 obtain⟨hap,hkind⟩:=hp ox oy hox hoy
 obtain⟨a1,a2,a3⟩:=Oper.apart_spec hap
 have hcom:bR (bR A ox.dst v) oy.dst u=bR (bR A oy.dst u) ox.dst v:=DD a2
 rw[cU.put a1]at Jy
 have back:∀G K,cU P ops D x ox A G v K→cU P ops D x ox (bR A oy.dst u) G v K:=fun G K J=>(cU.put a3).2 J
 have qy:sA P ops y→D.fq y (H (D.rid y))=D.fq y (H1 (D.rid y)):=fun hq=>Cx y (Ne.symm hne) hq hbx hnb
 have qx:sA P ops x→D.fq x (H1 (D.rid x))=D.fq x (H2 (D.rid x)):=fun hq=>Cy x hne hq hnb hbx
 have triv:∀(i:Nat) (K:Heap),fT P ops b D i K K:=fun i K q _ _ _ _=>rfl
 cases Jy with
 |skip h1 h2=>exact⟨H,.skip h1 h2,triv _ _,back _ _ Jx,Cx,hcom⟩
 |quiet u h1 h2 h3 h4 h5=>exact⟨H,.quiet u h1 h2 h3 h4 (by rw[qy ⟨oy,hoy,h2⟩];exact h5),triv _ _,back _ _ Jx,Cx,hcom⟩
 |fresh u ob h1 h2 h3 h4=>
  have hy0:H (D.lo y)=none:=hfy _ om om
  have hJy:cU P ops D y oy A H u (upd H (D.lo y) (some ob)):=.fresh u ob h1 h2 (by rw[rp h2 (h':=H1)];exact h3) h4
  have hxy:D.lo y<D.lo x∨D.hi x≤D.lo y∨D.hi x≤D.lo x:=by omega
  have hH1:H1 (D.lo y)=none:=by
   cases hq:H1 (D.lo y)with
   |none=>rfl
   |some o=>
    rcases Jx.dom _ (by rw[hq];simp)with h6 | h6
    ·exact absurd hy0 h6
    ·omega
  have CyH:fT P ops b D y H (upd H (D.lo y) (some ob)):=fun q k1 k2 k3 k4=>by
   by_cases e:D.rid q=D.lo y
   ·have:=Cy q k1 k2 k3 k4
    rw[e,hH1,bG]at this
    rw[e,hy0,bG]
    exact this
   ·rw[br _ _ e]
  cases Jx with
  |skip g1 g2=>exact⟨_,hJy,CyH,back _ _ (.skip g1 g2),triv _ _,hcom⟩
  |quiet v g1 g2 g3 g4 g5=>exact⟨_,hJy,CyH,back _ _ (.quiet v g1 g2 g3 g4 (by rw[←qx ⟨ox,hox,g2⟩];exact g5)),triv _ _,hcom⟩
  |fresh v ob' g1 g2 g3 g4=>
   have hxl:D.lo x≠D.lo y:=by omega
   have ec:upd (upd H (D.lo x) (some ob')) (D.lo y) (some ob)=upd (upd H (D.lo y) (some ob)) (D.lo x) (some ob'):=by
    funext j
    unfold upd
    by_cases a:j=D.lo y
    ·subst a;simp[Ne.symm hxl]
    ·simp[a]
   refine⟨_,hJy,CyH,?_,?_,hcom⟩
   ·rw[ec]
    exact back _ _ (.fresh v ob' g1 g2 (by rw[rp g2 (h':=H)];exact g3) g4)
   ·intro q k1 k2 k3 k4
    have:=Cx q k1 k2 k3 k4
    rw[ec]
    by_cases e:D.rid q=D.lo x
    ·rw[e]at this⊢
     rw[bG]at this⊢
     rw[br _ _ hxl]
     exact this
    ·rw[br _ _ e]
  |eff v H1 g1 g2 g3=>
   have hk:H (D.lo y)=none:=hy0
   refine⟨_,hJy,CyH,back _ _ (.eff v _ g1 g2 (g3.frame g2 hk (by have:=g3.le;omega))),?_,hcom⟩
   intro q k1 k2 k3 k4
   have:=Cx q k1 k2 k3 k4
   by_cases e:D.rid q=D.lo y
   ·rw[e,bG,bG]
   ·rw[br _ _ e,br _ _ e];exact this
 |eff u H2 h1 h2 h3=>
  have hq:=hkind h2
  cases Jx with
  |skip g1 g2=>exact⟨H2,.eff u H2 h1 h2 h3,Cy,back _ _ (.skip g1 g2),triv _ _,hcom⟩
  |quiet v g1 g2 g3 g4 g5=>exact⟨H2,.eff u H2 h1 h2 h3,Cy,back _ _ (.quiet v g1 g2 g3 g4 (by rw[←qx ⟨ox,hox,g2⟩];exact g5)),triv _ _,hcom⟩
  |fresh v ob' g1 g2 g3 g4=>rw[g2]at hq;cases hq
  |eff v H1 g1 g2 g3=>rw[g2]at hq;cases hq
end
end Go.Proofs.YtkimkgbppegkhaaGreat.Cm
namespace Go.Proofs.YtkimkgbppegkhaaGreat.Cm
open Go Go.RowKit
theorem bt.trans'{ε ε1 ε2:Env}{H H1 H2:Heap}{n n':Nat}{w w1 w2:World}(S:bt ε H n w ε1 H1 n' w1)(T:bt ε1 H1 n w1 ε2 H2 n' w2):bt ε H n w ε2 H2 n' w2 where
 le:=S.le
 ext:=S.ext.trans T.ext
 names:=fun id h h'=>by
  cases he:ε1 id with
  |none=>exact T.names id he h'
  |some p=>exact S.names id h (by simp[he])
 new:=fun id b K h h'=>by
  cases he:ε1 id with
  |none=>
   rcases T.new id b K h he with h1 | h1
   ·exact .inl (Nat.le_trans S.keeps.size h1)
   ·exact S.owned h1
  |some p=>
   have:=T.ext id p he
   rw[h]at this
   injection this with this;subst this
   exact S.new id b K he h'
 dom:=fun id h=>by
  rcases T.dom id h with h1 | ⟨h1,h2,h3⟩
  ·exact S.dom id h1
  ·refine .inr ⟨h1,h2,?_⟩
   cases he:ε id with
   |none=>rfl
   |some p=>rw[S.ext id p he]at h3;cases h3
 keeps:=⟨T.keeps.os.trans S.keeps.os,T.keeps.tape.trans S.keeps.tape,T.keeps.output.trans S.keeps.output,Nat.le_trans S.keeps.size T.keeps.size,fun k hk hF=>by
  refine(T.keeps.block k (Nat.lt_of_lt_of_le hk S.keeps.size) fun ho=>?_).trans (S.keeps.block k hk hF)
  rcases S.owned ho with h1 | h1
  ·omega
  ·exact hF h1⟩
 rel:=T.rel
theorem y5{α:Type}{R:α→α→Prop}(hs:∀a b,R a b→R b a):∀{l:List α},l.Pairwise R→∀{a b:α},a∈l→b∈l→a≠b→R a b
 |[],_,_,_,h,_,_=>by cases h
 |x::l,hp,a,b,ha,hb,hne=>by
  rw[List.pairwise_cons]at hp
  obtain⟨p1,p2⟩:=hp
  rcases List.mem_cons.1 ha with h1 | h1
  ·rcases List.mem_cons.1 hb with h2 | h2
   ·exact absurd (h1.trans h2.symm) hne
   ·rw[h1];exact p1 b h2
  ·rcases List.mem_cons.1 hb with h2 | h2
   ·rw[h2];exact hs _ _ (p1 a h1)
   ·exact y5 hs p2 h1 h2 hne
section
variable {P:Program} {m:Nat} {ops:Array Oper} {b:Nat→Nat} {D:gt}
def lu(D:gt)(L:List Nat)(H:Heap):Prop:=∀j∈L,∀k,D.lo j≤k→k<D.hi j→H k=none
theorem lu.step{i:Nat}{L:List Nat}{o:Oper}{A:Tm}{H H1:Heap}{v:V}(h:lu D (i::L) H)(J:cU P ops D i o A H v H1)(hp:∀j∈L,mQ P ops b D i j):lu D L H1:=fun j hj k h1 h2=>by
 have hn:=h j (by simp[hj]) k h1 h2
 cases hq:H1 k with
 |none=>rfl
 |some x=>
  rcases J.dom k (by rw[hq];simp)with h3 | h3
  ·exact absurd hn h3
  ·have:=(hp j hj).2.1
   omega
theorem Ft{L:List Nat}{A A':Tm}{H H':Heap}(R:iR P m ops b D L A H A' H'):L.Pairwise (mQ P ops b D)→lu D L H→∀y∈L,(∀x∈L,(b y).testBit x=false)→
 ∃oy u G,ops[y]?=some oy∧(∀d,oy.dst=some d→d<m)∧cU P ops D y oy A H u G∧fT P ops b D y H G∧iR P m ops b D (L.erase y) (bR A oy.dst u) G A' H':=by
 induction R with
 |nil A H=>intro _ _ y hy;cases hy
 |cons i L o A H v H1 A' H' ho hd h hc hr ih=>
  intro hp hf y hy hnb
  rw[List.pairwise_cons]at hp
  obtain⟨hp1,hp2⟩:=hp
  by_cases e:i=y
  ·subst e
   exact⟨o,v,H1,ho,hd,h,hc,by simpa using hr⟩
  ·have hyL:y∈L:=by simpa[Ne.symm e]using hy
   have hf1:lu D L H1:=hf.step h hp1
   obtain⟨oy,u,G1,g1,g2,g3,g4,g5⟩:=ih hp2 hf1 y hyL fun x hx=>hnb x (by simp[hx])
   obtain⟨G,k1,k2,k3,k4,k5⟩:=Hv ho g1 (hp1 y hyL) (hnb i sm) (fun k a1 a2=>hf i sm k a1 a2) (fun k a1 a2=>hf y hy k a1 a2) h hc g3 g4
   refine⟨oy,u,G,g1,g2,k1,k2,?_⟩
   rw[List.erase_cons_tail (by simpa using e)]
   rw[k5]at g5
   exact .cons i _ o _ G v G1 A' H' ho hd k3 k4 g5
/-- each one's edges are listed, or stand ahead -/
def fJ(ops:Array Oper):Array Bool→List Nat→Prop
 |_,[]=>True
 |ls,i::L=>(∀o,ops[i]?=some o→∀e∈o.after,Region.binds .any e=true→ls.getD e.on false=true)∧fJ ops (ls.setIfInBounds i true) L
theorem fJ.mono{ls ls':Array Bool}:∀{L:List Nat},fJ ops ls L→(∀i,ls.getD i false=true→ls'.getD i false=true)→ls.size=ls'.size→fJ ops ls' L
 |[],_,_,_=>trivial
 |i::L,h,hm,hs=>⟨fun o ho e he hb=>hm _ (h.1 o ho e he hb),fJ.mono h.2 (fun j hj=>by
  by_cases a:i=j
  ·subst a
   by_cases hl:i<ls'.size
   ·simp[hl]
   ·have h3:ls.setIfInBounds i true=ls:=by rw[Array.setIfInBounds_eq_of_size_le om]
    rw[h3]at hj
    have:=hm _ hj
    rw[Array.setIfInBounds_eq_of_size_le om]
    exact this
  ·rw[getD_set_ne _ a]at hj⊢;exact hm j hj) (by simp[hs])⟩
theorem fJ.erase{y:Nat}:∀{L:List Nat} {ls:Array Bool},fJ ops ls L→fJ ops (ls.setIfInBounds y true) (L.erase y)
 |[],_,_=>trivial
 |i::L,ls,h=>by
  by_cases e:i=y
  ·subst e
   simpa using h.2
  ·rw[List.erase_cons_tail (by simpa using e)]
   refine⟨fun o ho x hx hb=>getD_set_true (h.1 o ho x hx hb),?_⟩
   rw[Array.setIfInBounds_comm _ _ (Ne.symm e)]
   exact fJ.erase h.2
theorem GY{y:Nat}{oy:Oper}{A:Tm}{H G:Heap}{u:V}(hoy:ops[y]?=some oy)(J:cU P ops D y oy A H u G){ε:Env}{a:Act}{w:World}(RA:cB ε m A a)(R:bh ε H w)(hle:D.lo y≤D.hi y)(hf:cI ε (D.lo y) (D.hi y))
 {K:Act→World→Prop} {Q:Exit→Act→World→Prop} (hK:∀ε' rv w',ba ε' u rv→bt ε H (D.lo y) w ε' G (D.hi y) w'→K (a.put oy.dst rv) w'):wpOp P ops Q y K a w:=by
 unfold wpOp
 simp only[hoy]
 have prim:∀ef,cF ops A oy=some true→stepOp P oy.op (aZ A) H (D.lo y)=some ef→ef.1=u→bL H ef.2.1=G→D.lo y+ef.2.2≤D.hi y→oy.wp P a w K Q:=by
  intro ef _ hs e1 e2 e3
  have:=aE.prim (P:=P) (o:=oy) (r:=aZ A) (H:=H) (n:=D.lo y) ef hs
  rw[e1,e2]at this
  exact pB this RA R (hf.sub (Nat.le_refl _) e3) fun ε' rv w' h1 h2=>hK ε' rv w' h1 (h2.wide (Nat.le_refl _) e3)
 cases J with
 |skip h1 h2=>
  rw[i7 h1 RA]
  simp only[Bool.false_eq_true,if_false]
  exact hK ε undef w (ri ε) ((bt.refl R).wide (Nat.le_refl _) hle)
 |quiet u h1 h2 h3 h4 h5=>
  rw[i7 h1 RA,if_pos rfl]
  rw[h4,h3,Option.map_eq_some_iff]at h5
  obtain⟨ef,h6,h7⟩:=h5
  have h8:stepOp P oy.op (aZ A) H (D.lo y)=some ef:=by rw[←h6];exact nV h2 rfl
  obtain⟨h9,_⟩:=mi h2 h8
  exact .inl (prim ef h1 h8 h7 (by rw[h9];rfl) om)
 |fresh u ob h1 h2 h3 h4=>
  rw[i7 h1 RA,if_pos rfl]
  exact .inl (prim _ h1 h3 rfl rfl (by rw[h4];exact Nat.le_refl _))
 |eff u G h1 h2 h3=>
  rw[i7 h1 RA,if_pos rfl]
  exact .inl (pB h3 RA R hf hK)
theorem C6{n n':Nat}(hclo:∀y oy,ops[y]?=some oy→∀x,(b y).testBit x=true→∃e∈oy.after,Region.binds .any e=true∧(e.on=x∨(b e.on).testBit x=true)):
 ∀(k:Nat) (L:List Nat),L.length=k→∀(ls:Array Bool) (A A':Tm) (H H':Heap),iR P m ops b D L A H A' H'→L.Pairwise (mQ P ops b D)→ls.size=ops.size→(∀i,i∈L↔(i<ops.size∧ls.getD i true=false))→
 (∀i,ls.getD i false=true→∀x,(b i).testBit x=true→ls.getD x false=true)→fJ ops ls L→(∀j∈L,n≤D.lo j∧D.lo j≤D.hi j∧D.hi j≤n')→n≤n'→
 ∀(ε:Env) (a:Act) (w:World) (Q:Exit→Act→World→Prop),cB ε m A a→bh ε H w→(∀j∈L,cI ε (D.lo j) (D.hi j))→(∀ε' a' w',cB ε' m A' a'→bt ε H n w ε' H' n' w'→Q .normal a' w')→wpAny P .any ops Q k ls a w:=by
 intro k
 induction k with
 |zero=>
  intro L hL ls A A' H H' R hp hs hmem hcl hlin hnm hnn ε a w Q RA Rl hf hQ
  have:L=[]:=List.eq_nil_of_length_eq_zero hL
  subst this
  cases R
  refine⟨?_,hQ ε a w RA ((bt.refl Rl).wide (Nat.le_refl _) hnn)⟩
  cases hr:Region.ready .any ops ls with
  |nil=>rfl
  |cons i rs=>
   exfalso
   have hi:i∈Region.ready .any ops ls:=by rw[hr];simp
   obtain⟨h0,o,ho,_⟩:=mem_ready.1 hi
   have:=(hmem i).2 ⟨(Array.getElem?_eq_some_iff.1 ho).1,h0⟩
   cases this
 |succ k ih=>
  intro L hL ls A A' H H' R hp hs hmem hcl hlin hnm hnn ε a w Q RA Rl hf hQ
  refine⟨fun hr=>?_,fun y hy=>?_⟩
  ·exfalso
   cases L with
   |nil=>cases hL
   |cons i L=>
    have hi:=(hmem i).1 sm
    have:i∈Region.ready .any ops ls:=mem_ready.2 ⟨hi.2,ops[i],Array.getElem?_eq_getElem hi.1,fun e he hb=>hlin.1 _ (Array.getElem?_eq_getElem hi.1) e he hb⟩
    rw[hr]at this
    cases this
  ·obtain⟨h0,o,ho,hall⟩:=mem_ready.1 hy
   have hyo:=(Array.getElem?_eq_some_iff.1 ho).1
   have hyL:y∈L:=(hmem y).2 ⟨hyo,h0⟩
   have listed:∀x,(b y).testBit x=true→ls.getD x false=true:=fun x hx=>by
    obtain⟨e,he,hb,h1⟩:=hclo y o ho x hx
    have h2:=hall e he hb
    rcases h1 with rfl | h1
    ·exact h2
    ·exact hcl _ h2 x h1
   have hnb:∀x∈L,(b y).testBit x=false:=fun x hx=>by
    cases hq:(b y).testBit x with
    |false=>rfl
    |true=>
     have h1:=listed x hq
     obtain⟨h2,h3⟩:=(hmem x).1 hx
     have hlt:x<ls.size:=by omega
     rw[Array.getD_eq_getD_getElem?,Array.getElem?_eq_getElem hlt]at h1 h3
     simp at h1 h3
     rw[h1]at h3
     cases h3
   have hfr:lu D L H:=fun j hj q q1 q2=>Rl.name (hf j hj q q1 q2)
   obtain⟨oy,u,G,g1,g2,g3,g4,g5⟩:=Ft R hp hfr y hyL hnb
   obtain⟨n1,n2,n3⟩:=hnm y hyL
   have hnd:L.Nodup:=hp.imp fun h=>h.1
   refine GY g1 g3 RA Rl n2 (hf y hyL) fun ε1 rv w1 h1 S=>?_
   have S':bt ε H n w ε1 G n' w1:=S.wide n1 n3
   refine ih (L.erase y) (by rw[List.length_erase_of_mem hyL];omega) (ls.setIfInBounds y true) _ A' G H' g5 (hp.sublist (List.erase_sublist)) (by simp[hs]) (fun i=>?_) (fun i hi x hx=>?_) hlin.erase (fun j hj=>hnm j (List.mem_of_mem_erase hj)) hnn ε1 _ w1 Q ((RA.mono S.ext).put g2 h1) S.rel (fun j hj q q1 q2=>?_) fun ε2 a2 w2 RA2 S2=>hQ ε2 a2 w2 RA2 (S'.trans' S2)
   ·rw[hnd.mem_erase_iff,hmem]
    by_cases e:y=i
    ·subst e
     have:y<ls.size:=by omega
     simp[this]
    ·rw[getD_set_ne _ e]
     simp[Ne.symm e]
   ·by_cases e:y=i
    ·subst e
     exact getD_set_true (listed x hx)
    ·rw[getD_set_ne _ e]at hi
     exact getD_set_true (hcl i hi x hx)
   ·have hjL:=List.mem_of_mem_erase hj
    have hne:j≠y:=fun e=>by subst e;exact(hnd.mem_erase_iff.1 hj).1 rfl
    have hdis:D.hi j≤D.lo y∨D.hi y≤D.lo j:=by
     exact y5 (fun a b h=>h.elim .inr .inl) (hp.imp fun h=>h.2.1) hjL hyL hne
    cases he:ε1 q with
    |none=>rfl
    |some p=>
     have:=S.names q (hf j hjL q q1 q2) (by simp[he])
     omega
theorem bw.drawn{id:Nat}{n n':Nat}{L:List Nat}{A A':Tm}{H H':Heap}(hm:P.follows .mixedOrders=true)(hclo:∀y oy,ops[y]?=some oy→∀x,(b y).testBit x=true→∃e∈oy.after,Region.binds .any e=true∧(e.on=x∨(b e.on).testBit x=true))
 (R:iR P m ops b D L A H A' H') (hp:L.Pairwise (mQ P ops b D)) (hmem:∀i,i∈L↔i<ops.size) (hlen:L.length=ops.size) (hlin:fJ ops (Array.replicate ops.size false) L) (hnm:∀j∈L,n≤D.lo j∧D.lo j≤D.hi j∧D.hi j≤n') (hg:cP H n H' n'):
 bw P m (.region id ops true) A H n .normal A' H' n':=by
 refine⟨hg,fun ε a w Q RA Rl hf hQ=>wp_region_any hm ?_⟩
 have hz:∀i,i<ops.size→(Array.replicate ops.size false).getD i true=false:=fun i hi=>by simp[hi]
 have hz':∀i,(Array.replicate ops.size false).getD i false=false:=fun i=>by
  rw[Array.getD_eq_getD_getElem?]
  rcases Nat.lt_or_ge i ops.size with h | h
  ·rw[Array.getElem?_eq_getElem (by simpa using h)];simp
  ·rw[Array.getElem?_eq_none (by simpa using h)];rfl
 have Rl':bh ε H {w with drawn:=w.drawn+1}:=⟨fun id o ho=>(Rl.obj id o ho).mono (Le.refl _) fun _ _ _=>rfl,Rl.inj⟩
 refine C6 hclo ops.size L hlen _ A A' H H' R hp sm (fun i=>?_) (fun i hi=>?_) hlin hnm hg.1 ε a _ Q RA Rl' (fun j hj=>hf.sub (hnm j hj).1 (hnm j hj).2.2) fun ε' a' w' RA' S=>hQ ε' a' w' RA' ?_
 ·rw[hmem]
  exact⟨fun h=>⟨h,hz i h⟩,fun h=>h.1⟩
 ·rw[hz']at hi;cases hi
 ·exact⟨S.le,S.ext,S.names,S.new,S.dom,⟨S.keeps.os,S.keeps.tape,S.keeps.output,S.keeps.size,S.keeps.block⟩,S.rel⟩
end
end Go.Proofs.YtkimkgbppegkhaaGreat.Cm

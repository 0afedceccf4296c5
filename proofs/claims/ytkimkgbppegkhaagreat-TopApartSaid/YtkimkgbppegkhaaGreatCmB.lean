/- The clean machine, its words: abstract values that bear names in the place of blocks, abstract heaps, and what it is that a world is as such a heap says. No program is walked here. -/
import Derived.Test.YtkimkgbppegkhaaGreatAa
import Derived.Orders
import Derived.LoopN
import Derived.Below
import Derived.KernelRfl
set_option linter.unusedVariables false
set_option linter.unusedSimpArgs false
namespace Go.Proofs.YtkimkgbppegkhaaGreat.Cm
open Go
/-- what one cell holds -/
inductive F where
 |int (k:IntKind) (n:Int)
 |bool (b:Bool)
 |str (s:List UInt8)
 |ptr0
 |ptr (id off:Nat)
 |sl0
 |sl (id off sz len:Nat) (cap:Option Nat)
 |map0
 |map (id:Nat)
 |nilf
inductive U where
 |f (x:F)
 |agg (cs:List F)
 |fn (g:Nat) (caps:List F)
inductive V where
 |u (x:U)
 |tup (xs:List U)
/-- what a name stands for: cells (ex: these are all), a map, an iterator over a map; a block as it came in, which is only read -/
inductive O where
 |cells (cs:List F) (ex:Bool)
 |mp (es:List (U×U))
 |it (m:Option Nat) (since:Nat) (seen:Bool)
 |whole (rcs:Array Value) (elem:TypeId) (fz:Nat×Nat)
abbrev Env:=Nat→Option (Nat×Nat)
abbrev Heap:=Nat→Option O
abbrev Tm:=Nat→Option V
def aw{α β:Type}(R:α→β→Prop):List α→List β→Prop
 |[],[]=>True
 |a::asx,b::bs=>R a b∧aw R asx bs
 |_,_=>False
section
variable {α β:Type} {R S:α→β→Prop}
theorem aw.mono(h:∀a b,R a b→S a b):∀{l:List α} {k:List β},aw R l k→aw S l k
 |[],[],_=>trivial
 |_::_,_::_,H=>⟨h _ _ H.1,aw.mono h H.2⟩
 |[],_::_,H=>H.elim
 |_::_,[],H=>H.elim
theorem aw.length:∀{l:List α} {k:List β},aw R l k→k.length=l.length
 |[],[],_=>rfl
 |_::_,_::_,H=>by simp[aw.length H.2]
 |[],_::_,H=>H.elim
 |_::_,[],H=>H.elim
theorem aw.get:∀{l:List α} {k:List β},aw R l k→∀(i:Nat) (a:α),l[i]?=some a→∃b,k[i]?=some b∧R a b
 |a::asx,b::bs,H,0,x,h=>by simp at h;subst h;exact⟨b,sm,H.1⟩
 |a::asx,b::bs,H,i+1,x,h=>by simp at h;simpa using aw.get H.2 i x h
 |[],[],_,i,x,h=>by simp at h
 |[],_::_,H,_,_,_=>H.elim
 |_::_,[],H,_,_,_=>H.elim
theorem aw.append:∀{l:List α} {k:List β} {l':List α} {k':List β},aw R l k→aw R l' k'→aw R (l++l') (k++k')
 |[],[],_,_,_,H=>H
 |_::_,_::_,_,_,H,H'=>⟨H.1,aw.append H.2 H'⟩
 |[],_::_,_,_,H,_=>H.elim
 |_::_,[],_,_,H,_=>H.elim
theorem aw.take:∀{l:List α} {k:List β} (n:Nat),aw R l k→aw R (l.take n) (k.take n)
 |_,_,0,_=>by simp[aw]
 |[],[],_+1,_=>by simp[aw]
 |_::_,_::_,n+1,H=>⟨H.1,aw.take n H.2⟩
 |[],_::_,_,H=>H.elim
 |_::_,[],_,H=>H.elim
theorem aw.drop:∀{l:List α} {k:List β} (n:Nat),aw R l k→aw R (l.drop n) (k.drop n)
 |_,_,0,H=>by simpa using H
 |[],[],_+1,_=>by simp[aw]
 |_::_,_::_,n+1,H=>by simpa using aw.drop n H.2
 |[],_::_,_,H=>H.elim
 |_::_,[],_,H=>H.elim
theorem aw.set:∀{l:List α} {k:List β} (i:Nat) {a:α} {b:β},aw R l k→R a b→aw R (l.set i a) (k.set i b)
 |[],[],_,_,_,_,_=>by simp[aw]
 |_::_,_::_,0,_,_,H,h=>⟨h,H.2⟩
 |_::_,_::_,i+1,_,_,H,h=>⟨H.1,aw.set i H.2 h⟩
 |[],_::_,_,_,_,H,_=>H.elim
 |_::_,[],_,_,_,H,_=>H.elim
end
/-- a value is as an abstract one says -/
def aT(ε:Env):F→Value→Prop
 |.int k n,v=>v=.int k n
 |.bool b,v=>v=.bool b
 |.str s,v=>v=.string ⟨s.toArray⟩
 |.ptr0,v=>v=.pointer none
 |.ptr id off,v=>∃b K,ε id=some (b,K)∧v=.pointer (some ⟨b,off,none⟩)
 |.sl0,v=>v=.slice none 0 0
 |.sl id off sz len cap,v=>∃b K ad c,ε id=some (b,K)∧v=.slice (some ad) len c∧(0<c→ad=⟨b,off,none⟩)∧len≤c∧(match cap with | some c'=>c=c' | none=>off+c*sz=K)
 |.map0,v=>v=.map none
 |.map id,v=>∃b K,ε id=some (b,K)∧v=.map (some b)
 |.nilf,v=>v=.nilFunc
def bQ(ε:Env):U→Value→Prop
 |.f x,v=>aT ε x v
 |.agg cs,v=>∃l,v=.agg l.toArray∧aw (aT ε) cs l
 |.fn g caps,v=>∃l,v=.func (.func g) #[] l.toArray∧aw (aT ε) caps l
def ba(ε:Env):V→Value→Prop
 |.u x,v=>bQ ε x v
 |.tup xs,v=>∃l,v=.tuple l.toArray∧aw (bQ ε) xs l
def Le(ε ε':Env):Prop:=∀id p,ε id=some p→ε' id=some p
theorem Le.refl(ε:Env):Le ε ε:=fun _ _ h=>h
theorem Le.trans{a b c:Env}(h:Le a b)(k:Le b c):Le a c:=fun _ _ x=>k _ _ (h _ _ x)
theorem aT.mono{ε ε':Env}(h:Le ε ε'){x:F}{v:Value}(H:aT ε x v):aT ε' x v:=by
 cases x<;>simp only[aT]at H⊢<;>first
  |exact H
  |(obtain⟨b,K,h1,h2⟩:=H;exact⟨b,K,h _ _ h1,h2⟩)
  |(obtain⟨b,K,ad,c,h1,h2⟩:=H;exact⟨b,K,ad,c,h _ _ h1,h2⟩)
theorem bQ.mono{ε ε':Env}(h:Le ε ε'){x:U}{v:Value}(H:bQ ε x v):bQ ε' x v:=by
 cases x with
 |f x=>exact aT.mono h H
 |agg cs=>obtain⟨l,h1,h2⟩:=H;exact⟨l,h1,h2.mono fun _ _ k=>aT.mono h k⟩
 |fn g caps=>obtain⟨l,h1,h2⟩:=H;exact⟨l,h1,h2.mono fun _ _ k=>aT.mono h k⟩
theorem ba.mono{ε ε':Env}(h:Le ε ε'){x:V}{v:Value}(H:ba ε x v):ba ε' x v:=by
 cases x with
 |u x=>exact bQ.mono h H
 |tup xs=>obtain⟨l,h1,h2⟩:=H;exact⟨l,h1,h2.mono fun _ _ k=>bQ.mono h k⟩
/-- the world holds what a name stands for -/
def fA(ε:Env)(w:World)(id:Nat):O→Prop
 |.cells cs ex=>∃b K rcs elem fz,ε id=some (b,K)∧w.heap[b]?=some (.cells rcs elem fz)∧rcs.size=K∧aw (aT ε) cs (rcs.toList.take cs.length)∧(ex=true→cs.length=K)∧(fz.1=fz.2∨(ex=false∧K≤fz.1))
 |.mp es=>∃b K rs,ε id=some (b,K)∧w.heap[b]?=some (.map rs es.length)∧aw (fun(e:U×U) (r:MapEntry)=>bQ ε e.1 r.key∧bQ ε e.2 r.val) es rs.toList∧rs.toList.map (fun r=>r.born)=List.range es.length
 |.whole rcs elem fz=>∃b K,ε id=some (b,K)∧w.heap[b]?=some (.cells rcs elem fz)∧rcs.size=K
 |.it m since seen=>∃b K mr se st,ε id=some (b,K)∧w.heap[b]?=some (.mapIter mr since se st)∧(match m with | none=>mr=none | some i=>∃bm Km,ε i=some (bm,Km)∧mr=some bm)∧(seen=false→se=#[])∧(seen=true→se=#[0]∧st=1)
theorem fA.env{ε:Env}{w:World}{id:Nat}{o:O}(h:fA ε w id o):∃b K ob,ε id=some (b,K)∧w.heap[b]?=some ob:=by
 cases o with
 |cells cs ex=>obtain⟨b,K,rcs,elem,fz,h1,h2,_⟩:=h;exact⟨b,K,_,h1,h2⟩
 |mp es=>obtain⟨b,K,rs,h1,h2,_⟩:=h;exact⟨b,K,_,h1,h2⟩
 |it m si q=>obtain⟨b,K,mr,se,st,h1,h2,_⟩:=h;exact⟨b,K,_,h1,h2⟩
 |whole rcs elem fz=>obtain⟨b,K,h1,h2,_⟩:=h;exact⟨b,K,_,h1,h2⟩
theorem fA.mono{ε ε':Env}(hε:Le ε ε'){w w':World}{id:Nat}{o:O}(h:fA ε w id o)(hw:∀b K,ε id=some (b,K)→w'.heap[b]?=w.heap[b]?):fA ε' w' id o:=by
 cases o with
 |cells cs ex=>
  obtain⟨b,K,rcs,elem,fz,h1,h2,h3,h4,h5,h6⟩:=h
  exact⟨b,K,rcs,elem,fz,hε _ _ h1,by rw[hw _ _ h1];exact h2,h3,h4.mono fun _ _ k=>aT.mono hε k,h5,h6⟩
 |whole rcs elem fz=>
  obtain⟨b,K,h1,h2,h3⟩:=h
  exact⟨b,K,hε _ _ h1,by rw[hw _ _ h1];exact h2,h3⟩
 |mp es=>
  obtain⟨b,K,rs,h1,h2,h3,h4⟩:=h
  exact⟨b,K,rs,hε _ _ h1,by rw[hw _ _ h1];exact h2,h3.mono fun _ _ k=>⟨bQ.mono hε k.1,bQ.mono hε k.2⟩,h4⟩
 |it m si q=>
  obtain⟨b,K,mr,se,st,h1,h2,h3,h4⟩:=h
  refine⟨b,K,mr,se,st,hε _ _ h1,by rw[hw _ _ h1];exact h2,?_,h4⟩
  cases m with
  |none=>exact h3
  |some i=>obtain⟨bm,Km,k1,k2⟩:=h3;exact⟨bm,Km,hε _ _ k1,k2⟩
structure bh(ε:Env)(H:Heap)(w:World):Prop where
 obj:∀id o,H id=some o→fA ε w id o
 inj:∀i j b K K',H i≠none→H j≠none→ε i=some (b,K)→ε j=some (b,K')→i=j
def gh(ε:Env)(H:Heap)(b:Nat):Prop:=∃id K,H id≠none∧ε id=some (b,K)
/-- of what lay there, only blocks of Fr may have turned -/
structure jl(Fr:Nat→Prop)(w w':World):Prop where
 os:w'.os=w.os
 tape:w'.tape=w.tape
 output:w'.output=w.output
 size:w.heap.size≤w'.heap.size
 block:∀k,k<w.heap.size→¬Fr k→w'.heap[k]?=w.heap[k]?
theorem jl.refl(Fr:Nat→Prop)(w:World):jl Fr w w:=⟨rfl,rfl,rfl,Nat.le_refl _,fun _ _ _=>rfl⟩
theorem jl.trans{Fr:Nat→Prop}{a b c:World}(h:jl Fr a b)(k:jl Fr b c):jl Fr a c:=
 ⟨k.os.trans h.os,k.tape.trans h.tape,k.output.trans h.output,Nat.le_trans h.size k.size,fun i hi hF=>(k.block i (Nat.lt_of_lt_of_le hi h.size) hF).trans (h.block i hi hF)⟩
/-- what one step of the abstract machine says of the true one; names from n to n' are used -/
structure bt(ε:Env)(H:Heap)(n:Nat)(w:World)(ε':Env)(H':Heap)(n':Nat)(w':World):Prop where
 le:n≤n'
 ext:Le ε ε'
 names:∀id,ε id=none→ε' id≠none→n≤id∧id<n'
 new:∀id b K,ε' id=some (b,K)→ε id=none→w.heap.size≤b∨gh ε H b
 dom:∀id,H' id≠none→H id≠none∨(n≤id∧id<n'∧ε id=none)
 keeps:jl (gh ε H) w w'
 rel:bh ε' H' w'
def cI(ε:Env)(n n':Nat):Prop:=∀id,n≤id→id<n'→ε id=none
theorem cI.sub{ε:Env}{a b c d:Nat}(h:cI ε a d)(h1:a≤b)(h2:c≤d):cI ε b c:=fun id x y=>h id om om
theorem mJ{w:World}{b:Nat}{o:Obj}(h:w.heap[b]?=some o):b<w.heap.size:=by
 rcases Nat.lt_or_ge b w.heap.size with h' | h'
 ·exact h'
 ·simp[Array.getElem?_eq_none h']at h
theorem gh.lt{ε:Env}{H:Heap}{w:World}(R:bh ε H w){b:Nat}(h:gh ε H b):b<w.heap.size:=by
 obtain⟨id,K,h1,h2⟩:=h
 cases ho:H id with
 |none=>exact absurd ho h1
 |some o=>
  obtain⟨b',K',ob,h3,h4⟩:=(R.obj id o ho).env
  rw[h2]at h3
  injection h3 with h3;injection h3 with h3 h5;subst h3
  exact mJ h4
theorem bt.refl{ε:Env}{H:Heap}{n:Nat}{w:World}(R:bh ε H w):bt ε H n w ε H n w:=
 ⟨Nat.le_refl _,Le.refl _,fun _ h h'=>absurd h h',fun _ _ _ h h'=>(by rw[h']at h;cases h),fun _ h=>Or.inl h,jl.refl _ _,R⟩
theorem bt.owned{ε ε':Env}{H H':Heap}{n n':Nat}{w w':World}(S:bt ε H n w ε' H' n' w'){b:Nat}(h:gh ε' H' b):w.heap.size≤b∨gh ε H b:=by
 obtain⟨id,K,h1,h2⟩:=h
 cases he:ε id with
 |none=>exact S.new id b K h2 he
 |some p=>
  have:=S.ext id p he
  rw[h2]at this
  injection this with this;subst this
  rcases S.dom id h1 with h3 | ⟨_,_,h3⟩
  ·exact .inr ⟨id,K,h3,he⟩
  ·rw[he]at h3;cases h3
theorem bt.free{ε ε':Env}{H H':Heap}{n n':Nat}{w w':World}(S:bt ε H n w ε' H' n' w'){a b:Nat}(h:cI ε a b)(hn:n'≤a∨b≤n):cI ε' a b:=fun id h1 h2=>by
 cases he:ε' id with
 |none=>rfl
 |some p=>
  have:=S.names id (h id h1 h2) (by simp[he])
  omega
theorem bt.trans{ε ε1 ε2:Env}{H H1 H2:Heap}{n n1 n2:Nat}{w w1 w2:World}(S:bt ε H n w ε1 H1 n1 w1)(T:bt ε1 H1 n1 w1 ε2 H2 n2 w2):bt ε H n w ε2 H2 n2 w2 where
 le:=Nat.le_trans S.le T.le
 ext:=S.ext.trans T.ext
 names:=fun id h h'=>by
  cases he:ε1 id with
  |none=>have:=T.names id he h';have:=S.le;omega
  |some p=>have:=S.names id h (by simp[he]);have:=T.le;omega
 new:=fun id b K h h'=>by
  cases he:ε1 id with
  |none=>
   rcases T.new id b K h he with h1 | h1
   ·exact .inl (Nat.le_trans S.keeps.size h1)
   ·exact S.owned h1
  |some p=>
   have:=T.ext id p he
   rw[h]at this
   injection this with this;subst this
   exact S.new id b K he h'
 dom:=fun id h=>by
  rcases T.dom id h with h1 | ⟨h1,h2,h3⟩
  ·rcases S.dom id h1 with h2 | ⟨h2,h3,h4⟩
   ·exact .inl h2
   ·exact .inr ⟨h2,by have:=T.le;omega,h4⟩
  ·refine .inr ⟨by have:=S.le;omega,h2,?_⟩
   cases he:ε id with
   |none=>rfl
   |some p=>rw[S.ext id p he]at h3;cases h3
 keeps:=⟨T.keeps.os.trans S.keeps.os,T.keeps.tape.trans S.keeps.tape,T.keeps.output.trans S.keeps.output,Nat.le_trans S.keeps.size T.keeps.size,fun k hk hF=>by
  refine(T.keeps.block k (Nat.lt_of_lt_of_le hk S.keeps.size) fun ho=>?_).trans (S.keeps.block k hk hF)
  rcases S.owned ho with h1 | h1
  ·omega
  ·exact hF h1⟩
 rel:=T.rel
/-- two heaps beside one another -/
def Heap.or(H E:Heap):Heap:=fun id=>match H id with | some o=>some o | none=>E id
theorem Heap.or_left{H E:Heap}{id:Nat}{o:O}(h:H id=some o):H.or E id=some o:=by simp[Heap.or,h]
theorem Heap.or_right{H E:Heap}{id:Nat}(h:H id=none):H.or E id=E id:=by simp[Heap.or,h]
theorem bt.frame{ε ε':Env}{H H' E:Heap}{n n':Nat}{w w':World}(S:bt ε H n w ε' H' n' w')(R:bh ε (H.or E) w)(hd:∀id,H id≠none→E id=none):bt ε (H.or E) n w ε' (H'.or E) n' w' where
 le:=S.le
 ext:=S.ext
 names:=S.names
 new:=fun id b K h h'=>by
  rcases S.new id b K h h' with h1 | ⟨i,K',h1,h2⟩
  ·exact .inl h1
  ·refine .inr ⟨i,K',?_,h2⟩
   cases ho:H i with
   |none=>exact absurd ho h1
   |some o=>simp[Heap.or,ho]
 dom:=fun id h=>by
  cases ho:H' id with
  |none=>rw[Heap.or_right ho]at h; left; unfold Heap.or; cases H id<;>simp[h]
  |some o=>
   rcases S.dom id (by simp[ho])with h1 | h1
   ·left; unfold Heap.or; cases hq:H id<;>simp_all
   ·exact .inr h1
 keeps:=⟨S.keeps.os,S.keeps.tape,S.keeps.output,S.keeps.size,fun k hk hF=>S.keeps.block k hk fun⟨i,K,h1,h2⟩=>hF ⟨i,K,by cases ho:H i<;>simp_all [Heap.or],h2⟩⟩
 rel:=by
  have side:∀id o,H' id=none→E id=some o→∃b K,ε id=some (b,K)∧b<w.heap.size∧¬gh ε H b∧H id=none:=by
   intro id o _ ho
   have hH:H id=none:=by
    cases hq:H id with
    |none=>rfl
    |some x=>have:=hd id (by simp[hq]);rw[ho]at this;cases this
   obtain⟨b,K,ob,h1,h2⟩:=(R.obj id o (by rw[Heap.or_right hH];exact ho)).env
   refine⟨b,K,h1,mJ h2,?_,hH⟩
   rintro ⟨i,K',h3,h4⟩
   have:id=i:=R.inj id i b K K' (by rw[Heap.or_right hH,ho]; simp) (by cases hq:H i<;>simp_all [Heap.or]) h1 h4
   subst this
   exact h3 hH
  refine⟨fun id o h=>?_,fun i j b K K' hi hj h1 h2=>?_⟩
  ·cases ho:H' id with
   |some x=>rw[Heap.or_left ho]at h;cases h;exact S.rel.obj id _ ho
   |none=>
    rw[Heap.or_right ho]at h
    obtain⟨b,K,h1,h2,h3,h4⟩:=side id o ho h
    refine(R.obj id o (by rw[Heap.or_right h4];exact h)).mono S.ext fun b' K' h5=>?_
    rw[h1]at h5
    injection h5 with h5;injection h5 with h5 h6;subst h5
    exact S.keeps.block b h2 h3
  ·have owned:∀id b K,H' id≠none→ε' id=some (b,K)→w.heap.size≤b∨gh ε H b:=fun id b K h1 h2=>S.owned ⟨id,K,h1,h2⟩
   cases hi':H' i with
   |some x=>
    cases hj':H' j with
    |some y=>exact S.rel.inj i j b K K' (by simp[hi']) (by simp[hj']) h1 h2
    |none=>
     exfalso
     rw[Heap.or_right hj']at hj
     cases he:E j with
     |none=>exact hj he
     |some o=>
      obtain⟨b',K2,h3,h4,h5,_⟩:=side j o hj' he
      have:=S.ext j _ h3
      rw[h2]at this
      injection this with this;injection this with this h6;subst this
      rcases owned i b K (by simp[hi']) h1 with h7 | h7
      ·omega
      ·exact h5 h7
   |none=>
    rw[Heap.or_right hi']at hi
    cases he:E i with
    |none=>exact absurd he hi
    |some o=>
     obtain⟨b',K2,h3,h4,h5,hHi⟩:=side i o hi' he
     have:=S.ext i _ h3
     rw[h1]at this
     injection this with this;injection this with this h6;subst this
     cases hj':H' j with
     |some y=>
      exfalso
      rcases owned j b K' (by simp[hj']) h2 with h7 | h7
      ·omega
      ·exact h5 h7
     |none=>
      rw[Heap.or_right hj']at hj
      cases he':E j with
      |none=>exact absurd he' hj
      |some o'=>
       obtain⟨b',K3,h7,_,_,hHj⟩:=side j o' hj' he'
       have:=S.ext j _ h7
       rw[h2]at this
       injection this with this;injection this with this h8;subst this
       exact R.inj i j b K2 K3 (by rw[Heap.or_right hHi,he];simp) (by rw[Heap.or_right hHj,he'];simp) h3 h7
theorem bh.sub{ε:Env}{H G:Heap}{w:World}(R:bh ε H w)(h:∀id o,G id=some o→H id=some o):bh ε G w:=
 ⟨fun id o ho=>R.obj id o (h id o ho),fun i j b K K' hi hj=>R.inj i j b K K' (by cases ho:G i<;>simp_all) (by cases ho:G j<;>simp_all)⟩
theorem bt.sub{ε ε':Env}{H H' G:Heap}{n n':Nat}{w w':World}(S:bt ε H n w ε' H' n' w')(h:∀id o,G id=some o→H' id=some o):bt ε H n w ε' G n' w':=
 ⟨S.le,S.ext,S.names,S.new,fun id hi=>S.dom id (by cases ho:G id<;>simp_all),S.keeps,S.rel.sub h⟩
theorem bt.wide{ε ε':Env}{H H':Heap}{n n' m m':Nat}{w w':World}(S:bt ε H n w ε' H' n' w')(h:m≤n)(h':n'≤m'):bt ε H m w ε' H' m' w':=
 ⟨by have:=S.le;omega,S.ext,fun id a b=>by have:=S.names id a b;omega,S.new,fun id a=>by rcases S.dom id a with h1 | ⟨h1,h2,h3⟩;exact .inl h1;exact .inr ⟨om,om,h3⟩,S.keeps,S.rel⟩
end Go.Proofs.YtkimkgbppegkhaaGreat.Cm
namespace Go.Proofs.YtkimkgbppegkhaaGreat.Cm
open Go
noncomputable def oz:Value→Option F
 |.int k n=>some (.int k n)
 |.bool b=>some (.bool b)
 |.string s=>some (.str s.data.toList)
 |.pointer none=>some .ptr0
 |.slice none 0 0=>some .sl0
 |.map none=>some .map0
 |.nilFunc=>some .nilf
 |_=>none
noncomputable def kK:List Value→Option (List F)
 |[]=>some []
 |v::r=>match oz v,kK r with
  |some x,some l=>some (x::l)
  |_,_=>none
noncomputable def oK:Value→Option V
 |.agg cs=>(kK cs.toList).map fun l=>.u (.agg l)
 |v=>(oz v).map fun x=>.u (.f x)
abbrev vf(x:F):V:=.u (.f x)
noncomputable def cy:V:=.tup []
/-- a value's cells -/
noncomputable def mU:U→Option (List F)
 |.f x=>some [x]
 |.agg cs=>some cs
 |.fn ..=>none
noncomputable def iG:V→Option (List F)
 |.u x=>mU x
 |.tup _=>none
/-- cells, written over others -/
noncomputable def aJ(cs:List F)(off:Nat)(new:List F):List F:=cs.take off++new++cs.drop (off+new.length)
structure TI where
 size:Nat
 bytes:Nat
 zero:List F
noncomputable def dz(P:Program)(t:TypeId):Option TI:=
 match P.info? t with
 |some i=>match i.zero with
  |some z=>match kK z.cells.toList with
   |some l=>some ⟨i.size,i.bytes,l⟩
   |none=>none
  |none=>none
 |none=>none
noncomputable def h_(P:Program)(t:TypeId):Option Bool:=
 match P.underlying t with
 |some (.struct _)=>some true
 |some (.array _ _)=>some true
 |some _=>some false
 |none=>none
noncomputable def eN(P:Program)(t:TypeId):Option TypeId:=match P.underlying t with | some (.slice e)=>some e | _=>none
noncomputable def jN(P:Program):List Field→Option (List (Nat×Nat))
 |[]=>some []
 |f::r=>match P.info? f.type,jN P r with
  |some i,some l=>some ((f.offset,i.size)::l)
  |_,_=>none
noncomputable def cj(P:Program)(t:TypeId):Option Nat:=match P.info? t with | some i=>some i.size | none=>none
/-- parts put into cells -/
noncomputable def dJ(place:Nat→Option (Nat×Nat))(cells:List F):List (Nat×List F)→Option (List F)
 |[]=>some cells
 |(i,v)::rest=>match place i with
  |none=>none
  |some (off,size)=>if v.length=size∧off+size≤cells.length then dJ place (aJ cells off v) rest else none
noncomputable def fj(r:Operand→Option V):List (Nat×Operand)→Option (List (Nat×List F))
 |[]=>some []
 |(i,x)::rest=>match r x,fj r rest with
  |some v,some l=>match iG v with
   |some cs=>some ((i,cs)::l)
   |none=>none
  |_,_=>none
noncomputable def ci(z:List F):Nat→List F
 |0=>[]
 |n+1=>z++ci z n
/-- kinds, compared quickly -/
noncomputable def zK(k:IntKind):Nat:=@IntKind.rec (fun _=>Nat) 0 1 2 3 4 5 6 7 k
noncomputable def jx(a b:IntKind):Bool:=Nat.beq (zK a) (zK b)
noncomputable def cV(x y:Int):Bool:=@Int.rec (fun _=>Bool) (fun a=>@Int.rec (fun _=>Bool) (fun b=>Nat.ble (Nat.succ a) b) (fun _=>false) y) (fun a=>@Int.rec (fun _=>Bool) (fun _=>true) (fun b=>Nat.ble (Nat.succ b) a) y) x
noncomputable def c6(x y:Int):Bool:=@Int.rec (fun _=>Bool) (fun a=>@Int.rec (fun _=>Bool) (fun b=>Nat.beq a b) (fun _=>false) y) (fun a=>@Int.rec (fun _=>Bool) (fun _=>false) (fun b=>Nat.beq a b) y) x
noncomputable def tK(x y:Int):Int:=@Int.rec (fun _=>Int) (fun a=>@Int.rec (fun _=>Int) (fun b=>.ofNat (Nat.add a b)) (fun b=>.ofNat a+.negSucc b) y) (fun a=>.negSucc a+y) x
noncomputable def tI(x y:Int):Int:=@Int.rec (fun _=>Int) (fun a=>@Int.rec (fun _=>Int) (fun b=>@Bool.rec (fun _=>Int) (.ofNat a - .ofNat b) (.ofNat (Nat.sub a b)) (Nat.ble b a)) (fun b=>.ofNat a - .negSucc b) y) (fun a=>.negSucc a-y) x
noncomputable def nl(x y:Int):Int:=@Int.rec (fun _=>Int) (fun a=>@Int.rec (fun _=>Int) (fun b=>.ofNat (Nat.mul a b)) (fun b=>.ofNat a*.negSucc b) y) (fun a=>.negSucc a*y) x
/-- the greatest number that a kind bears -/
noncomputable def cp(k:IntKind):Nat:=@IntKind.rec (fun _=>Nat) 127 32767 2147483647 9223372036854775807 255 65535 4294967295 18446744073709551615 k
noncomputable def ew(k:IntKind)(x:Int):Int:=@Int.rec (fun _=>Int) (fun n=>@Bool.rec (fun _=>Int) (k.wrap (.ofNat n)) (.ofNat n) (Nat.ble n (cp k))) (fun n=>k.wrap (.negSucc n)) x
theorem eI(a b:IntKind):jx a b=true↔a=b:=by cases a<;>cases b<;>decide
theorem jV(a b:Int):cV a b=decide (a<b):=by
 cases a<;>cases b
 ·rename_i a b
  show Nat.ble (Nat.succ a) b=_
  rw[Bool.eq_iff_iff]
  simp only[Nat.ble_eq,decide_eq_true_eq,Int.ofNat_eq_natCast,Int.ofNat_lt]
  omega
 ·show false=_;symm;simp only[decide_eq_false_iff_not,Int.ofNat_eq_natCast];omega
 ·show true=_;symm;simp only[decide_eq_true_eq,Int.ofNat_eq_natCast];omega
 ·rename_i a b
  show Nat.ble (Nat.succ b) a=_
  rw[Bool.eq_iff_iff]
  simp only[Nat.ble_eq,decide_eq_true_eq]
  omega
theorem ft(a b:Int):c6 a b=(a == b):=by
 cases a<;>cases b
 ·rename_i a b
  show Nat.beq a b=_
  rw[Bool.eq_iff_iff]
  simp
  omega
 ·show false=_;symm;simp
 ·show false=_;symm;simp
 ·rename_i a b
  show Nat.beq a b=_
  rw[Bool.eq_iff_iff]
  simp
theorem xR(a b:Int):tK a b=a+b:=by cases a<;>cases b<;>rfl
theorem xV(a b:Int):tI a b=a-b:=by
 cases a<;>cases b<;>first
  |rfl
  |skip
 rename_i a b
 show@Bool.rec (fun _=>Int) (.ofNat a - .ofNat b) (.ofNat (Nat.sub a b)) (Nat.ble b a)=_
 cases h:Nat.ble b a with
 |true=>
  simp only[Nat.ble_eq]at h
  simp only[Int.ofNat_eq_natCast]
  show((a-b:Nat):Int)=_
  omega
 |false=>rfl
theorem oI(a b:Int):nl a b=a*b:=by cases a<;>cases b<;>rfl
theorem fM(k:IntKind)(n:Int):ew k n=k.wrap n:=by
 cases n with
 |negSucc n=>rfl
 |ofNat n=>
  show@Bool.rec (fun _=>Int) (k.wrap (.ofNat n)) (.ofNat n) (Nat.ble n (cp k))=_
  cases h:Nat.ble n (cp k)with
  |false=>rfl
  |true=>
   simp only[Nat.ble_eq]at h
   simp only[Int.ofNat_eq_natCast]
   cases k<;>(simp only[cp]at h; simp[IntKind.wrap,IntKind.bits,IntKind.signed]; omega)
/-- bits of numbers from 0 on -/
noncomputable def nd(op:BinOp)(k:IntKind)(a b:Nat):Option Int:=
 match op with
 |.and=>some (.ofNat (Nat.land a b))
 |.or=>some (ew k (.ofNat (Nat.lor a b)))
 |.xor=>some (ew k (.ofNat (Nat.xor a b)))
 |.andNot=>some (k.wrap (BitVec.ofInt k.bits a &&& ~~~ BitVec.ofInt k.bits b).toNat)
 |_=>none
noncomputable def gp(op:BinOp)(k:IntKind)(x y:Int):Option Int:=
 match op with
 |.and=>some (k.wrap (BitVec.ofInt k.bits x &&& BitVec.ofInt k.bits y).toNat)
 |.or=>some (k.wrap (BitVec.ofInt k.bits x ||| BitVec.ofInt k.bits y).toNat)
 |.xor=>some (k.wrap (BitVec.ofInt k.bits x ^^^ BitVec.ofInt k.bits y).toNat)
 |.andNot=>some (k.wrap (BitVec.ofInt k.bits x &&& ~~~ BitVec.ofInt k.bits y).toNat)
 |_=>none
noncomputable def pS(op:BinOp)(k:IntKind)(x y:Int):Option Int:=
 match x,y with
 |.ofNat a,.ofNat b=>match Nat.ble a (cp k),Nat.ble b (cp k)with
  |true,true=>nd op k a b
  |_,_=>gp op k x y
 |_,_=>gp op k x y
theorem Ea(k:IntKind):cp k<2 ^ k.bits:=by cases k<;>decide
theorem wa(k:IntKind){a:Nat}(h:a≤cp k):(BitVec.ofInt k.bits (a:Int)).toNat=a:=by
 have:=Ea k
 rw[BitVec.toNat_ofInt]
 have e:((a:Int)%((2 ^ k.bits:Nat):Int))=((a%2 ^ k.bits:Nat):Int):=by norm_cast
 rw[e,Nat.mod_eq_of_lt om]
 simp
theorem ol(op:BinOp)(k:IntKind)(x y:Int):pS op k x y=gp op k x y:=by
 unfold pS
 split
 ·rename_i a b
  cases ha:Nat.ble a (cp k)<;>cases hb:Nat.ble b (cp k)<;>simp only
  simp only[Nat.ble_eq]at ha hb
  cases op<;>simp only[nd,gp,fM,Int.ofNat_eq_natCast,BitVec.toNat_and,BitVec.toNat_or,BitVec.toNat_xor,wa k ha,wa k hb]
  ·congr 1
   have h1:Nat.land a b≤a:=Nat.and_le_left
   have:=fM k ((Nat.land a b:Nat):Int)
   have hq:ew k ((Nat.land a b:Nat):Int)=@Bool.rec (fun _=>Int) (k.wrap (.ofNat (Nat.land a b))) (.ofNat (Nat.land a b)) (Nat.ble (Nat.land a b) (cp k)):=rfl
   rw[hq,show Nat.ble (Nat.land a b) (cp k)=true by simp only[Nat.ble_eq];omega]at this
   exact this
  ·rfl
  ·rfl
 ·rfl
noncomputable def zM:Int→Int→Int
 |.ofNat a,.ofNat b=>.ofNat (Nat.div a b)
 |a,b=>a.tdiv b
noncomputable def zY:Int→Int→Int
 |.ofNat a,.ofNat b=>.ofNat (Nat.mod a b)
 |a,b=>a.tmod b
theorem xG(a b:Int):zM a b=a.tdiv b:=by cases a<;>cases b<;>rfl
theorem xZ(a b:Int):zY a b=a.tmod b:=by cases a<;>cases b<;>rfl
noncomputable def eB(op:BinOp)(k:IntKind)(a b:Int):Option F:=
 match op with
 |.add=>some (.int k (ew k (tK a b)))
 |.sub=>some (.int k (ew k (tI a b)))
 |.mul=>some (.int k (ew k (nl a b)))
 |.quo=>match c6 b 0 with | true=>none | false=>some (.int k (ew k (zM a b)))
 |.rem=>match c6 b 0 with | true=>none | false=>some (.int k (zY a b))
 |.eql=>some (.bool (c6 a b))
 |.neq=>some (.bool (not (c6 a b)))
 |.lss=>some (.bool (cV a b))
 |.leq=>some (.bool (not (cV b a)))
 |.gtr=>some (.bool (cV b a))
 |.geq=>some (.bool (not (cV a b)))
 |.shl | .shr=>none
 |op=>match pS op k a b with | some n=>some (.int k n) | none=>none
noncomputable def py(op:BinOp)(k:IntKind)(x y:Int):Option F:=
 match y with
 |.negSucc _=>none
 |.ofNat m=>
  match op with
  |.shl=>some (.int k (ew k (nl x (.ofNat (Nat.pow 2 (min m k.bits))))))
  |.shr=>match x with
   |.ofNat a=>some (.int k (.ofNat (Nat.div a (Nat.pow 2 (min m k.bits)))))
   |x=>some (.int k (x.fdiv (2 ^ (min m k.bits))))
  |_=>none
/-- structs of whole numbers (true) and bools (false), of which '==' is that of their cells -/
noncomputable def ir(P:Program):List Field→Nat→Option (List Bool)
 |[],_=>some []
 |f::r,o=>match(match P.underlying f.type with | some (.int _)=>some true | some .bool=>some false | _=>none),ir P r (o+1)with
  | some b, some l => if f.name ≠ "_" ∧ f.offset = o then some (b :: l) else none
  |_,_=>none
noncomputable def ja(P:Program)(t:TypeId):Option (List Bool):=
 match P.underlying t with
 |some (.struct fs)=>if P.stoodInHeld t=false∧P.eqGuardType P.depth t=false then ir P fs.toList 0 else none
 |_=>none
noncomputable def cm:List Bool→List F→List F→Option Bool
 |[],[],[]=>some true
 |true::ks,.int k a::xs,.int k' b::ys=>if k=k' then match cm ks xs ys with | some c=>some ((a == b)&&c) | none=>none else none
 |false::ks,.bool a::xs,.bool b::ys=>match cm ks xs ys with | some c=>some ((a == b)&&c) | none=>none
 |_,_,_=>none
noncomputable def eC(P:Program)(t:TypeId):U→U→Option Bool
 |.f (.bool a),.f (.bool b)=>match P.underlying t with | some .bool=>some (a == b) | _=>none
 |.f (.str a),.f (.str b)=>match P.underlying t with | some .string=>some (a == b) | _=>none
 |.f .ptr0,.f .ptr0=>match P.underlying t with | some (.pointer _)=>some true | _=>none
 |.f .ptr0,.f (.ptr _ _)=>match P.underlying t with | some (.pointer _)=>some false | _=>none
 |.f (.ptr _ _),.f .ptr0=>match P.underlying t with | some (.pointer _)=>some false | _=>none
 |.f .sl0,.f .sl0=>match P.underlying t with | some (.slice _)=>some true | _=>none
 |.f (.sl ..),.f .sl0=>match P.underlying t with | some (.slice _)=>some false | _=>none
 |.f .sl0,.f (.sl ..)=>match P.underlying t with | some (.slice _)=>some false | _=>none
 |.fn ..,.f .nilf=>match P.underlying t with | some (.func ..)=>some false | _=>none
 |.f .nilf,.f .nilf=>match P.underlying t with | some (.func ..)=>some true | _=>none
 |.agg xs,.agg ys=>match ja P t with
  |some ks=>cm ks xs ys
  |none=>none
 |_,_=>none
noncomputable def aU(P:Program)(op:BinOp)(t:TypeId)(x y:V):Option F:=
 match x,y with
 |.u (.f (.int k a)),.u (.f (.int k' b))=>
  match op with
  |.shl | .shr=>py op k a b
  |_=>match jx k k' with | true=>eB op k a b | false=>none
 |.u x,.u y=>match op with
  |.eql=>match eC P t x y with | some b=>some (.bool b) | none=>none
  |.neq=>match eC P t x y with | some b=>some (.bool !b) | none=>none
  |_=>none
 |_,_=>none
/-- the bytes of cells -/
noncomputable def iE:List F→Option (List UInt8)
 |[]=>some []
 |.int .u8 n::r=>match iE r with | some l=>some (UInt8.ofNat n.toNat::l) | none=>none
 |_::_=>none
noncomputable def mL(s:List UInt8):List F:=s.map fun b=>.int .u8 b.toNat
/-- whole numbers among true cells -/
noncomputable def cY:List Value→Option (List F)
 |[]=>some []
 |.int k n::r=>match cY r with | some l=>some (.int k n::l) | none=>none
 |_::_=>none
noncomputable def gj:O→Option Nat
 |.cells cs _=>some cs.length
 |.whole rcs _ _=>some rcs.size
 |_=>none
/-- a slice's cells, of a heap -/
noncomputable def aF(h:Heap)(sz:Nat):F→Option (List F)
 |.sl0=>some []
 |.sl id off sz' len _=>if sz'=sz then match h id with
  |some (.cells cs _)=>if off+len*sz≤cs.length then some ((cs.drop off).take (len*sz))else none
  |some (.whole rcs _ _)=>if off+len*sz≤rcs.size then cY ((rcs.toList.drop off).take (len*sz))else none
  |_=>none else none
 |_=>none
noncomputable def cd:F→Option Nat
 |.sl0=>some 0
 |.sl _ _ _ len _=>some len
 |_=>none
abbrev Ef:=V×List (Nat×Option O)×Nat
noncomputable def dP:V→Option Nat
 |.u (.f (.int _ (.ofNat n)))=>some n
 |_=>none
/-- a slice's cut: the top bound c (none: the block's end), of which 'known' places are sure -/
noncomputable def d8(len known:Nat)(capx:Option Nat)(lo hi mx:Option Nat):Option (Nat×Nat×Option Nat):=
 match mx with
 |some m=>
  match hi with
  |some h=>let l:=lo.getD 0
   if m≤known∧h≤m∧l≤h then some (l,h,some m)else none
  |none=>none
 |none=>
  let h:=hi.getD len
  let l:=lo.getD 0
  if h≤known∧l≤h then some (l,h,capx)else none
noncomputable def cR(r:Operand→Option V):Option Operand→Option (Option Nat)
 |none=>some none
 |some x=>match r x with
  |some v=>match dP v with | some n=>some (some n) | none=>none
  |none=>none
/-- append: known room in place; a bound that is met, or a block known whole: a new name; else the old name is given up -/
noncomputable def df(h:Heap)(n sz bytes:Nat)(s:F)(new:List F)(m:Nat):Option Ef:=
 match s with
 |.sl0=>if m=0 then some (vf .sl0,[],0)else if m*bytes*2≤140737488355328 then some (vf (.sl n 0 sz m none),[(n,some (.cells new false))],1)else none
 |.sl id off sz' len cap=>
  if sz'=sz then match h id with
   |some (.cells cs ex)=>
    if off+len*sz≤cs.length then
     let roomy:=off+(len+m)*sz≤cs.length
     if(len+m)*bytes*2≤140737488355328 then
     match cap with
     |some c=>
      if len+m≤c then(if roomy then some (vf (.sl id off sz (len+m) cap),[(id,some (.cells (aJ cs (off+len*sz) new) ex))],0)else none)
      else some (vf (.sl n 0 sz (len+m) none),[(n,some (.cells ((cs.drop off).take (len*sz)++new) false))],1)
     |none=>
      if roomy then some (vf (.sl id off sz (len+m) none),[(id,some (.cells (aJ cs (off+len*sz) new) ex))],0)
      else if ex then some (vf (.sl n 0 sz (len+m) none),[(n,some (.cells ((cs.drop off).take (len*sz)++new) false))],1)
      else if off=0 then some (vf (.sl n 0 sz (len+m) none),[(id,none),(n,some (.cells (cs.take (len*sz)++new) false))],1)
      else none
     else none
    else none
   |_=>none
  else none
 |_=>none
/-- a key among entries: whole numbers, structs of whole numbers; of another struct only an empty map is asked -/
noncomputable def cg(k:U):List (U×U)→Nat→Option (Option (Nat×U))
 |[],_=>some none
 |e::r,i=>match k,e.1 with
  |.f (.int j a),.f (.int j' b)=>if j=j' then(if a=b then some (some (i,e.2))else cg k r (i+1))else none
  |.agg xs,.agg ys=>match cm (xs.map fun _=>true) xs ys with
   |some true=>some (some (i,e.2))
   |some false=>cg k r (i+1)
   |none=>none
  |_,_=>none
noncomputable def dg(P:Program)(t:TypeId)(k:U)(empty:Bool):Bool:=
 match k with
 |.f (.int _ _)=>(match P.underlying t with | some (.int _)=>true | _=>false)
 |.agg xs=>match ja P t with | some ks=>xs.length == ks.length&&(empty || ks.all id) | none=>false
 |_=>false
noncomputable def mV(P:Program)(t:TypeId):Option U:=
 match P.info? t with
 |some i=>match i.zero with
  |some z=>match oK z with
   |some (.u u)=>some u
   |_=>none
  |none=>none
 |none=>none
noncomputable def j4(mx:Bool):List V→Option F
 |[.u (.f (.int k a))]=>some (.int k a)
 |[.u (.f (.int k a)),.u (.f (.int k' b))]=>if k=k' then some (.int k (if mx then(if b>a then b else a)else(if b<a then b else a)))else none
 |[.u (.f (.int k a)),.u (.f (.int k' b)),.u (.f (.int k'' c))]=>
  if k=k'∧k=k'' then
   let m:=if mx then(if b>a then b else a)else(if b<a then b else a)
   some (.int k (if mx then(if c>m then c else m)else(if c<m then c else m)))
  else none
 |_=>none
noncomputable def ct(r:Operand→Option V):List Operand→Option (List V)
 |[]=>some []
 |x::rest=>match r x,ct r rest with
  |some v,some l=>some (v::l)
  |_,_=>none
noncomputable def gy(P:Program)(t:TypeId)(v:V)(h:Heap):Option F:=
 match P.underlying t with
 |some (.slice _)=>match v with
  |.u (.f x)=>match cd x with | some l=>some (.int .i64 (l:Int)) | none=>none
  |_=>none
 |some .string=>match v with
  |.u (.f (.str s))=>some (.int .i64 (s.length:Int))
  |_=>none
 |some (.array k _)=>some (.int .i64 (k:Int))
 |some (.map _ _)=>match v with
  |.u (.f .map0)=>some (.int .i64 0)
  |.u (.f (.map id))=>match h id with | some (.mp es)=>some (.int .i64 (es.length:Int)) | _=>none
  |_=>none
 |_=>none
noncomputable def qh(P:Program)(t:TypeId)(v:V):Option F:=
 match P.underlying t with
 |some (.slice _)=>match v with
  |.u (.f .sl0)=>some (.int .i64 0)
  |.u (.f (.sl _ _ _ _ (some c)))=>some (.int .i64 (c:Int))
  |_=>none
 |_=>none
noncomputable def pU(P:Program)(t:TypeId)(d:F)(x:F)(h:Heap):Option Ef:=
 match d with
 |.sl id off sz len _=>match eN P t with
  |some e=>match cj P e,cd x,aF h sz x,h id with
   |some sz',some m,some new,some (.cells cs ex)=>
    if sz'=sz∧off+(min m len)*sz≤cs.length then some (vf (.int .i64 ((min m len:Nat):Int)),[(id,some (.cells (aJ cs off (new.take ((min m len)*sz))) ex))],0)else none
   |_,_,_,_=>none
  |none=>none
 |_=>none
noncomputable def mW(P:Program)(t:TypeId)(d:F)(h:Heap):Option Ef:=
 match eN P t with
 |some e=>match d with
  |.sl0=>some (.tup [],[],0)
  |.sl id off sz len _=>match dz P e,h id with
   |some ti,some (.cells cs ex)=>
    if len=0 then some (.tup [],[],0)else
    if ti.size=sz∧ti.zero.length=sz∧off+len*sz≤cs.length then some (.tup [],[(id,some (.cells (aJ cs off (ci ti.zero len)) ex))],0)else none
   |_,_=>none
  |_=>none
 |none=>none
/-- what is appended: a slice's cells, or so many zeros -/
noncomputable def ij(P:Program)(t':TypeId)(ti:TI)(x:F)(h:Heap):Option (List F×Nat):=
 match P.underlying t' with
 |some (.slice _)=>match aF h ti.size x,cd x with
  |some new,some m=>some (new,m)
  |_,_=>none
 |some (.int _)=>match x with
  |.int _ k=>if 0≤k∧k.toNat*ti.bytes≤140737488355328 then some (ci ti.zero k.toNat,k.toNat)else none
  |_=>none
 |_=>none
noncomputable def jL(P:Program)(t t':TypeId)(s x:F)(h:Heap)(n:Nat):Option Ef:=
 match eN P t with
 |some e=>match dz P e with
  |some ti=>if 0<ti.size∧0<ti.bytes∧ti.zero.length=ti.size then match ij P t' ti x h with
   |some (new,m)=>df h n ti.size ti.bytes s new m
   |none=>none else none
  |none=>none
 |none=>none
noncomputable def cK(P:Program)(b:Builtin)(ats:Array TypeId)(args:List V)(h:Heap)(n:Nat):Option Ef:=
 match b with
 |.len=>match args,ats[0]? with
  |[v],some t=>match gy P t v h with | some x=>some (vf x,[],0) | none=>none
  |_,_=>none
 |.cap=>match args,ats[0]? with
  |[v],some t=>match qh P t v with | some x=>some (vf x,[],0) | none=>none
  |_,_=>none
 |.min=>match j4 false args with | some x=>some (vf x,[],0) | none=>none
 |.max=>match j4 true args with | some x=>some (vf x,[],0) | none=>none
 |.append=>match args,ats[0]?,ats[1]? with
  |[.u (.f s),.u (.f x)],some t,some t'=>jL P t t' s x h n
  |_,_,_=>none
 |.copy=>match args,ats[0]? with
  |[.u (.f d),.u (.f x)],some t=>pU P t d x h
  |_,_=>none
 |.clear=>match args,ats[0]? with
  |[.u (.f d)],some t=>mW P t d h
  |_,_=>none
 |_=>none
noncomputable def stepOp(P:Program)(op:Op)(r:Operand→Option V)(h:Heap)(n:Nat):Option Ef:=
 match op with
 |.move x=>(r x).map fun v=>(v,[],0)
 |.assign x=>(r x).map fun v=>(v,[],0)
 |.pick c a b=>match r c with
  |some (.u (.f (.bool t)))=>(r (if t then a else b)).map fun v=>(v,[],0)
  |_=>none
 |.alloc e=>match dz P e with | some ti=>some (vf (.ptr n 0),[(n,some (.cells ti.zero true))],1) | none=>none
 |.box _ x=>match r x with
  |some v=>match iG v with | some cs=>some (vf (.ptr n 0),[(n,some (.cells cs true))],1) | none=>none
  |none=>none
 |.build t parts=>match dz P t,fj r parts.toList with
  |some ti,some ps=>match P.underlying t with
   |some (.struct fs)=>match jN P fs.toList with
    |some pl=>(dJ (pl[·]?) ti.zero ps).map fun cs=>(.u (.agg cs),[],0)
    |none=>none
   |some (.array _ e)=>match cj P e with
    |some sz=>(dJ (fun i=>some (i*sz,sz)) ti.zero ps).map fun cs=>(.u (.agg cs),[],0)
    |none=>none
   |_=>none
  |_,_=>none
 |.buildSlice t len parts=>match eN P t,fj r parts.toList with
  |some e,some ps=>match dz P e with
   |some ti=>if 0<ti.size∧ti.zero.length=ti.size∧len*ti.size≤16777216 then
    (dJ (fun i=>some (i*ti.size,ti.size)) (ci ti.zero len) ps).map fun cs=>(vf (.sl n 0 ti.size len none),[(n,some (.cells cs true))],1)
    else none
   |none=>none
  |_,_=>none
 |.load t a=>match r a with
  |some (.u (.f (.ptr id off)))=>match h id,h_ P t,cj P t with
   |some (.cells cs _),some true,some sz=>if off+sz≤cs.length then some (.u (.agg ((cs.drop off).take sz)),[],0)else none
   |some (.cells cs _),some false,some _=>match cs[off]? with | some x=>some (vf x,[],0) | none=>none
   |some (.whole rcs _ _),some false,some _=>match rcs[off]? with | some (.int k n)=>some (vf (.int k n),[],0) | _=>none
   |_,_,_=>none
  |_=>none
 |.store t a x=>match r a,r x with
  |some (.u (.f (.ptr id off))),some v=>match h id,iG v,cj P t with
   |some (.cells cs ex),some new,some sz=>if new.length=sz∧off+sz≤cs.length then some (cy,[(id,some (.cells (aJ cs off new) ex))],0)else none
   |_,_,_=>none
  |_,_=>none
 |.nilCheck x=>match r x with
  |some (.u (.f (.ptr id off)))=>some (vf (.ptr id off),[],0)
  |some (.u (.fn g c))=>some (.u (.fn g c),[],0)
  |_=>none
 |.binOp op t x y _=>match r x,r y with
  |some a,some b=>(aU P op t a b).map fun x=>(vf x,[],0)
  |_,_=>none
 |.unOp .not _ x=>match r x with | some (.u (.f (.bool b)))=>some (vf (.bool !b),[],0) | _=>none
 |.convert s d x=>match P.underlying s,P.underlying d,r x with
  |some _,some (.int k),some (.u (.f (.int _ n)))=>some (vf (.int k (k.wrap n)),[],0)
  |some (.slice e),some .string,some (.u (.f x))=>match P.underlying e with
   |some (.int .u8)=>match aF h 1 x with
    |some cs=>match iE cs with | some s=>some (vf (.str s),[],0) | none=>none
    |none=>none
   |_=>none
  |some (.slice _),some (.slice e),some (.u (.f (.sl id off sz len cap)))=>match P.underlying e,h id with
   |some (.int .u8),some (.cells cs _)=>if s=d∧0<len then some (vf (.sl id off sz len cap),[(id,some (.cells cs false))],0)else none
   |_,_=>none
  |some .string,some (.slice e),some (.u (.f (.str s)))=>match P.underlying e with
   |some (.int .u8)=>some (vf (.sl n 0 1 s.length none),[(n,some (.cells (mL s) false))],1)
   |_=>none
  |_,_,_=>none
 |.makeFunc (.func g) first caps=>if first.size=0 then match ct r caps.toList with
  |some vs=>match vs.mapM (fun v=>match v with | .u (.f x)=>some x | _=>none)with
   |some l=>some (.u (.fn g l),[],0)
   |none=>none
  |none=>none
  else none
 |.makeMap t none=>match P.underlying t with | some (.map _ _)=>some (vf (.map n),[(n,some (.mp []))],1) | _=>none
 |.makeSlice t l c=>match eN P t,r l,r c with
  |some e,some vl,some vc=>match dz P e,dP vl,dP vc with
   |some ti,some a,some b=>
    if a=b∧0<ti.size∧0<ti.bytes∧ti.zero.length=ti.size∧a*ti.bytes≤140737488355328 then
     some (vf (.sl n 0 ti.size a none),[(n,some (.cells (ci ti.zero a) true))],1)
    else none
   |_,_,_=>none
  |_,_,_=>none
 |.slice t x lo hi mx=>match r x,cR r lo,cR r hi,cR r mx with
  |some (.u (.f x)),some lo,some hi,some mx=>match P.underlying t,x with
   |some (.array k e),.ptr id off=>match cj P e,h id with
    |some sz,some (.cells cs true)=>match d8 k k (some k) lo hi mx with
     |some (l,h',some m)=>if cs.length=off+k*sz∧0<sz then some (vf (.sl id (off+l*sz) sz (h'-l) (some (m-l))),[],0)else none
     |_=>none
    |_,_=>none
   |some (.slice e),.sl0=>match cj P e,d8 0 0 (some 0) lo hi mx with
    |some _,some _=>some (vf .sl0,[],0)
    |_,_=>none
   |some (.slice e),.sl id off sz len cap=>match cj P e,(h id).bind gj with
    |some sz',some L=>
     match d8 len (cap.getD ((L-off)/sz)) cap lo hi mx with
     |some (l,h',m)=>if sz'=sz∧0<sz∧off≤L then some (vf (.sl id (off+l*sz) sz (h'-l) (m.map (· - l))),[],0)else none
     |none=>none
    |_,_=>none
   |_,_=>none
  |_,_,_,_=>none
 |.fieldAddr s x f=>match r x,P.underlying s with
  |some (.u (.f (.ptr id off))),some (.struct fs)=>match fs[f]? with
   |some fd=>match cj P fd.type with
    |some sz=>if 0<sz then some (vf (.ptr id (off+fd.offset)),[],0)else none
    |none=>none
   |none=>none
  |_,_=>none
 |.indexAddr t x i=>match r x,r i with
  |some (.u (.f x)),some iv=>match dP iv,P.underlying t,x with
   |some i,some (.array len e),.ptr id off=>match cj P e with
    |some sz=>if i<len then some (vf (.ptr id (off+i*sz)),[],0)else none
    |none=>none
   |some i,some (.slice e),.sl id off sz len _=>match cj P e with
    |some sz'=>if sz'=sz∧i<len then some (vf (.ptr id (off+i*sz)),[],0)else none
    |none=>none
   |_,_,_=>none
  |_,_=>none
 |.index t x i=>match r x,r i with
  |some (.u (.f (.str s))),some iv=>match dP iv,P.underlying t with
   |some i,some .string=>match s[i]? with | some b=>some (vf (.int .u8 b.toNat),[],0) | none=>none
   |_,_=>none
  |_,_=>none
 |.lookup t m k ok=>match P.underlying t,r m,r k with
  |some (.map kt et),some (.u (.f m)),some (.u k)=>match mV P et,(match m with | .map0=>some [] | .map id=>(match h id with | some (.mp es)=>some es | _=>none) | _=>none)with
   |some z,some es=>if dg P kt k es.isEmpty then match cg k es 0 with
    |some (some (_,v))=>some (if ok then .tup [v,.f (.bool true)]else .u v,[],0)
    |some none=>some (if ok then .tup [z,.f (.bool false)]else .u z,[],0)
    |none=>none
    else none
   |_,_=>none
  |_,_,_=>none
 |.mapUpdate t m k x=>match P.underlying t,r m,r k,r x with
  |some (.map kt _),some (.u (.f (.map id))),some (.u k),some (.u v)=>match h id with
   |some (.mp es)=>if dg P kt k es.isEmpty then match cg k es 0 with
    |some none=>some (cy,[(id,some (.mp (es++[(k,v)])))],0)
    |_=>none
    else none
   |_=>none
  |_,_,_,_=>none
 |.range t x=>match P.underlying t,r x with
  |some (.map _ _),some (.u (.f .map0))=>some (vf (.ptr n 0),[(n,some (.it none 0 false))],1)
  |some (.map _ _),some (.u (.f (.map id)))=>match h id with
   |some (.mp es)=>some (vf (.ptr n 0),[(n,some (.it (some id) es.length false))],1)
   |_=>none
  |_,_=>none
 |.next x false=>match r x with
  |some (.u (.f (.ptr id 0)))=>match h id with
   |some (.it none _ _)=>some (.tup [.f (.bool false)],[],0)
   |some (.it (some m) since seen)=>match h m with
    |some (.mp [])=>some (.tup [.f (.bool false)],[],0)
    |some (.mp [e])=>if seen then some (.tup [.f (.bool false)],[],0)else if since=0 then none else some (.tup [.f (.bool true),e.1,e.2],[(id,some (.it (some m) since true))],0)
    |_=>none
   |_=>none
  |_=>none
 |.entry x=>match r x with
  |some (.u (.f (.ptr id 0)))=>match h id with
   |some (.it (some m) _ true)=>match h m with
    |some (.mp [e])=>some (.tup [e.1,e.2],[],0)
    |_=>none
   |_=>none
  |_=>none
 |.extract x i=>match r x with
  |some (.tup xs)=>match xs[i]? with | some u=>some (.u u,[],0) | none=>none
  |_=>none
 |.call {callee:=.builtin b,args,argTypes}=>match ct r args.toList with
  |some vs=>cK P b argTypes vs h n
  |none=>none
 |_=>none
end Go.Proofs.YtkimkgbppegkhaaGreat.Cm

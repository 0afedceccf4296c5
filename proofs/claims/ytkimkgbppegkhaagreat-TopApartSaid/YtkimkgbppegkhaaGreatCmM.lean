/- The clean machine, where a region draws its order: what is quiet, what is new, what has effects; swaps. No program is walked here. · The clean machine's judgements: an operation, operations in order, code, calls; and that they tell of the true ones. No program is walked here. -/
import Derived.Test.YtkimkgbppegkhaaGreatCmL
import Derived.Calls
import Derived.LoopN
set_option linter.unusedVariables false
set_option linter.unusedSimpArgs false
namespace Go.Proofs.YtkimkgbppegkhaaGreat.Cm
open Go Go.RowKit
inductive HQ where
 |quiet | fresh | eff
 deriving DecidableEq
def bY(P:Program):Op→HQ
 |.move _ | .assign _ | .pick .. | .build .. | .nilCheck _ | .binOp .. | .unOp .. | .makeFunc .. | .fieldAddr .. | .indexAddr .. | .index .. | .extract .. | .load .. | .slice .. | .lookup ..=>.quiet
 |.convert _ d _=>match P.underlying d with
  |some (.int _)=>.quiet
  |some .string=>.quiet
  |_=>.eff
 |.call {callee:=.builtin b,..}=>match b with
  |.len | .cap | .min | .max=>.quiet
  |_=>.eff
 |.alloc _ | .box .. | .buildSlice .. | .makeSlice ..=>.fresh
 |.makeMap _ none=>.fresh
 |_=>.eff
/-- the name that a quiet operation reads -/
def dC:Option V→Nat
 |some (.u (.f (.ptr id _)))=>id
 |some (.u (.f (.sl id _ _ _ _)))=>id
 |some (.u (.f (.map id)))=>id
 |_=>0
def cw(r:Operand→Option V):Op→Nat
 |.load _ a=>dC (r a)
 |.slice _ x _ _ _=>dC (r x)
 |.lookup _ m _ _=>dC (r m)
 |.convert _ _ x=>dC (r x)
 |.call {callee:=.builtin .len,args,..}=>match args.toList with
  |[x]=>dC (r x)
  |_=>0
 |_=>0
section
variable {P:Program} {r:Operand→Option V} {h h':Heap} {n n':Nat} {ef:Ef}
theorem Ev{id:Nat}{sz:Nat}{x:F}(hx:dC (some (.u (.f x)))=id)(hh:h id=h' id):aF h sz x=aF h' sz x:=by
 cases x<;>simp only[aF,dC]at* <;> first
  |rfl
  |(subst hx;rw[hh])
theorem E9{id:Nat}{t:TypeId}{v:V}(hv:dC (some v)=id)(hh:h id=h' id):gy P t v h=gy P t v h':=by
 unfold gy
 split<;>first
  |rfl
  |skip
 split<;>first
  |rfl
  |skip
 simp only[dC]at hv
 subst hv
 rw[hh]
theorem nV{op:Op}(hc:bY P op=.quiet)(hh:h (cw r op)=h' (cw r op)):stepOp P op r h n=stepOp P op r h' n':=by
 cases op<;>simp only[bY]at hc<;>first
  |(cases hc;done)
  |rfl
  |skip
 case makeMap t x=>cases x<;>simp only at hc<;>cases hc
 case unOp op t x=>cases op<;>rfl
 case makeFunc fn a b=>cases fn<;>rfl
 case load t a=>
  simp only[stepOp,cw]at*
  split
  ·rename_i id off ha
   rw[ha]at hh
   simp only[dC]at hh
   rw[hh]
  ·rfl
 case slice t x lo hi mx=>
  simp only[stepOp,cw]at*
  split
  ·rename_i y a b c hx _ _ _
   rw[hx]at hh
   split
   ·simp only[dC]at hh;rw[hh]
   ·rfl
   ·simp only[dC]at hh;rw[hh]
   ·rfl
  ·rfl
 case lookup t m k ok=>
  simp only[stepOp,cw]at*
  split
  ·rename_i kt et m' k' hu hm hk
   rw[hm]at hh
   cases m'<;>first
    |rfl
    |(simp only[dC]at hh;simp only[hh])
  ·rfl
 case convert s d x=>
  simp only[stepOp,cw]at*
  split
  ·rfl
  ·rename_i e y hs hd hx
   rw[hx]at hh
   rw[Ev rfl hh]
  ·rename_i hs hd hx
   rw[hd]at hc
   cases hc
  ·rename_i hs hd hx
   rw[hd]at hc
   cases hc
  ·rfl
 case call c=>
  obtain⟨callee,args,ats⟩:=c
  cases callee with
  |builtin b=>
   simp only[stepOp]
   cases b<;>simp only at hc<;>first
    |(cases hc;done)
    |skip
   ·split<;>rfl
   ·split
    ·rename_i vs hvs
     simp only[cK]
     split
     ·rename_i v t h0
      have:∃x,args.toList=[x]∧r x=some v:=by
       cases hl:args.toList with
       |nil=>rw[hl]at hvs;simp[ct]at hvs
       |cons x l=>
        rw[hl]at hvs
        simp only[ct]at hvs
        split at hvs
        ·rename_i v' l' h1 h2
         cases hvs
         cases l with
         |nil=>exact⟨x,rfl,h1⟩
         |cons y l=>simp only[ct]at h2; split at h2<;>cases h2
        ·cases hvs
      obtain⟨x,h1,h2⟩:=this
      simp only[cw,h1,h2]at hh
      rw[E9 rfl hh]
     ·rfl
    ·rfl
   ·split<;>rfl
   ·split<;>rfl
  |value f=>cases hc
  |invoke a b=>cases hc
theorem mi{op:Op}(hc:bY P op=.quiet)(hs:stepOp P op r h n=some ef):ef.2.1=[]∧ef.2.2=0:=by
 cases op<;>simp only[bY]at hc<;>first
  |(cases hc;done)
  |skip
 case makeMap t x=>cases x<;>simp only at hc<;>cases hc
 case convert s d x=>
  simp only[stepOp]at hs
  split at hs
  ·cases hs;exact⟨rfl,rfl⟩
  ·split at hs
   ·split at hs
    ·split at hs
     ·cases hs;exact⟨rfl,rfl⟩
     ·cases hs
    ·cases hs
   ·cases hs
  ·rename_i hd _;rw[hd]at hc;cases hc
  ·rename_i hd _;rw[hd]at hc;cases hc
  ·cases hs
 case unOp op t x=>
  cases op<;>simp only[stepOp]at hs<;>first
   |(cases hs;done)
   |skip
  split at hs<;>cases hs
  exact⟨rfl,rfl⟩
 case makeFunc fn first caps=>
  cases fn<;>simp only[stepOp]at hs<;>first
   |(cases hs;done)
   |skip
  (repeat' split at hs)
  all_goals first
   |(cases hs;exact⟨rfl,rfl⟩)
   |cases hs
 case call c=>
  obtain⟨callee,args,ats⟩:=c
  cases callee with
  |builtin b=>
   simp only[stepOp]at hs
   split at hs
   ·cases b<;>simp only at hc<;>first
     |(cases hc;done)
     |skip
    all_goals
     simp only[cK]at hs
     (repeat' split at hs)
     all_goals first
      |(cases hs;exact⟨rfl,rfl⟩)
      |cases hs
   ·cases hs
  |value f=>cases hc
  |invoke a b=>cases hc
 all_goals
  simp only[stepOp,Option.map_eq_some_iff]at hs
 all_goals first
  |(obtain⟨v,hv,rfl⟩:=hs;exact⟨rfl,rfl⟩)
  |skip
 all_goals
  (repeat' split at hs)
 all_goals first
  |(cases hs;exact⟨rfl,rfl⟩)
  |(simp only[Option.map_eq_some_iff]at hs;obtain⟨v,hv,rfl⟩:=hs;exact⟨rfl,rfl⟩)
  |cases hs
theorem rp{op:Op}(hc:bY P op=.fresh):stepOp P op r h n=stepOp P op r h' n:=by
 cases op<;>simp only[bY]at hc<;>first
  |(cases hc;done)
  |rfl
  |skip
 case convert s d x=>split at hc<;>cases hc
 case call c=>
  obtain⟨callee,args,ats⟩:=c
  cases callee with
  |builtin b=>cases b<;>simp only at hc<;>cases hc
  |value f=>cases hc
  |invoke a b=>cases hc
 case makeMap t x=>cases x<;>rfl
theorem qQ{op:Op}(hc:bY P op=.fresh)(hs:stepOp P op r h n=some ef):∃ob,ef.2.1=[(n,some ob)]∧ef.2.2=1:=by
 cases op<;>simp only[bY]at hc<;>first
  |(cases hc;done)
  |skip
 case convert s d x=>split at hc<;>cases hc
 case call c=>
  obtain⟨callee,args,ats⟩:=c
  cases callee with
  |builtin b=>cases b<;>simp only at hc<;>cases hc
  |value f=>cases hc
  |invoke a b=>cases hc
 case makeMap t x=>
  cases x<;>simp only[stepOp]at hs
  ·split at hs<;>cases hs
   exact⟨_,rfl,rfl⟩
  ·cases hs
 all_goals
  simp only[stepOp]at hs
  (repeat' split at hs)
 all_goals first
  |(cases hs;exact⟨_,rfl,rfl⟩)
  |(simp only[Option.map_eq_some_iff]at hs;obtain⟨v,hv,rfl⟩:=hs;exact⟨_,rfl,rfl⟩)
  |cases hs
end
end Go.Proofs.YtkimkgbppegkhaaGreat.Cm
namespace Go.Proofs.YtkimkgbppegkhaaGreat.Cm
open Go Go.RowKit
section
variable {P:Program} {r:Operand→Option V} {h h':Heap} {n n':Nat} {ef:Ef}
def ab(h h':Heap):Prop:=∀id o,h id=some o→h' id=some o
/-- what is turned lay there, or bears the new name -/
def qg(h:Heap)(n:Nat)(ef:Ef):Prop:=∀p∈ef.2.1,h p.1≠none∨(p.1=n∧ef.2.2=1)
theorem aO(hm:ab h h'){sz:Nat}{x:F}{l:List F}(hs:aF h sz x=some l):aF h' sz x=some l:=by
 cases x<;>simp only[aF]at hs⊢<;>first
  |exact hs
  |skip
 split at hs
 ·rename_i hsz
  rw[if_pos hsz]
  split at hs
  ·rename_i cs ex hc
   rw[hm _ _ hc]
   exact hs
  ·rename_i rcs elem fz hc
   rw[hm _ _ hc]
   exact hs
  ·cases hs
 ·cases hs
theorem AK(hm:ab h h'){sz bytes m:Nat}{s:F}{new:List F}(hs:df h n sz bytes s new m=some ef):df h' n sz bytes s new m=some ef∧qg h n ef:=by
 unfold df at hs⊢
 split at hs
 ·refine⟨hs,?_⟩
  repeat' split at hs
  all_goals first
   |(cases hs;intro p hp;simp at hp;done)
   |(cases hs;intro p hp;simp at hp;subst hp;exact .inr ⟨rfl,rfl⟩)
   |cases hs
 ·split at hs
  ·rename_i hsz
   simp only[if_pos hsz]
   split at hs
   ·rename_i cs ex hc
    rw[hm _ _ hc]
    refine⟨hs,?_⟩
    simp only at hs
    repeat' split at hs
    all_goals first
     |(cases hs;intro p hp;simp at hp;done)
     |(cases hs;intro p hp;simp at hp;subst hp;exact .inr ⟨rfl,rfl⟩)
     |(cases hs;intro p hp;simp at hp;subst hp;left;simp[hc];done)
     |(cases hs;intro p hp;simp at hp;rcases hp with rfl | rfl;(left;simp[hc]);exact .inr ⟨rfl,rfl⟩)
     |cases hs
   ·cases hs
  ·cases hs
 ·cases hs
theorem DP(hm:ab h h'){t:TypeId}{ti:TI}{x:F}{q:List F×Nat}(hs:ij P t ti x h=some q):ij P t ti x h'=some q:=by
 unfold ij at hs⊢
 split at hs
 ·split at hs
  ·rename_i h1 h2
   rw[aO hm h1,h2]
   exact hs
  ·cases hs
 ·exact hs
 ·cases hs
theorem AG(hm:ab h h'){b:Builtin}{ats:Array TypeId}{args:List V}(hb:b=.append∨b=.copy∨b=.clear)(hs:cK P b ats args h n=some ef):cK P b ats args h' n=some ef∧qg h n ef:=by
 rcases hb with rfl | rfl | rfl
 ·simp only[cK]at hs⊢
  split at hs
  ·unfold jL at hs⊢
   split at hs
   ·split at hs
    ·split at hs
     ·rename_i hp
      simp only[if_pos hp]
      split at hs
      ·rename_i new m h1
       have:ij P _ _ _ h'=some (new,m):=DP hm h1
       rw[this]
       exact AK hm hs
      ·cases hs
     ·cases hs
    ·cases hs
   ·cases hs
  ·cases hs
 ·simp only[cK]at hs⊢
  split at hs
  ·unfold pU at hs⊢
   split at hs
   ·split at hs
    ·split at hs
     ·rename_i h1 h2 h3 h4
      rw[h1,h2,aO hm h3,hm _ _ h4]
      refine⟨hs,?_⟩
      split at hs
      ·cases hs;intro p hp;simp at hp;subst hp;exact .inl (by simp[h4])
      ·cases hs
     ·cases hs
    ·cases hs
   ·cases hs
  ·cases hs
 ·simp only[cK]at hs⊢
  split at hs
  ·unfold mW at hs⊢
   split at hs
   ·split at hs
    ·cases hs;exact⟨rfl,by intro p hp;simp at hp⟩
    ·split at hs
     ·rename_i h1 h2
      rw[h1,hm _ _ h2]
      refine⟨hs,?_⟩
      repeat' split at hs
      all_goals first
       |(cases hs;intro p hp;simp at hp;done)
       |(cases hs;intro p hp;simp at hp;subst hp;exact .inl (by simp[h2]))
       |cases hs
     ·cases hs
    ·cases hs
   ·cases hs
  ·cases hs
theorem wX(hm:ab h h'){op:Op}(hc:bY P op=.eff)(hs:stepOp P op r h n=some ef):stepOp P op r h' n=some ef∧qg h n ef:=by
 cases op<;>simp only[bY]at hc<;>first
  |(cases hc;done)
  |(simp only[stepOp]at hs;cases hs;done)
  |skip
 case makeMap t x=>cases x<;>simp only[stepOp]at hs<;>first | cases hs | cases hc
 case convert s d x=>
  simp only[stepOp]at hs⊢
  split at hs
  ·rename_i hd _;rw[hd]at hc;cases hc
  ·rename_i hd _;rw[hd]at hc;cases hc
  ·split at hs
   ·rename_i h1 h2
    rw[h1,hm _ _ h2]
    refine⟨hs,?_⟩
    split at hs
    ·cases hs;intro p hp;simp at hp;subst hp;exact .inl (by simp[h2])
    ·cases hs
   ·cases hs
  ·refine⟨hs,?_⟩
   split at hs
   ·cases hs;intro p hp;simp at hp;subst hp;exact .inr ⟨rfl,rfl⟩
   ·cases hs
  ·cases hs
 case store t a x=>
  simp only[stepOp]at hs⊢
  split at hs
  ·split at hs
   ·rename_i h1 h2 h3
    rw[hm _ _ h1,h2,h3]
    refine⟨hs,?_⟩
    split at hs
    ·cases hs;intro p hp;simp at hp;subst hp;exact .inl (by simp[h1])
    ·cases hs
   ·cases hs
  ·cases hs
 case mapUpdate t m k x=>
  simp only[stepOp]at hs⊢
  split at hs
  ·split at hs
   ·rename_i h1
    rw[hm _ _ h1]
    refine⟨hs,?_⟩
    repeat' split at hs
    all_goals first
     |(cases hs;intro p hp;simp at hp;subst hp;exact .inl (by simp[h1]))
     |cases hs
   ·cases hs
  ·cases hs
 case range t x=>
  simp only[stepOp]at hs⊢
  split at hs
  ·cases hs;exact⟨rfl,by intro p hp;simp at hp;subst hp;exact .inr ⟨rfl,rfl⟩⟩
  ·split at hs
   ·rename_i h1
    rw[hm _ _ h1]
    cases hs
    exact⟨rfl,by intro p hp;simp at hp;subst hp;exact .inr ⟨rfl,rfl⟩⟩
   ·cases hs
  ·cases hs
 case next x s=>
  cases s<;>simp only[stepOp]at hs⊢
  ·split at hs
   ·split at hs
    ·rename_i h1
     rw[hm _ _ h1]
     cases hs
     exact⟨rfl,by intro p hp;simp at hp⟩
    ·rename_i h1
     rw[hm _ _ h1]
     split at hs
     ·rename_i h2
      simp only
      rw[hm _ _ h2]
      cases hs
      exact⟨rfl,by intro p hp;simp at hp⟩
     ·rename_i h2
      simp only
      rw[hm _ _ h2]
      refine⟨hs,?_⟩
      split at hs
      ·cases hs;intro p hp;simp at hp
      ·split at hs
       ·cases hs
       ·cases hs;intro p hp;simp at hp;subst hp;exact .inl (by simp[h1])
     ·cases hs
    ·cases hs
   ·cases hs
  ·cases hs
 case entry x=>
  simp only[stepOp]at hs⊢
  split at hs
  ·split at hs
   ·rename_i h1
    rw[hm _ _ h1]
    split at hs
    ·rename_i h2
     simp only
     rw[hm _ _ h2]
     cases hs
     exact⟨rfl,by intro p hp;simp at hp⟩
    ·cases hs
   ·cases hs
  ·cases hs
 case call c=>
  obtain⟨callee,args,ats⟩:=c
  cases callee with
  |builtin b=>
   simp only[stepOp]at hs⊢
   split at hs
   ·cases b<;>simp only at hc<;>first
     |(cases hc;done)
     |(simp only[cK]at hs;cases hs;done)
     |exact AG hm sm hs
   ·cases hs
  |value f=>simp only[stepOp]at hs;cases hs
  |invoke a b=>simp only[stepOp]at hs;cases hs
theorem xK{k:Nat}{ob:O}:∀(us:List (Nat×Option O)) (H:Heap),(∀p∈us,p.1≠k)→bL (upd H k (some ob)) us=upd (bL H us) k (some ob)
 |[],H,_=>rfl
 |(i,o)::us,H,hne=>by
  simp only[bL]
  have hik:i≠k:=hne (i,o) sm
  have:upd (upd H k (some ob)) i o=upd (upd H i o) k (some ob):=by
   funext j
   unfold upd
   by_cases a:j=i
   ·subst a;simp[hik]
   ·simp[a]
  rw[this]
  exact xK us (upd H i o) fun p hp=>hne p (by simp[hp])
theorem wO{k:Nat}:∀(us:List (Nat×Option O)) (H:Heap),(∀p∈us,p.1≠k)→bL H us k=H k
 |[],H,_=>rfl
 |(i,o)::us,H,hne=>by
  simp only[bL]
  rw[wO us _ fun p hp=>hne p (by simp[hp]),br _ _ (Ne.symm (hne (i,o) sm))]
theorem kY{k:Nat}{ob:O}(hk:h k=none):ab h (upd h k (some ob)):=fun id o ho=>by
 rw[br];exact ho;rintro rfl;rw[hk]at ho;cases ho
theorem HA{op:Op}(hs:stepOp P op r h n=some ef):qg h n ef:=by
 cases hc:bY P op with
 |quiet=>obtain⟨h1,_⟩:=mi hc hs;intro p hp;rw[h1]at hp;simp at hp
 |fresh=>obtain⟨ob,h1,h2⟩:=qQ hc hs;intro p hp;rw[h1]at hp;simp at hp;subst hp;exact .inr ⟨rfl,h2⟩
 |eff=>exact(wX (h':=h) (fun _ _ x=>x) hc hs).2
end
structure cB(ε:Env)(m:Nat)(A:Tm)(a:Act):Prop where
 size:a.tmps.size=m
 defers:a.defers=[]
 val:∀t v,A t=some v→ba ε v (a.tmps.getD t undef)
noncomputable def aZ(A:Tm)(x:Operand):Option V:=@Operand.rec (fun _=>Option V) (fun t=>A t) (fun v=>oK v) (fun _=>none) (fun f=>some (.u (.fn f []))) x
def bR(A:Tm):Option Tmp→V→Tm
 |some d,v=>fun t=>if t=d then some v else A t
 |none,_=>A
theorem cB.mono{ε ε':Env}{m:Nat}{A:Tm}{a:Act}(h:cB ε m A a)(he:Le ε ε'):cB ε' m A a:=⟨h.size,h.defers,fun t v hv=>ba.mono he (h.val t v hv)⟩
theorem cB.sub{ε:Env}{m:Nat}{A B:Tm}{a:Act}(h:cB ε m A a)(hB:∀t v,B t=some v→A t=some v):cB ε m B a:=⟨h.size,h.defers,fun t v hv=>h.val t v (hB t v hv)⟩
theorem cB.eval{ε:Env}{m:Nat}{A:Tm}{a:Act}(h:cB ε m A a)(x:Operand)(u:V)(hx:aZ A x=some u):ba ε u (a.eval x):=by
 cases x with
 |tmp t=>exact h.val t u hx
 |const v=>exact uI hx ε
 |func f=>have hx:some _=some u:=hx;cases hx;exact⟨[],rfl,trivial⟩
 |global g=>have hx:none=some u:=hx;cases hx
theorem cB.put{ε:Env}{m:Nat}{A:Tm}{a:Act}(h:cB ε m A a){dst:Option Tmp}(hd:∀d,dst=some d→d<m){v:V}{rv:Value}(hv:ba ε v rv):cB ε m (bR A dst v) (a.put dst rv):=by
 cases dst with
 |none=>exact h
 |some d=>
  refine⟨by simp[Act.put,h.size],h.defers,fun t u hu=>?_⟩
  simp only[bR]at hu
  have hlt:=hd d rfl
  rw[←h.size]at hlt
  by_cases e:t=d
  ·subst e
   rw[if_pos rfl]at hu
   cases hu
   simp only[Act.put]
   rw[Array.getD_eq_getD_getElem?,Array.getElem?_setIfInBounds_self_of_lt hlt]
   exact hv
  ·rw[if_neg e]at hu
   simp only[Act.put]
   rw[Array.getD_eq_getD_getElem?,Array.getElem?_setIfInBounds_ne (Ne.symm e),←Array.getD_eq_getD_getElem?]
   exact h.val t u hu
theorem ri(ε:Env):ba ε cy undef:=⟨[],rfl,trivial⟩
/-- names are counted up, and only new ones are added -/
def cP(H:Heap)(n:Nat)(H':Heap)(n':Nat):Prop:=n≤n'∧∀k,H' k≠none→H k≠none∨(n≤k∧k<n')
theorem cP.refl(H:Heap)(n:Nat):cP H n H n:=⟨Nat.le_refl _,fun _ h=>.inl h⟩
theorem cP.trans{H H1 H2:Heap}{n n1 n2:Nat}(a:cP H n H1 n1)(b:cP H1 n1 H2 n2):cP H n H2 n2:=by
 obtain⟨a1,a2⟩:=a
 obtain⟨b1,b2⟩:=b
 refine⟨om,fun k hk=>?_⟩
 rcases b2 k hk with h | h
 ·rcases a2 k h with h | h
  ·exact .inl h
  ·exact .inr om
 ·exact .inr om
/-- what a call comes to -/
def aS(P:Program)(f:FuncId)(args:List V)(H:Heap)(n:Nat)(v:V)(H':Heap)(n':Nat):Prop:=
 cP H n H' n'∧∀ε w rargs,bh ε H w→cI ε n n'→aw (ba ε) args rargs→Calls P f rargs.toArray w fun e w'=>∃rv ε',e=.returned rv∧ba ε' v rv∧bt ε H n w ε' H' n' w'
/-- a function with a body -/
def bX (P : Program) (g : FuncId) : Bool := match P.funcs[g]? with | some fn => fn.body.isSome && fn.name != "runtime.NumGoroutine" | none => false
/-- an operation: what it yields, what the heap is then -/
inductive aE(P:Program)(o:Oper)(r:Operand→Option V)(H:Heap)(n:Nat):V→Heap→Nat→Prop where
 |prim (ef:Ef) (h:stepOp P o.op r H n=some ef):aE P o r H n ef.1 (bL H ef.2.1) (n+ef.2.2)
 |call (f:Operand) (xs:Array Operand) (ats:Array TypeId) (g:Nat) (caps:List F) (args:List V) (v:V) (H':Heap) (n':Nat) (ho:o.op=.call {callee:=.value f,args:=xs,argTypes:=ats})
  (hf:r f=some (.u (.fn g caps))) (ha:ct r xs.toList=some args) (hg:bX P g=true) (hc:aS P g (args++caps.map fun x=>.u (.f x)) H n v H' n'):aE P o r H n v H' n'
theorem aE.le{P:Program}{o:Oper}{r:Operand→Option V}{H H':Heap}{n n':Nat}{v:V}(J:aE P o r H n v H' n'):n≤n':=by
 cases J with
 |prim ef h=>omega
 |call f xs ats g caps args v H' n' ho hf ha hg hc=>exact hc.1.1
theorem aE.good{P:Program}{o:Oper}{r:Operand→Option V}{H H':Heap}{n n':Nat}{v:V}(J:aE P o r H n v H' n'):cP H n H' n':=by
 cases J with
 |prim ef h=>
  refine⟨om,fun k hk=>?_⟩
  have hT:=HA h
  by_cases hm:∃p∈ef.2.1,p.1=k
  ·obtain⟨p,hp,rfl⟩:=hm
   rcases hT p hp with h1 | ⟨h1,h2⟩
   ·exact .inl h1
   ·exact .inr om
  ·rw[wO _ _ fun p hp e=>hm ⟨p,hp,e⟩]at hk
   exact .inl hk
 |call f xs ats g caps args v H' n' ho hf ha hg hc=>exact hc.1
theorem vZ{ε:Env}:∀{caps:List F} {l:List Value},aw (aT ε) caps l→aw (ba ε) (caps.map fun x=>.u (.f x)) l
 |[],[],_=>trivial
 |_::_,_::_,H=>⟨H.1,vZ H.2⟩
 |[],_::_,H=>H.elim
 |_::_,[],H=>H.elim
section
variable {P:Program} {m:Nat} {ops:Array Oper}
theorem pB{o:Oper}{A:Tm}{H H':Heap}{n n':Nat}{v:V}(J:aE P o (aZ A) H n v H' n'){ε:Env}{a:Act}{w:World}(RA:cB ε m A a)(R:bh ε H w)(hf:cI ε n n'){K:Act→World→Prop}{Q:Exit→Act→World→Prop}
 (hK:∀ε' rv w',ba ε' v rv→bt ε H n w ε' H' n' w'→K (a.put o.dst rv) w'):o.wp P a w K Q:=by
 cases J with
 |prim ef h=>
  obtain⟨rv,w',ε',hrun,h2,h3⟩:=BK (P:=P) (ρ:=a.eval) RA.eval R h hf
  unfold Oper.wp
  rcases hrun with hrun | ⟨hrun,rfl⟩
  ·rw[hrun];exact hK ε' rv w' h2 h3
  ·rw[hrun];exact hK ε' undef w' h2 h3
 |call f xs ats g caps args v H' n' ho hfv ha hg hc=>
  obtain⟨l,hfe,hcaps⟩:=RA.eval f _ hfv
  have hargs:=oA RA.eval _ _ ha
  unfold bX at hg
  cases hfn:P.funcs[g]? with
  |none=>rw[hfn]at hg;cases hg
  |some fn=>
   rw[hfn]at hg
   simp only[Bool.and_eq_true,bne_iff_ne,ne_eq]at hg
   have hrun:(execOp a.eval o).run P w=.ok (.enter g (xs.map a.eval++l.toArray)) w:=by
    have h1 : (fn.name == "runtime.NumGoroutine") = false := by simpa using hg.2
    have h2:fn.body.isNone=false:=by
     cases hb:fn.body with
     |none=>rw[hb]at hg;simp at hg
     |some b=>rfl
    simp only[execOp,ho,resolve,hfe,Deferred.ofValue,Sem.run_bind,Sem.run_pure,Result.andThen_ok,invoke,callFunc,run_program,hfn,h1,h2,Bool.false_eq_true,if_false]
    simp
   unfold Oper.wp
   rw[hrun,Oper.upon_enter]
   have he:xs.map a.eval++l.toArray=(xs.toList.map a.eval++l).toArray:=by apply Array.ext';simp
   rw[he]
   refine Calls.mono (hc.2 ε w _ R hf (aw.append hargs ?_)) fun e w' hp=>?_
   ·exact vZ hcaps
   ·obtain⟨rv,ε',rfl,h1,h2⟩:=hp
    exact hK ε' rv w' h1 h2
/-- is an operation wanted? -/
def cF(ops:Array Oper)(A:Tm)(o:Oper):Option Bool:=
 match o.guard with
 |none=>some true
 |some (j,want)=>match(ops[j]?).bind (·.dst)with
  |some d=>match A d with
   |some (.u (.f (.bool b)))=>some (b == want)
   |some (.tup [])=>some false
   |_=>none
  |none=>none
theorem i7{A:Tm}{o:Oper}{b:Bool}(h:cF ops A o=some b){ε:Env}{a:Act}(RA:cB ε m A a):Region.wanted o (yielded ops a.tmps)=b:=by
 unfold cF at h
 unfold Region.wanted
 split at h
 ·rename_i hg;rw[hg];cases h;rfl
 ·rename_i j want hg
  rw[hg]
  simp only[yielded]
  split at h
  ·rename_i d hd
   rw[hd]
   simp only[Option.bind_some]
   split at h
   ·rename_i c hA
    cases h
    have hv:a.tmps.getD d undef=.bool c:=RA.val d _ hA
    have hlt:d<a.tmps.size:=by
     rcases Nat.lt_or_ge d a.tmps.size with h' | h'
     ·exact h'
     ·rw[Array.getD_eq_getD_getElem?,Array.getElem?_eq_none h']at hv;cases hv
    have hget:a.tmps[d]?=some (.bool c):=by
     rw[Array.getD_eq_getD_getElem?,Array.getElem?_eq_getElem hlt]at hv
     rw[Array.getElem?_eq_getElem hlt]
     simpa using hv
    rw[hget]
    cases c<;>cases want<;>rfl
   ·rename_i hA
    cases h
    obtain⟨l,hv,hl⟩:=RA.val d _ hA
    cases l with
    |cons _ _=>exact hl.elim
    |nil=>
     rw[Array.getD_eq_getD_getElem?]at hv
     cases hq:a.tmps[d]? with
     |none=>rfl
     |some u=>
      rw[hq]at hv
      simp only[Option.getD_some]at hv
      subst hv
      rfl
   ·cases h
  ·cases h
/-- operations, in the order of a list -/
inductive fW(P:Program)(m:Nat)(ops:Array Oper):List Nat→Tm→Heap→Nat→Tm→Heap→Nat→Prop where
 |nil (A:Tm) (H:Heap) (n:Nat):fW P m ops [] A H n A H n
 |skip (i:Nat) (rest:List Nat) (o:Oper) (A:Tm) (H:Heap) (n:Nat) (A':Tm) (H':Heap) (n':Nat) (ho:ops[i]?=some o) (hd:∀d,o.dst=some d→d<m) (hw:cF ops A o=some false)
  (h:fW P m ops rest (bR A o.dst cy) H n A' H' n'):fW P m ops (i::rest) A H n A' H' n'
 |op (i:Nat) (rest:List Nat) (o:Oper) (A:Tm) (H:Heap) (n:Nat) (v:V) (H1:Heap) (n1:Nat) (A':Tm) (H':Heap) (n':Nat) (ho:ops[i]?=some o) (hd:∀d,o.dst=some d→d<m) (hw:cF ops A o=some true)
  (J:aE P o (aZ A) H n v H1 n1) (h:fW P m ops rest (bR A o.dst v) H1 n1 A' H' n'):fW P m ops (i::rest) A H n A' H' n'
theorem fW.le{l:List Nat}{A A':Tm}{H H':Heap}{n n':Nat}(J:fW P m ops l A H n A' H' n'):n≤n':=by
 induction J with
 |nil=>exact Nat.le_refl _
 |skip i rest o A H n A' H' n' ho hd hw h ih=>exact ih
 |op i rest o A H n v H1 n1 A' H' n' ho hd hw J h ih=>exact Nat.le_trans J.le ih
theorem fW.good{l:List Nat}{A A':Tm}{H H':Heap}{n n':Nat}(J:fW P m ops l A H n A' H' n'):cP H n H' n':=by
 induction J with
 |nil=>exact cP.refl _ _
 |skip i rest o A H n A' H' n' ho hd hw h ih=>exact ih
 |op i rest o A H n v H1 n1 A' H' n' ho hd hw J h ih=>exact J.good.trans ih
theorem F8{l:List Nat}{A A':Tm}{H H':Heap}{n n':Nat}(J:fW P m ops l A H n A' H' n'):∀{ε:Env} {a:Act} {w:World} {Q:Exit→Act→World→Prop},cB ε m A a→bh ε H w→cI ε n n'→
 (∀ε' a' w',cB ε' m A' a'→bt ε H n w ε' H' n' w'→Q .normal a' w')→wpOps P ops Q l a w:=by
 induction J with
 |nil A H n=>intro ε a w Q RA R _ hQ;exact hQ ε a w RA (bt.refl R)
 |skip i rest o A H n A' H' n' ho hd hw h ih=>
  intro ε a w Q RA R hf hQ
  simp only[wpOps,ho,i7 hw RA,Bool.false_eq_true,if_false]
  exact ih (RA.put hd (ri ε)) R hf hQ
 |op i rest o A H n v H1 n1 A' H' n' ho hd hw J h ih=>
  intro ε a w Q RA R hf hQ
  simp only[wpOps,ho,i7 hw RA,if_true]
  refine .inl (pB J RA R (hf.sub (Nat.le_refl _) h.le) fun ε' rv w' h1 S=>(ih ((RA.mono S.ext).put hd h1) S.rel (S.free (hf.sub J.le (Nat.le_refl _)) (.inl (Nat.le_refl _))) fun ε2 a2 w2 RA2 S2=>hQ ε2 a2 w2 RA2 (S.trans S2)))
/-- code: from a state, by an exit, to a state -/
def bw(P:Program)(m:Nat)(c:Code)(A:Tm)(H:Heap)(n:Nat)(x:Exit)(A':Tm)(H':Heap)(n':Nat):Prop:=
 cP H n H' n'∧∀ε a w (Q:Exit→Act→World→Prop),cB ε m A a→bh ε H w→cI ε n n'→(∀ε' a' w',cB ε' m A' a'→bt ε H n w ε' H' n' w'→Q x a' w')→c.wp P Q a w
theorem bw.skip{A:Tm}{H:Heap}{n:Nat}:bw P m .skip A H n .normal A H n:=⟨cP.refl _ _,fun ε a w _ RA R _ hQ=>wp_skip (hQ ε a w RA (bt.refl R))⟩
theorem bw.exit{A:Tm}{H:Heap}{n i:Nat}:bw P m (.exit i) A H n (.exit i) A H n:=⟨cP.refl _ _,fun ε a w _ RA R _ hQ=>wp_exit (hQ ε a w RA (bt.refl R))⟩
theorem bw.ret{A:Tm}{H:Heap}{n:Nat}:bw P m .ret A H n .ret A H n:=⟨cP.refl _ _,fun ε a w _ RA R _ hQ=>wp_ret (hQ ε a w RA (bt.refl R))⟩
theorem bw.region{id:Nat}{A A':Tm}{H H':Heap}{n n':Nat}(J:fW P m ops (List.range ops.size) A H n A' H' n'):bw P m (.region id ops false) A H n .normal A' H' n':=
 ⟨J.good,fun _ _ _ _ RA R hf hQ=>wp_region (F8 J RA R hf hQ)⟩
theorem bw.seq{c d:Code}{A A1 A2:Tm}{H H1 H2:Heap}{n n1 n2:Nat}{x:Exit}(h:bw P m c A H n .normal A1 H1 n1)(k:bw P m d A1 H1 n1 x A2 H2 n2):bw P m (.seq c d) A H n x A2 H2 n2:=by
 refine⟨h.1.trans k.1,fun ε a w Q RA R hf hQ=>wp_seq (h.2 ε a w _ RA R (hf.sub (Nat.le_refl _) k.1.1) fun ε' a' w' RA' S=>?_)⟩
 exact k.2 ε' a' w' Q RA' S.rel (S.free (hf.sub h.1.1 (Nat.le_refl _)) (.inl (Nat.le_refl _))) fun ε2 a2 w2 RA2 S2=>hQ ε2 a2 w2 RA2 (S.trans S2)
theorem bw.seq_out{c d:Code}{A A1:Tm}{H H1:Heap}{n n1:Nat}{x:Exit}(h:bw P m c A H n x A1 H1 n1)(hx:x≠.normal):bw P m (.seq c d) A H n x A1 H1 n1:=by
 refine⟨h.1,fun ε a w Q RA R hf hQ=>wp_seq (h.2 ε a w _ RA R hf fun ε' a' w' RA' S=>?_)⟩
 cases x<;>first
  |exact absurd rfl hx
  |exact hQ ε' a' w' RA' S
theorem bw.cond{c:Operand}{x y:Code}{b:Bool}{A A1:Tm}{H H1:Heap}{n n1:Nat}{e:Exit}(hc:aZ A c=some (vf (.bool b)))(h:bw P m (if b then x else y) A H n e A1 H1 n1):bw P m (.cond c x y) A H n e A1 H1 n1:=
 ⟨h.1,fun ε a w Q RA R hf hQ=>wp_cond (RA.eval c _ hc) (h.2 ε a w Q RA R hf hQ)⟩
/-- behind a block -/
def mD(id:Nat):Exit→Exit
 |.exit j=>if j=id then .normal else .exit j
 |x=>x
theorem bw.block{id:Nat}{c:Code}{A A1:Tm}{H H1:Heap}{n n1:Nat}{x:Exit}(h:bw P m c A H n x A1 H1 n1):bw P m (.block id c) A H n (mD id x) A1 H1 n1:=by
 refine⟨h.1,fun ε a w Q RA R hf hQ=>wp_block (h.2 ε a w _ RA R hf fun ε' a' w' RA' S=>?_)⟩
 have:=hQ ε' a' w' RA' S
 cases x<;>first
  |exact this
  |(simp only[mD]at this; simp only[Exit.inBlock]; split at this<;>simp_all)
/-- rounds of a loop's body -/
def dH(P:Program)(m:Nat)(c:Code)(A:Tm)(H:Heap)(n:Nat)(x:Exit)(A':Tm)(H':Heap)(n':Nat):Prop:=
 cP H n H' n'∧∃k,∀ε a w (Q:Exit→Act→World→Prop),cB ε m A a→bh ε H w→cI ε n n'→(∀ε' a' w',cB ε' m A' a'→bt ε H n w ε' H' n' w'→Q x a' w')→Code.rounds P c Q k a w
theorem dH.last{c:Code}{A A1:Tm}{H H1:Heap}{n n1:Nat}{x:Exit}(h:bw P m c A H n x A1 H1 n1)(hx:x≠.normal):dH P m c A H n x A1 H1 n1:=by
 refine⟨h.1,1,fun ε a w Q RA R hf hQ=>?_⟩
 rw[rounds_succ]
 refine h.2 ε a w _ RA R hf fun ε' a' w' RA' S=>?_
 cases x<;>first
  |exact absurd rfl hx
  |exact hQ ε' a' w' RA' S
theorem dH.more{c:Code}{A A1 A2:Tm}{H H1 H2:Heap}{n n1 n2:Nat}{x:Exit}(h:bw P m c A H n .normal A1 H1 n1)(k:dH P m c A1 H1 n1 x A2 H2 n2):dH P m c A H n x A2 H2 n2:=by
 obtain⟨k1,r,k2⟩:=k
 refine⟨h.1.trans k1,r+1,fun ε a w Q RA R hf hQ=>?_⟩
 rw[rounds_succ]
 refine h.2 ε a w _ RA R (hf.sub (Nat.le_refl _) k1.1) fun ε' a' w' RA' S=>?_
 exact k2 ε' a' w' Q RA' S.rel (S.free (hf.sub h.1.1 (Nat.le_refl _)) (.inl (Nat.le_refl _))) fun ε2 a2 w2 RA2 S2=>hQ ε2 a2 w2 RA2 (S.trans S2)
theorem bw.loop{c:Code}{A A1:Tm}{H H1:Heap}{n n1:Nat}{x:Exit}(h:dH P m c A H n x A1 H1 n1):bw P m (.loop c) A H n x A1 H1 n1:=by
 obtain⟨h1,k,h2⟩:=h
 exact⟨h1,fun ε a w Q RA R hf hQ=>wp_loop_rounds k (h2 ε a w Q RA R hf hQ)⟩
theorem bw.weak{c:Code}{A B A' B':Tm}{H G' H':Heap}{n n' n2:Nat}{x:Exit}(h:bw P m c A H n x A' H' n')(hA:∀t v,A t=some v→B t=some v)(hA':∀t v,B' t=some v→A' t=some v)(hG':∀id o,G' id=some o→H' id=some o)(hn:n'≤n2):bw P m c B H n x B' G' n2:=
 ⟨⟨Nat.le_trans h.1.1 hn,fun k hk=>by
  rcases h.1.2 k (by cases hq:G' k with | none=>exact absurd hq hk | some o=>rw[hG' k o hq];simp)with h1 | h1
  ·exact .inl h1
  ·exact .inr om⟩,fun ε a w Q RA R hf hQ=>h.2 ε a w Q (RA.sub hA) R (hf.sub (Nat.le_refl _) hn) fun ε' a' w' RA' S=>hQ ε' a' w' (RA'.sub hA') ((S.sub hG').wide (Nat.le_refl _) hn)⟩
/-- what a function's results are, of its temporaries and the heap -/
noncomputable def c_(P:Program)(A:Tm)(h:Heap):List ResultVar→Option (List V)
 |[]=>some []
 |.tmp t::r=>match A t,c_ P A h r with
  |some v,some l=>some (v::l)
  |_,_=>none
 |.cell a t::r=>match A a,c_ P A h r with
  |some (.u (.f (.ptr id off))),some l=>match h id,h_ P t,cj P t with
   |some (.cells cs _),some true,some sz=>if off+sz≤cs.length then some (.u (.agg ((cs.drop off).take sz))::l)else none
   |some (.cells cs _),some false,some _=>match cs[off]? with | some x=>some (vf x::l) | none=>none
   |_,_,_=>none
  |_,_=>none
def kC:List V→Option (List U)
 |[]=>some []
 |.u x::r=>match kC r with | some l=>some (x::l) | none=>none
 |.tup _::_=>none
def g_:List V→Option V
 |[v]=>some v
 |l=>(kC l).map .tup
theorem xH{ε:Env}:∀{l:List V} {us:List U} {vs:List Value},kC l=some us→aw (ba ε) l vs→aw (bQ ε) us vs
 |[],us,[],h,_=>by simp only[kC]at h;cases h;trivial
 |.u x::r,us,v::vs,h,H=>by
  simp only[kC]at h
  split at h
  ·rename_i l hl
   cases h
   exact⟨H.1,xH hl H.2⟩
  ·cases h
 |.tup _::_,_,_,h,_=>by simp only[kC]at h;cases h
 |[],_,_::_,_,H=>H.elim
 |.u _::_,_,[],_,H=>H.elim
theorem r_{ε:Env}{A:Tm}{a:Act}{H:Heap}{w:World}(RA:cB ε m A a)(R:bh ε H w):∀(rs:List ResultVar) (vs:List V),c_ P A H rs=some vs→
 ∃l,(rs.mapM (fun(x:ResultVar)=>match x with
  |.tmp t=>(pure (a.tmps.getD t undef):Sem Value)
  |.cell b t=>do loadVar t (←asAddr (a.tmps.getD b undef)))).run P w=.ok l w∧aw (ba ε) vs l
 |[],vs,h=>by simp only[c_]at h;cases h;exact⟨[],rfl,trivial⟩
 |.tmp t::r,vs,h=>by
  simp only[c_]at h
  split at h
  ·rename_i v l hv hl
   cases h
   obtain⟨k,g1,g2⟩:=r_ RA R r l hl
   exact⟨_::k,by simp only[List.mapM_cons,Sem.run_bind,Sem.run_pure,Result.andThen_ok,g1],RA.val t v hv,g2⟩
  ·cases h
 |.cell b t::r,vs,h=>by
  simp only[c_]at h
  split at h
  ·rename_i id off l hv hl
   obtain⟨k,g1,g2⟩:=r_ RA R r l hl
   obtain⟨bl,K,he,ha⟩:=RA.val b _ hv
   split at h
   ·rename_i cs ex sz hc hag hsz
    obtain⟨i,hi,rfl⟩:=f_ hsz
    obtain⟨b',K',rcs,elem,fz,h1,h2,h3,h4,h5,h6⟩:=R.obj id _ hc
    rw[he]at h1;cases h1
    split at h
    ·rename_i hle
     cases h
     have hl:=i9 h4
     refine⟨.agg ((rcs.toList.drop off).take i.size).toArray::k,?_,⟨_,rfl,?_⟩,g2⟩
     ·have qa:(asAddr (a.tmps.getD b undef)).run P w=.ok ⟨bl,off,none⟩ w:=by rw[ha];rfl
      have q:(loadVar t ⟨bl,off,none⟩).run P w=.ok (.agg ((rcs.toList.drop off).take i.size).toArray) w:=by simp only[loadVar,Sem.run_bind,Sem.run_pure,Result.andThen_ok,kZ hag,if_true,db hi,nF h2 (show off+i.size≤rcs.size by omega)]
      rw[List.mapM_cons]
      simp only[Sem.run_bind,qa,q,Result.andThen_ok,g1,Sem.run_pure]
     ·have:=(h4.drop off).take i.size
      rw[List.drop_take,List.take_take,Nat.min_eq_left om]at this
      exact this
    ·cases h
   ·rename_i cs ex sz hc hag hsz
    obtain⟨b',K',rcs,elem,fz,h1,h2,h3,h4,h5,h6⟩:=R.obj id _ hc
    rw[he]at h1;cases h1
    split at h
    ·rename_i x hx
     cases h
     obtain⟨v,q1,q2⟩:=ya h4 hx
     refine⟨v::k,?_,q2,g2⟩
     have qa:(asAddr (a.tmps.getD b undef)).run P w=.ok ⟨bl,off,none⟩ w:=by rw[ha];rfl
     have q:(loadVar t ⟨bl,off,none⟩).run P w=.ok v w:=by simp only[loadVar,Sem.run_bind,Sem.run_pure,Result.andThen_ok,kZ hag,if_false,Bool.false_eq_true,run_load,gN h2,q1]
     rw[List.mapM_cons]
     simp only[Sem.run_bind,qa,q,Result.andThen_ok,g1,Sem.run_pure]
    ·cases h
   ·cases h
  ·cases h
theorem Bl{ε:Env}{A:Tm}{a:Act}{H:Heap}{w:World}{fn:Func}{vs:List V}{v:V}(RA:cB ε m A a)(R:bh ε H w)(h:c_ P A H fn.results.toList=some vs)(hv:g_ vs=some v):∃rv,(results fn a.tmps).run P w=.ok rv w∧ba ε v rv:=by
 obtain⟨l,g1,g2⟩:=r_ RA R _ _ h
 have hm:(results fn a.tmps).run P w=.ok (if h:l.toArray.size=1 then l.toArray[0]else .tuple l.toArray) w:=by
  simp only[results,Sem.run_bind,Array.mapM_eq_mapM_toList,Sem.run_map]
  refine Eq.trans (congrArg (fun r=>(Result.andThen r _).andThen _) (show _=Result.ok l w from g1)) ?_
  rfl
 cases vs with
 |nil=>
  cases l with
  |cons _ _=>exact g2.elim
  |nil=>simp only[g_,kC,Option.map_some]at hv;cases hv;exact⟨_,hm,[],rfl,trivial⟩
 |cons v1 vs=>
  cases vs with
  |nil=>
   cases l with
   |nil=>exact g2.elim
   |cons x l=>cases l with
    |nil=>simp only[g_]at hv;cases hv;exact⟨_,hm,g2.1⟩
    |cons _ _=>exact g2.2.elim
  |cons v2 vs=>
   simp only[g_,Option.map_eq_some_iff]at hv
   obtain⟨us,hu,rfl⟩:=hv
   have hl:=g2.length
   refine⟨_,hm,l,?_,xH hu g2⟩
   rw[dif_neg (by simp;simp at hl;omega)]
/-- temporaries at a call's begin -/
def pO(args:List V):Tm:=fun t=>args[t]?
theorem aS.of_runs{f:FuncId}{fn:Func}{c:Code}{args vs:List V}{A':Tm}{H H':Heap}{n n':Nat}{x:Exit}{v:V}(hf:P.funcs[f]?=some fn)(hb:fn.body=some c)(hn:args.length≤fn.ntmps)
 (h:bw P fn.ntmps c (pO args) H n x A' H' n') (hx:x=.normal∨x=.ret) (hr:c_ P A' H' fn.results.toList=some vs) (hv:g_ vs=some v):aS P f args H n v H' n':=by
 refine⟨h.1,fun ε w rargs R hfree hargs=>calls_of_wp hf hb ?_⟩
 have hl:=hargs.length
 refine h.2 ε _ w _ ⟨by simp;omega,rfl,fun t u hu=>?_⟩ R hfree fun ε' a' w' RA' S=>?_
 ·obtain⟨b,h1,h2⟩:=hargs.get t u hu
  rw[Array.getD_eq_getD_getElem?,Array.getElem?_append_left]
  ·simpa[h1]using h2
  ·rcases Nat.lt_or_ge t rargs.length with h' | h'
   ·simpa using h'
   ·rw[List.getElem?_eq_none h']at h1;cases h1
 ·obtain⟨rv,k1,k2⟩:=Bl RA' S.rel hr hv
  rcases hx with rfl | rfl
  ·exact⟨RA'.defers,rv,k1,rv,ε',rfl,k2,S⟩
  ·exact⟨RA'.defers,rv,k1,rv,ε',rfl,k2,S⟩
theorem aS.frame{f:FuncId}{args:List V}{H H':Heap}{n n':Nat}{v:V}{k:Nat}{ob:O}(hc:aS P f args H n v H' n')(hk:H k=none)(hk':H' k=none):aS P f args (upd H k (some ob)) n v (upd H' k (some ob)) n':=by
 have e:∀G:Heap,G k=none→upd G k (some ob)=G.or (upd (fun _=>none) k (some ob)):=by
  intro G hG
  funext j
  unfold Heap.or upd
  by_cases a:j=k
  ·subst a;simp[hG]
  ·simp[a]; cases G j<;>rfl
 refine⟨⟨hc.1.1,fun j hj=>?_⟩,fun ε w rargs R hf ha=>?_⟩
 ·by_cases a:j=k
  ·subst a;left;rw[bG];simp
  ·rw[br _ _ a]at hj⊢;exact hc.1.2 j hj
 refine Calls.mono (hc.2 ε w rargs (R.sub (kY hk)) hf ha) fun x w' hp=>?_
 obtain⟨rv,ε',h1,h2,S⟩:=hp
 refine⟨rv,ε',h1,h2,?_⟩
 rw[e H hk,e H' hk']
 rw[e H hk]at R
 refine S.frame R fun id hid=>?_
 rw[br]
 rintro rfl
 exact hid hk
end
end Go.Proofs.YtkimkgbppegkhaaGreat.Cm

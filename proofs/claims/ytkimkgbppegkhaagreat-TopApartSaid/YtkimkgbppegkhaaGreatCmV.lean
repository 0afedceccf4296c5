/- The clean machine, reckoned: what a reckoning tells holds; operations and regions in order. No program is walked here. · The clean machine, reckoned: a region that draws its order; code; calls. What a reckoning tells holds. No program is walked here. -/
import Derived.Test.YtkimkgbppegkhaaGreatCmR
set_option linter.unusedVariables false
set_option linter.unusedSimpArgs false
namespace Go.Proofs.YtkimkgbppegkhaaGreat.Cm
open Go Go.RowKit
/-- from a name on nothing lies there -/
def ap(H:Heap)(n:Nat):Prop:=∀k,n≤k→H k=none
theorem cP.top{H H':Heap}{n n':Nat}(h:cP H n H' n')(ht:ap H n):ap H' n':=fun k hk=>by
 cases hq:H' k with
 |none=>rfl
 |some o=>
  rcases h.2 k (by simp[hq])with h1 | h1
  ·exact absurd (ht k (Nat.le_trans h.1 hk)) h1
  ·omega
/-- a reckoning of calls that tells the truth -/
def bN.Ok(P:Program)(call:bN):Prop:=∀f args H n v H' n',ap H.get n→call f args H n=some (v,H',n')→aS P f args H.get n v H'.get n'
theorem ua:∀{us:List (Nat×Option O)},k_ us=true→∀p∈us,p.1<dU
 |[],_,p,hp=>by cases hp
 |q::us,h,p,hp=>by
  simp only[k_]at h
  split at h
  ·rename_i hq
   rcases List.mem_cons.1 hp with rfl | hp
   ·have:=Nat.le_of_ble_eq_true hq;omega
   ·exact ua h p hp
  ·cases h
theorem w_:∀(us:List (Nat×Option O)) (H:T O),(∀p∈us,p.1<dU)→(nk H us).get=bL H.get us
 |[],H,_=>rfl
 |(i,o)::us,H,h=>by
  simp only[nk,bL]
  rw[w_ us _ fun p hp=>h p (by simp[hp])]
  congr 1
  funext j
  rw[T.get_set _ _ _ (h (i,o) sm)]
  rfl
theorem oD(A:T V)(dst:Option Tmp)(v:V)(hd:∀d,dst=some d→d<dU):(lW A dst v).get=bR A.get dst v:=by
 cases dst with
 |none=>rfl
 |some d=>
  funext t
  show(A.set d (some v)).get t=_
  rw[T.get_set _ _ _ (hd d rfl)]
  rfl
theorem Ba{A:T V}{dst:Option Tmp}{H:T O}{n:Nat}{o:Option Ef}{s:St}(hd:∀d,dst=some d→d<dU)(h:yZ A dst H n o=some s):
 ∃ef,o=some ef∧s.A.get=bR A.get dst ef.1∧s.H.get=bL H.get ef.2.1∧s.n=n+ef.2.2:=by
 cases o with
 |none=>cases h
 |some ef=>
  obtain⟨v,us,j⟩:=ef
  cases us with
  |nil=>cases h;exact⟨_,rfl,oD _ _ _ hd,rfl,rfl⟩
  |cons u us=>
   have h:@Bool.rec (fun _=>Option St) none (some ⟨lW A dst v,nk H (u::us),Nat.add n j⟩) (k_ (u::us))=some s:=h
   cases hk:k_ (u::us)with
   |false=>rw[hk]at h;cases h
   |true=>
    rw[hk]at h
    cases h
    exact⟨_,rfl,oD _ _ _ hd,w_ _ _ (ua hk),rfl⟩
theorem wD{v:V}{b:Bool}(h:j9 v=some b):v=vf (.bool b):=by
 cases v with
 |tup l=>cases h
 |u u=>
  cases u with
  |f x=>cases x<;>first | (cases h; done)|(cases h; rfl)
  |agg l=>cases h
  |fn a b=>cases h
theorem b9{α β:Type}{o:Option α}{k:α→Option β}{y:β}(h:bC o k=some y):∃x,o=some x∧k x=some y:=by
 cases o with
 |none=>cases h
 |some x=>exact⟨x,rfl,h⟩
theorem G0(a b:Bool):tW a b=(a == b):=by cases a<;>cases b<;>rfl
def zA(want:Bool)(o:Option V):Option Bool:=match o with | some (.u (.f (.bool c)))=>some (c == want) | some (.tup [])=>some false | _=>none
theorem uU{want:Bool}{o:Option V}{b:Bool}(h:td want o=some b):zA want o=some b:=by
 cases o with
 |none=>cases h
 |some v=>
  cases v with
  |tup l=>cases l<;>first | (cases h; done) | exact h
  |u u=>
   have h:bC (j9 (.u u)) (fun b=>some (tW b want))=some b:=h
   obtain⟨c,h1,h2⟩:=b9 h
   have h3:=wD h1
   cases h3
   rw[G0]at h2
   exact h2
theorem xq{ops:Array Oper}{A:Tm}{o:Oper}{j:Nat}{want:Bool}{d:Tmp}(hg:o.guard=some (j,want))(hd:(ops[j]?).bind (·.dst)=some d):cF ops A o=zA want (A d):=by
 unfold cF
 rw[hg]
 simp only
 rw[hd]
 rfl
section
variable {P:Program} {m:Nat} {ops:Array Oper} {call:bN}
theorem BT{A:T V}{o:Oper}{b:Bool}(h:th ops A o=some b):cF ops A.get o=some b:=by
 unfold th at h
 split at h
 ·rename_i hg;unfold cF;rw[hg];exact h
 ·rename_i j want hg
  split at h
  ·rename_i d hd
   rw[xq hg hd]
   exact uU h
  ·cases h
theorem B7(hc:bN.Ok P call){dst:Option Tmp}(hd:∀d,dst=some d→d<dU){A:T V}{H:T O}{n:Nat}(ht:ap H.get n){f:Option V}{args:Option (List V)}{s:St}(h:tt P call dst A H n f args=some s):
 ∃g caps l v,f=some (.u (.fn g caps))∧args=some l∧bX P g=true∧aS P g (l++caps.map fun x=>.u (.f x)) H.get n v s.H.get s.n∧s.A.get=bR A.get dst v:=by
 unfold tt at h
 split at h
 ·split at h
  ·rename_i hg
   split at h
   ·rename_i hr
    cases h
    exact⟨_,_,_,_,rfl,rfl,hg,hc _ _ _ _ _ _ _ ht hr,oD _ _ _ hd⟩
   ·cases h
  ·cases h
 ·cases h
theorem wn(hc:bN.Ok P call){o:Oper}(hd:∀d,o.dst=some d→d<dU){A:T V}{H:T O}{n:Nat}(ht:ap H.get n){s:St}(h:(p' P o.dst (jw P o.op)).st call A H n=some s):
 ∃v,aE P o (aZ A.get) H.get n v s.H.get s.n∧s.A.get=bR A.get o.dst v:=by
 unfold p' at h
 cases hk:jw P o.op with
 |prim run=>
  rw[hk]at h
  obtain⟨ef,h1,h2,h3,h4⟩:=Ba hd h
  rw[EU hk]at h1
  refine⟨ef.1,?_,h2⟩
  rw[h3,h4]
  exact .prim ef h1
 |call f xs=>
  rw[hk]at h
  obtain⟨ats,ho⟩:=EF hk
  obtain⟨g,caps,l,v,h1,h2,h3,h4,h5⟩:=B7 hc hd ht h
  exact⟨v,.call f xs.toArray ats g caps l v _ _ ho h1 (by simpa using h2) h3 h4,h5⟩
theorem xd(hc:bN.Ok P call){o:Oper}(hd:∀d,o.dst=some d→d<dU){A:T V}{H:T O}{n:Nat}(ht:ap H.get n){s:St}(h:(nD P ops o).st call A H n=some s):
 (cF ops A.get o=some false∧s.A.get=bR A.get o.dst cy∧s.H=H∧s.n=n)∨(cF ops A.get o=some true∧∃v,aE P o (aZ A.get) H.get n v s.H.get s.n∧s.A.get=bR A.get o.dst v):=by
 unfold nD at h
 cases hg:o.guard with
 |none=>
  rw[hg]at h
  exact .inr ⟨by unfold cF;rw[hg],wn hc hd ht h⟩
 |some q=>
  obtain⟨j,want⟩:=q
  rw[hg]at h
  simp only at h
  split at h
  ·rename_i d hdj
   obtain⟨b,h1,h2⟩:=b9 h
   have hw:cF ops A.get o=some b:=by
    rw[xq hg hdj]
    exact uU h1
   cases b with
   |false=>
    cases h2
    exact .inl ⟨hw,oD _ _ _ hd,rfl,rfl⟩
   |true=>exact .inr ⟨hw,wn hc hd ht h2⟩
  ·cases h
theorem CF{o:Option St}{k:T V→T O→Nat→Option St}{s:St}(h:te o k=some s):∃s1,o=some s1∧k s1.A s1.H s1.n=some s:=by
 cases o with
 |none=>cases h
 |some s1=>exact⟨s1,rfl,h⟩
theorem u5(hc:bN.Ok P call)(hd:∀o∈ops.toList,∀d,o.dst=some d→d<m∧d<dU):∀(l:List Oper) (k:Nat),ops.toList.drop k=l→∀(A:T V) (H:T O) (n:Nat) (s:St),ap H.get n→
 ng call (lV P ops l) A H n=some s→fW P m ops (List.range' k l.length) A.get H.get n s.A.get s.H.get s.n
 |[],k,hl,A,H,n,s,ht,h=>by cases h;exact .nil _ _ _
 |o::l,k,hl,A,H,n,s,ht,h=>by
  have hk:k<ops.toList.length:=by
   rcases Nat.lt_or_ge k ops.toList.length with h' | h'
   ·exact h'
   ·rw[List.drop_of_length_le h']at hl;cases hl
  have ho:ops[k]?=some o:=by
   have:=congrArg List.head? hl
   rw[List.head?_drop]at this
   simpa using this
  have hl':ops.toList.drop (k+1)=l:=by
   have:=congrArg List.tail hl
   rw[List.tail_drop]at this
   simpa using this
  have hmem:o∈ops.toList:=by
   have:o∈ops.toList.drop k:=by rw[hl];simp
   exact List.mem_of_mem_drop this
  have hdo:=hd o hmem
  have h:te ((nD P ops o).st call A H n) (ng call (lV P ops l))=some s:=h
  obtain⟨s1,h1,h2⟩:=CF h
  have hs:=xd hc (fun d hd'=>(hdo d hd').2) ht h1
  have ht1:ap s1.H.get s1.n:=by
   rcases hs with⟨g1,g2,g3,g4⟩|⟨g1,v,g2,g3⟩
   ·rw[g3,g4];exact ht
   ·exact g2.good.top ht
  have ih:=u5 hc hd l (k+1) hl' _ _ _ _ ht1 h2
  rw[List.length_cons,List.range'_succ]
  rcases hs with⟨g1,g2,g3,g4⟩|⟨g1,v,g2,g3⟩
  ·rw[g2,g3,g4]at ih
   exact .skip k _ o _ _ _ _ _ _ ho (fun d hd'=>(hdo d hd').1) g1 ih
  ·rw[g3]at ih
   exact .op k _ o _ _ _ v _ _ _ _ _ ho (fun d hd'=>(hdo d hd').1) g1 g2 ih
end
end Go.Proofs.YtkimkgbppegkhaaGreat.Cm
namespace Go.Proofs.YtkimkgbppegkhaaGreat.Cm
open Go Go.RowKit
/-- what stands ahead of an operation, by its edges -/
noncomputable def o0(b:Nat→Nat):List Edge→Nat→Nat
 |[],u=>u
 |e::r,u=>o0 b r (match Region.binds .any e with | true=>Nat.lor (Nat.lor u (Nat.pow 2 e.on)) (b e.on) | false=>u)
theorem uB{b:Nat→Nat}{x:Nat}:∀{l:List Edge} {u:Nat},(o0 b l u).testBit x=true→u.testBit x=true∨∃e∈l,Region.binds .any e=true∧(e.on=x∨(b e.on).testBit x=true)
 |[],u,h=>.inl h
 |e::r,u,h=>by
  rcases uB (l:=r) h with h1 | ⟨e',h1,h2⟩
  ·split at h1
   ·rename_i hb
    have h1:((u ||| 2 ^ e.on) ||| b e.on).testBit x=true:=h1
    rw[Nat.testBit_or,Nat.testBit_or,Bool.or_eq_true,Bool.or_eq_true]at h1
    rcases h1 with(h1 | h1) | h1
    ·exact .inl h1
    ·rw[Nat.testBit_two_pow]at h1
     exact .inr ⟨e,sm,hb,.inl (by simpa using h1)⟩
    ·exact .inr ⟨e,sm,hb,.inr h1⟩
   ·exact .inl h1
  ·exact .inr ⟨e',by simp[h1],h2⟩
noncomputable def p9(b:Nat→Nat):List Oper→Nat→Bool
 |[],_=>true
 |o::r,i=>match Nat.beq (Nat.land (b i) (o0 b o.after.toList 0)) (b i)with
  |true=>p9 b r (Nat.succ i)
  |false=>false
theorem wo{b:Nat→Nat}:∀{l:List Oper} {k:Nat},p9 b l k=true→∀y oy,l[y]?=some oy→∀x,(b (k+y)).testBit x=true→∃e∈oy.after,Region.binds .any e=true∧(e.on=x∨(b e.on).testBit x=true)
 |[],_,_,y,oy,h,_,_=>by simp at h
 |o::r,k,hc,y,oy,h,x,hx=>by
  simp only[p9]at hc
  split at hc
  ·rename_i hl
   cases y with
   |zero=>
    simp only[List.getElem?_cons_zero,Option.some.injEq]at h
    subst h
    have hl:=Nat.eq_of_beq_eq_true hl
    have hl:b k &&& o0 b o.after.toList 0=b k:=hl
    rw[Nat.add_zero,←hl,Nat.testBit_and,Bool.and_eq_true]at hx
    rcases uB hx.2 with h1 | h1
    ·simp at h1
    ·simpa using h1
   |succ y=>exact wo hc y oy (by simpa using h) x (by rw[show k+1+y=k+(y+1)by omega];exact hx)
  ·cases hc
/-- a row of unlike numbers below a bound -/
noncomputable def pM(k:Nat):List Nat→Nat→Bool
 |[],_=>true
 |i::r,mask=>match Nat.ble (Nat.succ i) k,Nat.testBit mask i with
  |true,false=>pM k r (Nat.lor mask (Nat.pow 2 i))
  |_,_=>false
theorem vu{k:Nat}:∀{l:List Nat} {mask:Nat},pM k l mask=true→l.Nodup∧∀i∈l,i<k∧mask.testBit i=false
 |[],_,_=>⟨List.nodup_nil,fun i h=>by cases h⟩
 |i::r,mask,h=>by
  simp only[pM]at h
  split at h
  ·rename_i h1 h2
   obtain⟨h3,h4⟩:=vu h
   have hn:∀j∈r,j<k∧j≠i∧mask.testBit j=false:=fun j hj=>by
    obtain⟨h5,h6⟩:=h4 j hj
    have h6:(mask ||| 2 ^ i).testBit j=false:=h6
    rw[Nat.testBit_or,Bool.or_eq_false_iff,Nat.testBit_two_pow]at h6
    exact⟨h5,fun e=>by subst e;simp at h6,h6.1⟩
   refine⟨List.nodup_cons.2 ⟨fun hi=>(hn i hi).2.1 rfl,h3⟩,fun j hj=>?_⟩
   rcases List.mem_cons.1 hj with rfl | hj
   ·exact⟨Nat.le_of_ble_eq_true h1,h2⟩
   ·exact⟨(hn j hj).1,(hn j hj).2.2⟩
  ·cases h
/-- all numbers below a bound are there -/
noncomputable def pX(L:List Nat):Nat→Bool
 |0=>true
 |k+1=>match L.elem k with | true=>pX L k | false=>false
theorem uX{L:List Nat}:∀{k:Nat},pX L k=true→∀i,i<k→i∈L
 |0,_,i,h=>by omega
 |k+1,h,i,hi=>by
  simp only[pX]at h
  split at h
  ·rename_i h1
   by_cases e:i=k
   ·subst e;simpa using h1
   ·exact uX h i om
  ·cases h
/-- each edge's end stands ahead -/
noncomputable def pv(mask:Nat):List Edge→Bool
 |[]=>true
 |e::r=>match Region.binds .any e,Nat.testBit mask e.on with
  |true,false=>false
  |_,_=>pv mask r
theorem uM{mask:Nat}:∀{l:List Edge},pv mask l=true→∀e∈l,Region.binds .any e=true→mask.testBit e.on=true
 |[],_,e,he,_=>by cases he
 |x::r,h,e,he,hb=>by
  simp only[pv]at h
  split at h
  ·cases h
  ·rename_i hne
   rcases List.mem_cons.1 he with rfl | he
   ·cases hq:mask.testBit e.on with
    |true=>rfl
    |false=>exact absurd hq (hne hb)
   ·exact uM h e he hb
noncomputable def qp(ops:Array Oper):List Nat→Nat→Bool
 |[],_=>true
 |i::r,mask=>match ops[i]? with
  |some o=>match pv mask o.after.toList with
   |true=>qp ops r (Nat.lor mask (Nat.pow 2 i))
   |false=>false
  |none=>false
theorem vU{ops:Array Oper}:∀{l:List Nat} {mask:Nat} {ls:Array Bool},qp ops l mask=true→ls.size=ops.size→(∀j,mask.testBit j=true→ls.getD j false=true)→fJ ops ls l
 |[],_,_,_,_,_=>trivial
 |i::r,mask,ls,h,hs,hm=>by
  simp only[qp]at h
  split at h
  ·rename_i o ho
   split at h
   ·rename_i ha
    have hi:i<ops.size:=(Array.getElem?_eq_some_iff.1 ho).1
    refine⟨fun o' ho' e he hb=>?_,vU h (by simp[hs]) fun j hj=>?_⟩
    ·rw[ho]at ho';cases ho'
     exact hm _ (uM ha e (by simpa using he) hb)
    ·have hj:(mask ||| 2 ^ i).testBit j=true:=hj
     rw[Nat.testBit_or,Bool.or_eq_true,Nat.testBit_two_pow]at hj
     by_cases e:i=j
     ·subst e
      have:i<ls.size:=by omega
      simp[this]
     ·rw[getD_set_ne _ e]
      rcases hj with hj | hj
      ·exact hm j hj
      ·exact absurd (by simpa using hj) e
   ·cases h
  ·cases h
/-- two operations, one standing ahead: bound, or free to be swapped -/
noncomputable def tn(P:Program)(b:Nat→Nat)(ops:Array Oper)(x y:Nat):Bool:=match Nat.testBit (b y) x with
 |true=>true
 |false=>match Nat.testBit (b x) y,ops[x]?,ops[y]? with
  |false,some ox,some oy=>match ox.apart ops oy with
   |true=>match bY P oy.op,bY P ox.op with
    |.eff,.quiet=>true
    |.eff,_=>false
    |_,_=>true
   |false=>false
  |_,_,_=>false
def lN(P:Program)(ops:Array Oper)(b:Nat→Nat)(x y:Nat):Prop:=(b y).testBit x=true∨((b x).testBit y=false∧∀ox oy,ops[x]?=some ox→ops[y]?=some oy→ox.apart ops oy=true∧(bY P oy.op=.eff→bY P ox.op=.quiet))
theorem CE{P:Program}{b:Nat→Nat}{ops:Array Oper}{x y:Nat}(h:tn P b ops x y=true):lN P ops b x y:=by
 unfold tn at h
 split at h
 ·rename_i h1;exact .inl h1
 ·split at h
  ·rename_i ox oy h1 h2 h3
   split at h
   ·rename_i h4
    refine .inr ⟨h1,fun ox' oy' e1 e2=>?_⟩
    rw[h2]at e1;cases e1
    rw[h3]at e2;cases e2
    refine⟨h4,fun he=>?_⟩
    split at h
    ·assumption
    ·cases h
    ·rename_i hne _
     exact absurd he (by intro he;exact hne he)
   ·cases h
  ·cases h
noncomputable def pp(P:Program)(b:Nat→Nat)(ops:Array Oper)(x:Nat):List Nat→Bool
 |[]=>true
 |y::r=>match tn P b ops x y with | true=>pp P b ops x r | false=>false
noncomputable def pr(P:Program)(b:Nat→Nat)(ops:Array Oper):List Nat→Bool
 |[]=>true
 |x::r=>match pp P b ops x r with | true=>pr P b ops r | false=>false
theorem uC{P:Program}{b:Nat→Nat}{ops:Array Oper}{x:Nat}:∀{l:List Nat},pp P b ops x l=true→∀y∈l,lN P ops b x y
 |[],_,y,h=>by cases h
 |z::r,h,y,hy=>by
  simp only[pp]at h
  split at h
  ·rename_i h1
   rcases List.mem_cons.1 hy with rfl | hy
   ·exact CE h1
   ·exact uC h y hy
  ·cases h
theorem ut{P:Program}{b:Nat→Nat}{ops:Array Oper}:∀{l:List Nat},pr P b ops l=true→l.Pairwise (lN P ops b)
 |[],_=>List.Pairwise.nil
 |x::r,h=>by
  simp only[pr]at h
  split at h
  ·rename_i h1
   exact List.pairwise_cons.2 ⟨uC h1,ut h⟩
  ·cases h
noncomputable def mG(P:Program)(b:Nat→Nat)(ops:Array Oper)(L:List Nat):Bool:=match p9 b ops.toList 0,pM ops.size L 0,Nat.beq L.length ops.size,pX L ops.size,qp ops L 0,pr P b ops L with
 |true,true,true,true,true,true=>true
 |_,_,_,_,_,_=>false
theorem ue{P:Program}{b:Nat→Nat}{ops:Array Oper}{L:List Nat}(h:mG P b ops L=true):
 (∀y oy,ops[y]?=some oy→∀x,(b y).testBit x=true→∃e∈oy.after,Region.binds .any e=true∧(e.on=x∨(b e.on).testBit x=true))∧L.Nodup∧(∀i,i∈L↔i<ops.size)∧L.length=ops.size∧fJ ops (Array.replicate ops.size false) L∧L.Pairwise (lN P ops b):=by
 unfold mG at h
 split at h
 ·rename_i h1 h2 h3 h6 h4 h5
  obtain⟨k1,k2⟩:=vu h2
  have h3:=Nat.eq_of_beq_eq_true h3
  refine⟨fun y oy hy x hx=>wo h1 y oy (by simpa using hy) x (by simpa using hx),k1,fun i=>⟨fun hi=>(k2 i hi).1,uX h6 i⟩,h3,vU h4 sm fun j hj=>by simp at hj,ut h5⟩
 ·cases h
theorem od{P:Program}{r:Operand→Option V}{h h':Heap}{n n':Nat}{op:Op}(hc:bY P op=.quiet)(hr:jW op=false):stepOp P op r h n=stepOp P op r h' n':=by
 cases op<;>simp only[bY]at hc<;>first
  |(cases hc;done)
  |rfl
  |(cases hr;done)
  |skip
 case makeMap t x=>cases x<;>simp only at hc<;>cases hc
 case unOp op t x=>cases op<;>rfl
 case makeFunc fn a b=>cases fn<;>rfl
 case call c=>
  obtain⟨callee,args,ats⟩:=c
  cases callee with
  |builtin b=>
   simp only[stepOp]
   cases b<;>simp only at hc<;>first
    |(cases hc;done)
    |(cases hr;done)
    |skip
   all_goals split<;>rfl
  |value f=>cases hc
  |invoke a b=>cases hc
theorem oZ{a b:F}(h:lU a b=true):a=b:=by
 cases a<;>cases b<;>simp_all [lU]
theorem jM{α:Type}{f:α→α→Bool}(hf:∀a b,f a b=true→a=b):∀{l k:List α},ii f l k=true→l=k
 |[],[],_=>rfl
 |a::l,b::k,h=>by
  simp only[ii,Bool.and_eq_true]at h
  rw[hf _ _ h.1,jM hf h.2]
 |[],_::_,h=>by cases h
 |_::_,[],h=>by cases h
theorem oM{a b:U}(h:lZ a b=true):a=b:=by
 cases a<;>cases b<;>simp only[lZ,Bool.and_eq_true,beq_iff_eq]at h<;>first
  |(cases h;done)
  |(rw[oZ h])
  |(rw[jM (fun _ _=>oZ) h])
  |(rw[h.1,jM (fun _ _=>oZ) h.2])
theorem mE{a b:V}(h:j6 a b=true):a=b:=by
 cases a<;>cases b<;>simp only[j6]at h<;>first
  |(cases h;done)
  |(rw[oM h])
  |(rw[jM (fun _ _=>oM) h])
theorem F'{a b:Option V}(h:tN a b=true):a=b:=by
 cases a<;>cases b<;>simp only[tN]at h<;>first
  |rfl
  |(cases h;done)
  |(rw[mE h])
section
variable {P:Program} {m:Nat} {ops:Array Oper} {b:Nat→Nat} {call:bN} {D:gt}
/-- what a quiet operation reads of an object -/
noncomputable def j_(P:Program)(q:fH)(ob:Option O):Option V:=if q.want=true then(stepOp P q.o.op (aZ q.A.get) (fun _=>ob) 0).map (·.1)else none
/-- the plan is what was done -/
def qn(P:Program)(D:gt)(q:fH):Prop:=D.lo q.i=q.lo∧D.hi q.i=q.hi∧D.rid q.i=cw (aZ q.A.get) q.o.op∧∀ob,D.fq q.i ob=j_ P q ob
noncomputable def ph(P:Program)(rs:List fH):gt where
 lo i:=match rs.find? (fun q=>q.i == i)with | some q=>q.lo | none=>0
 hi i:=match rs.find? (fun q=>q.i == i)with | some q=>q.hi | none=>0
 rid i:=match rs.find? (fun q=>q.i == i)with | some q=>cw (aZ q.A.get) q.o.op | none=>0
 fq i:=match rs.find? (fun q=>q.i == i)with | some q=>j_ P q | none=>fun _=>none
theorem vp:∀{rs:List fH},(rs.map (·.i)).Nodup→∀q∈rs,rs.find? (fun x=>x.i == q.i)=some q
 |[],_,q,h=>by cases h
 |x::rs,hn,q,h=>by
  rw[List.map_cons,List.nodup_cons]at hn
  rcases List.mem_cons.1 h with rfl | h
  ·simp
  ·rw[List.find?_cons]
   have hne:(x.i == q.i)=false:=by
    simp only[beq_eq_false_iff_ne]
    intro e
    exact hn.1 (by rw[e];exact List.mem_map_of_mem h)
   rw[hne]
   exact vp hn.2 q h
theorem BA{rs:List fH}(hn:(rs.map (·.i)).Nodup)(q:fH)(hq:q∈rs):qn P (ph P rs) q:=by
 have h:=vp hn q hq
 refine⟨?_,?_,?_,fun ob=>?_⟩<;>simp only[ph,h]
theorem pG{i:Nat}{o:Oper}{A:Tm}{H H1:Heap}{n n1:Nat}{v:V}(hw:cF ops A o=some true)(J:aE P o (aZ A) H n v H1 n1)(h1:D.lo i=n)(h2:D.hi i=n1)(h3:D.rid i=cw (aZ A) o.op)
 (h4:∀ob,D.fq i ob=(stepOp P o.op (aZ A) (fun _=>ob) 0).map (·.1)):cU P ops D i o A H v H1∧(bY P o.op=.quiet→H1=H):=by
 have prim:bY P o.op≠.eff→∃ef,stepOp P o.op (aZ A) H n=some ef∧v=ef.1∧H1=bL H ef.2.1∧n1=n+ef.2.2:=by
  intro hne
  cases J with
  |prim ef h=>exact⟨ef,h,rfl,rfl,rfl⟩
  |call f xs ats g caps args v H' n' ho hf ha hg hc=>exact absurd (by rw[ho];rfl) hne
 cases hc:bY P o.op with
 |quiet=>
  obtain⟨ef,g1,g2,g3,g4⟩:=prim (by rw[hc];simp)
  obtain⟨g5,g6⟩:=mi hc g1
  rw[g5]at g3
  have e:H1=H:=g3
  subst e
  refine⟨.quiet v hw hc h3 h4 ?_,fun _=>rfl⟩
  rw[h4,h3]
  have e:=nV (P:=P) (r:=aZ A) (h:=fun _=>H1 (cw (aZ A) o.op)) (h':=H1) (n:=0) (n':=n) hc rfl
  rw[e,g1,g2]
  rfl
 |fresh=>
  obtain⟨ef,g1,g2,g3,g4⟩:=prim (by rw[hc];simp)
  obtain⟨ob,g5,g6⟩:=qQ hc g1
  rw[g5]at g3
  rw[←h1]at g3
  have e:H1=upd H (D.lo i) (some ob):=g3
  subst e
  refine⟨.fresh v ob hw hc ?_ (by rw[h2,h1,g4,g6]),fun hh=>by cases hh⟩
  rw[h1,g1,g2]
  obtain⟨a,b,c⟩:=ef
  simp only at g5 g6
  rw[g5,g6]
 |eff=>exact⟨.eff v H1 hw hc (by rw[h1,h2];exact J),fun hh=>by cases hh⟩
theorem vo(hc:bN.Ok P call)(hd:∀(i:Nat) (o:Oper),ops[i]?=some o→∀d,o.dst=some d→d<m∧d<dU):∀(L:List Nat) (s:St) (rs:List fH) (s':St),ap s.H.get s.n→lO P call ops L s=some (rs,s')→
 rs.map (·.i)=L∧cP s.H.get s.n s'.H.get s'.n∧(∀q∈rs,ops[q.i]?=some q.o∧s.n≤q.lo∧q.lo≤q.hi∧q.hi≤s'.n∧((q.want=false∨bY P q.o.op=.quiet)→q.H'.get=q.H.get))∧rs.Pairwise (fun x y=>x.hi≤y.lo)∧
 ∀(D:gt),(∀q∈rs,qn P D q)→(∀q∈rs,fT P ops b D q.i q.H.get q.H'.get)→iR P m ops b D L s.A.get s.H.get s'.A.get s'.H.get
 |[],s,rs,s',ht,h=>by
  cases h
  exact⟨rfl,cP.refl _ _,fun q hq=>(by cases hq),List.Pairwise.nil,fun D _ _=>.nil _ _⟩
 |i::L,s,rs,s',ht,h=>by
  simp only[lO]at h
  split at h
  ·rename_i o ho
   split at h
   ·rename_i s1 h1
    split at h
    ·rename_i rs1 s2 h2
     split at h
     ·rename_i w hw
      cases h
      have hwA:=BT hw
      have hdo:=hd i o ho
      have hms:=xd hc (fun d hd'=>(hdo d hd').2) ht h1
      have ht1:ap s1.H.get s1.n:=by
       rcases hms with⟨g1,g2,g3,g4⟩|⟨g1,v,g2,g3⟩
       ·rw[g3,g4];exact ht
       ·exact g2.good.top ht
      obtain⟨k1,k2,k3,k4,k5⟩:=vo hc hd L s1 rs1 s' ht1 h2
      rcases hms with⟨g1,g2,g3,g4⟩|⟨g1,v,g2,g3⟩
      ·rw[hwA]at g1
       cases g1
       refine⟨by simp[k1],by rw[←g3,←g4];exact k2,fun q hq=>?_,List.pairwise_cons.2 ⟨fun q hq=>(k3 q hq).2.1,k4⟩,fun D hD hC=>?_⟩
       ·rcases List.mem_cons.1 hq with rfl | hq
        ·exact⟨ho,Nat.le_refl _,by simp only;omega,k2.1,fun _=>by simp only;rw[g3]⟩
        ·obtain⟨a1,a2,a3,a4,a5⟩:=k3 q hq
         exact⟨a1,om,a3,a4,a5⟩
       ·have t:=hD _ (List.mem_cons_self ..)
        have r:=k5 D (fun q hq=>hD q (by simp[hq])) (fun q hq=>hC q (by simp[hq]))
        rw[g2,g3]at r
        refine .cons i L o _ _ cy _ _ _ ho (fun d hd'=>(hdo d hd').1) (.skip hwA fun ob=>?_) (fun q _ _ _ _=>rfl) r
        have:=t.2.2.2 ob
        simpa[j_]using this
      ·rw[hwA]at g1
       cases g1
       have hJ:=g2.good
       refine⟨by simp[k1],hJ.trans k2,fun q hq=>?_,List.pairwise_cons.2 ⟨fun q hq=>(k3 q hq).2.1,k4⟩,fun D hD hC=>?_⟩
       ·rcases List.mem_cons.1 hq with rfl | hq
        ·refine⟨ho,Nat.le_refl _,hJ.1,k2.1,fun hh=>?_⟩
         rcases hh with hh | hh
         ·cases hh
         ·exact(pG (D:=⟨fun _=>s.n,fun _=>s1.n,fun _=>cw (aZ s.A.get) o.op,fun _ ob=>(stepOp P o.op (aZ s.A.get) (fun _=>ob) 0).map (·.1)⟩) (i:=i) hwA g2 rfl rfl rfl fun _=>rfl).2 hh
        ·obtain⟨a1,a2,a3,a4,a5⟩:=k3 q hq
         exact⟨a1,Nat.le_trans hJ.1 a2,a3,a4,a5⟩
       ·have t:=hD _ (List.mem_cons_self ..)
        have r:=k5 D (fun q hq=>hD q (by simp[hq])) (fun q hq=>hC q (by simp[hq]))
        rw[g3]at r
        have hO:=(pG (D:=D) (i:=i) hwA g2 t.1 t.2.1 t.2.2.1 fun ob=>by
         have:=t.2.2.2 ob
         simpa[j_]using this).1
        exact .cons i L o _ _ v _ _ _ ho (fun d hd'=>(hdo d hd').1) hO (hC _ (List.mem_cons_self ..)) r
     ·cases h
    ·cases h
   ·cases h
  ·cases h
theorem Bj{rs:List fH}(hs:oX P b rs=true)(hq:∀q∈rs,ops[q.i]?=some q.o∧((q.want=false∨bY P q.o.op=.quiet)→q.H'.get=q.H.get))(hall:∀i,i<ops.size→∃q∈rs,q.i=i)(hD:∀q∈rs,qn P D q):
 ∀x∈rs,fT P ops b D x.i x.H.get x.H'.get:=by
 intro x hx q hne ⟨oq,hoq,hcq⟩ hb1 hb2
 obtain⟨h1,h2⟩:=hq x hx
 simp only[oX,List.all_eq_true]at hs
 have hs:=hs x hx
 rw[Bool.or_eq_true,Bool.or_eq_true]at hs
 rcases hs with(hs | hs) | hs
 ·rw[h2 (.inl (by simpa using hs))]
 ·rw[h2 (.inr ?_)]
  simp only[dx,beq_iff_eq]at hs
  split at hs
  ·assumption
  ·cases hs
  ·cases hs
 ·obtain⟨y,hy,rfl⟩:=hall q (Array.getElem?_eq_some_iff.1 hoq).1
  rw[List.all_eq_true]at hs
  have hs:=hs y hy
  obtain⟨g1,g2⟩:=hq y hy
  rw[g1]at hoq
  cases hoq
  obtain⟨t1,t2,t3,t4⟩:=hD y hy
  rw[t4,t4,t3]
  simp only[hb1,hb2,Bool.or_false,Bool.or_eq_true,beq_iff_eq,Bool.not_eq_true',bne_iff_ne,ne_eq]at hs
  rcases hs with(((hs | hs) | hs) | hs) | hs
  ·exact absurd hs hne
  ·simp[j_,hs]
  ·exact absurd (by simp[dx,hcq]) hs
  ·unfold j_
   rw[od (h:=fun _=>x.H.get (cw (aZ y.A.get) y.o.op)) (h':=fun _=>x.H'.get (cw (aZ y.A.get) y.o.op)) (n:=0) (n':=0) hcq hs]
  ·have he:=F' hs
   unfold j_
   rw[nV (r:=aZ y.A.get) (h:=fun _=>x.H.get (cw (aZ y.A.get) y.o.op)) (h':=x.H.get) (n:=0) (n':=0) hcq rfl,nV (r:=aZ y.A.get) (h:=fun _=>x.H'.get (cw (aZ y.A.get) y.o.op)) (h':=x.H'.get) (n:=0) (n':=0) hcq rfl]
   have e:∀H:T O,(stepOp P y.o.op (aZ y.A.get) H.get 0).map (·.1)=oU P y H:=fun H=>by
    unfold oU
    cases stepOp P y.o.op (aZ y.A.get) H.get 0<;>rfl
   rw[e,e,he]
theorem BM{id:Nat}(hm:P.follows .mixedOrders=true)(hc:bN.Ok P call)(hd:∀(i:Nat) (o:Oper),ops[i]?=some o→∀d,o.dst=some d→d<m∧d<dU){L:List Nat}(hok:mG P b ops L=true){s s':St}(ht:ap s.H.get s.n){rs:List fH}(h:lO P call ops L s=some (rs,s'))(hs:oX P b rs=true):
 bw P m (.region id ops true) s.A.get s.H.get s.n .normal s'.A.get s'.H.get s'.n:=by
 obtain⟨h1,h2,h3,h4,h5,h6⟩:=ue hok
 obtain⟨k1,k2,k3,k4,k5⟩:=vo (b:=b) hc hd L s rs s' ht h
 have hn:(rs.map (·.i)).Nodup:=by rw[k1];exact h2
 have hT:∀q∈rs,qn P (ph P rs) q:=fun q hq=>BA hn q hq
 have hall:∀i,i<ops.size→∃q∈rs,q.i=i:=fun i hi=>by
  have:i∈rs.map (·.i):=by rw[k1];exact(h3 i).2 hi
  obtain⟨q,g1,g2⟩:=List.mem_map.1 this
  exact⟨q,g1,g2⟩
 have hC:=Bj (D:=ph P rs) hs (fun q hq=>⟨(k3 q hq).1,(k3 q hq).2.2.2.2⟩) hall hT
 have hat:∀j∈L,∃q∈rs,q.i=j:=fun j hj=>hall j ((h3 j).1 hj)
 refine bw.drawn hm h1 (k5 _ hT hC) ?_ h3 h4 h5 (fun j hj=>?_) k2
 ·
  have hp:(rs.map (·.i)).Pairwise (lN P ops b):=by rw[k1];exact h6
  have hnn:(rs.map (·.i)).Pairwise (·≠·):=hn
  rw[←k1]
  rw[List.pairwise_map]at hp hnn⊢
  have h7:=(hp.and hnn).and k4
  refine List.Pairwise.imp_of_mem (fun{x y} hx hy h=>?_) h7
  obtain⟨⟨g1,g2⟩,g3⟩:=h
  obtain⟨x1,x2,_⟩:=hT x hx
  obtain⟨y1,y2,_⟩:=hT y hy
  exact⟨g2,.inl (by rw[x2,y1];exact g3),g1⟩
 ·obtain⟨q,hq,rfl⟩:=hat j hj
  obtain⟨t1,t2,_⟩:=hT q hq
  obtain⟨_,a2,a3,a4,_⟩:=k3 q hq
  rw[t1,t2]
  exact⟨a2,a3,a4⟩
end
end Go.Proofs.YtkimkgbppegkhaaGreat.Cm
namespace Go.Proofs.YtkimkgbppegkhaaGreat.Cm
noncomputable def pZ(m:Nat):List Oper→Bool
 |[]=>true
 |o::r=>match pR m o with | true=>pZ m r | false=>false
theorem vq{m:Nat}:∀{l:List Oper},pZ m l=true→∀o∈l,∀d,o.dst=some d→d<m∧d<dU
 |[],_,o,h,_,_=>by cases h
 |x::r,h,o,ho,d,hd=>by
  simp only[pZ]at h
  split at h
  ·rename_i h1
   rcases List.mem_cons.1 ho with rfl | ho
   ·simp only[pR,hd,Bool.and_eq_true,decide_eq_true_eq]at h1
    exact h1
   ·exact vq h o ho d hd
  ·cases h
/-- what is seen of code, once for all -/
noncomputable def dW(P:Program)(m:Nat):Code→Bool
 |.region _ ops d=>match pZ m ops.toList with
  |true=>match d with
   |false=>true
   |true=>mG P (jz ops) ops (nf P (jz ops) ops)
  |false=>false
 |.seq a b=>match dW P m a with | true=>dW P m b | false=>false
 |.cond _ a b=>match dW P m a with | true=>dW P m b | false=>false
 |.block _ a=>dW P m a
 |.loop a=>dW P m a
 |_=>true
def gP(P:Program):Prop:=P.follows .mixedOrders=true∧∀(f:Nat) fn c,P.funcs[f]?=some fn→fn.body=some c→dW P fn.ntmps c=true
noncomputable def sR(P:Program)(fn:Func):Bool:=match fn.body with | some c=>dW P fn.ntmps c | none=>true
noncomputable def oW(P:Program):List Func→Bool
 |[]=>true
 |fn::r=>match sR P fn with | true=>oW P r | false=>false
theorem ug{P:Program}:∀{l:List Func},oW P l=true→∀fn∈l,sR P fn=true
 |[],_,_,h=>by cases h
 |x::r,h,fn,hf=>by
  simp only[oW]at h
  split at h
  ·rename_i h1
   rcases List.mem_cons.1 hf with rfl | hf
   ·exact h1
   ·exact ug h fn hf
  ·cases h
theorem gP.of{P:Program}(hm:P.follows .mixedOrders=true)(h:oW P P.funcs.toList=true):gP P:=by
 refine⟨hm,fun f fn c hf hb=>?_⟩
 have hmem:fn∈P.funcs.toList:=by
  rw[Array.mem_toList_iff]
  exact Array.mem_of_getElem? hf
 have:=ug h fn hmem
 unfold sR at this
 rw[hb]at this
 exact this
section
variable {P:Program} {m:Nat} {orc:bN}
theorem n_{a b:Bool}{x:Bool}(h:(match a with | true=>b | false=>false)=true):a=true∧b=true:=by cases a<;>simp_all
theorem qX{x:Option (Exit×St)}{k:St→Option (Exit×St)}{e:Exit}{s':St}(h:lL x k=some (e,s')):(∃s1,x=some (.normal,s1)∧k s1=some (e,s'))∨(x=some (e,s')∧e≠.normal):=by
 cases x with
 |none=>cases h
 |some p=>
  obtain⟨e1,s1⟩:=p
  cases e1 with
  |normal=>exact .inl ⟨s1,rfl,h⟩
  |exit i=>cases h;exact .inr ⟨rfl,sm⟩
  |goto i=>cases h;exact .inr ⟨rfl,sm⟩
  |ret=>cases h;exact .inr ⟨rfl,sm⟩
  |panic c=>cases h;exact .inr ⟨rfl,sm⟩
  |outgrown=>cases h;exact .inr ⟨rfl,sm⟩
/-- code, reckoned -/
def qd(P:Program)(ev:CC→St→Option (Exit×St)):Prop:=∀m c,dW P m c=true→∀s x s',ap s.H.get s.n→
 (ev (dk P c) s=some (x,s')→bw P m c s.A.get s.H.get s.n x s'.A.get s'.H.get s'.n)∧(ev (.loop (dk P c)) s=some (x,s')→dH P m c s.A.get s.H.get s.n x s'.A.get s'.H.get s'.n)
theorem D2{fn:Func}{x:Exit}{s:St}{v:V}{H':T O}{n':Nat}(h:zV P fn x s=some (v,H',n')):(x=.normal∨x=.ret)∧H'=s.H∧n'=s.n∧∃vs,c_ P s.A.get s.H.get fn.results.toList=some vs∧g_ vs=some v:=by
 have main:(match c_ P s.A.get s.H.get fn.results.toList with
  |some vs=>match g_ vs with
   |some v=>some (v,s.H,s.n)
   |none=>none
  |none=>none)=some (v,H',n')→H'=s.H∧n'=s.n∧∃vs,c_ P s.A.get s.H.get fn.results.toList=some vs∧g_ vs=some v:=by
  intro h
  split at h
  ·rename_i vs h1
   split at h
   ·rename_i v' h2
    cases h
    exact⟨rfl,rfl,vs,h1,h2⟩
   ·cases h
  ·cases h
 cases x with
 |normal=>exact⟨.inl rfl,main h⟩
 |ret=>exact⟨.inr rfl,main h⟩
 |exit i=>cases h
 |goto i=>cases h
 |panic c=>cases h
 |outgrown=>cases h
theorem xj(hP:gP P)(ho:bN.Ok P orc){ev:CC→St→Option (Exit×St)}(he:qd P ev):bN.Ok P (je P orc ev):=by
 intro f args H n v H' n' ht h
 unfold je at h
 split at h
 ·rename_i r hr
  cases h
  exact ho _ _ _ _ _ _ _ ht hr
 ·split at h
  ·rename_i fn c hb
   split at h
   ·rename_i ha
    split at h
    ·rename_i x s' hx
     obtain⟨h1,rfl,rfl,vs,h2,h3⟩:=D2 h
     unfold zc at hb
     cases hf:P.funcs[f]? with
     |none=>rw[hf]at hb;cases hb
     |some fn1=>
      rw[hf]at hb
      have hb:@Option.rec Code (fun _=>Option (Func×CC)) none (fun c=>some (fn1,dk P c)) fn1.body=some (fn,c):=hb
      cases hbd:fn1.body with
      |none=>rw[hbd]at hb;cases hb
      |some c1=>
       rw[hbd]at hb
       cases hb
       unfold yy at ha
       split at ha
       ·rename_i ha1
        have ha1:=Nat.le_of_ble_eq_true ha1
        have ha2:fn.ntmps+1≤1000000000000:=Nat.le_of_ble_eq_true ha
        have hr:=(he fn.ntmps c1 (hP.2 f fn c1 hf hbd) _ _ _ ht).1 hx
        have e:(T.ofList args 0 .leaf:T V).get=pO args:=by
         funext i
         rw[T.get_ofList _ _ _ om]
         simp only[Nat.zero_le,true_and,Nat.zero_add,Nat.sub_zero,T.get_leaf,pO]
         split
         ·rfl
         ·rename_i hi;rw[List.getElem?_eq_none om]
        simp only at hr
        rw[e]at hr
        exact aS.of_runs hf hbd ha1 hr h1 h2 h3
       ·cases ha
    ·cases h
   ·cases h
  ·cases h
theorem CZ{v:Option V}{x y:Option (Exit×St)}{r:Exit×St}(h:s_ v x y=some r):∃b,v=some (vf (.bool b))∧(if b then x else y)=some r:=by
 obtain⟨u,h1,h2⟩:=b9 h
 obtain⟨b,h3,h4⟩:=b9 h2
 rw[wD h3]at h1
 refine⟨b,h1,?_⟩
 cases b<;>exact h4
theorem Do(hP:gP P)(ho:bN.Ok P orc){ev:CC→St→Option (Exit×St)}(he:qd P ev):qd P (sG P orc ev):=by
 intro m c hc s x s' ht
 have hcall:=xj hP ho he
 have hloop:∀(s:St) x (s':St),ap s.H.get s.n→sG P orc ev (.loop (dk P c)) s=some (x,s')→dH P m c s.A.get s.H.get s.n x s'.A.get s'.H.get s'.n:=by
  intro s x s' ht h
  have h:lL (ev (dk P c) s) (ev (.loop (dk P c)))=some (x,s'):=h
  rcases qX h with⟨s1,h1,h2⟩|⟨h1,h2⟩
  ·have r1:=(he m c hc _ _ _ ht).1 h1
   exact dH.more r1 ((he m c hc _ _ _ (r1.1.top ht)).2 h2)
  ·exact dH.last ((he m c hc _ _ _ ht).1 h1) h2
 refine⟨fun h=>?_,hloop s x s' ht⟩
 cases c with
 |skip=>cases h;exact bw.skip
 |exit i=>cases h;exact bw.exit
 |ret=>cases h;exact bw.ret
 |region id ops d=>
  simp only[dW]at hc
  split at hc
  ·rename_i hd
   have hd:=vq hd
   have hd':∀(i:Nat) (o:Oper),ops[i]?=some o→∀d,o.dst=some d→d<m∧d<dU:=fun i o ho=>hd o (by rw[Array.mem_toList_iff];exact Array.mem_of_getElem? ho)
   cases d with
   |false=>
    have h:zg (ng (je P orc ev) (lV P ops ops.toList) s.A s.H s.n)=some (x,s'):=h
    cases hq:ng (je P orc ev) (lV P ops ops.toList) s.A s.H s.n with
    |none=>rw[hq]at h;cases h
    |some s1=>
     rw[hq]at h
     cases h
     have:=u5 hcall hd ops.toList 0 sm _ _ _ _ ht hq
     refine bw.region ?_
     rw[List.range_eq_range']
     simpa using this
   |true=>
    have h:tk P (jz ops) (lO P (je P orc ev) ops (nf P (jz ops) ops) s)=some (x,s'):=h
    unfold tk at h
    split at h
    ·rename_i rs s1 hq
     split at h
     ·rename_i hs
      cases h
      exact BM hP.1 hcall hd' hc ht hq hs
     ·cases h
    ·cases h
  ·cases hc
 |seq a b=>
  have hab:=n_ (x:=true) hc
  have h:lL (ev (dk P a) s) (ev (dk P b))=some (x,s'):=h
  rcases qX h with⟨s1,h1,h2⟩|⟨h1,h2⟩
  ·have r1:=(he m a hab.1 _ _ _ ht).1 h1
   exact bw.seq r1 ((he m b hab.2 _ _ _ (r1.1.top ht)).1 h2)
  ·exact bw.seq_out ((he m a hab.1 _ _ _ ht).1 h1) h2
 |cond o a b=>
  have hab:=n_ (x:=true) hc
  have h:s_ (aZ s.A.get o) (ev (dk P a) s) (ev (dk P b) s)=some (x,s'):=h
  obtain⟨t,h1,h2⟩:=CZ h
  refine bw.cond h1 ?_
  cases t with
  |true=>exact(he m a hab.1 _ _ _ ht).1 h2
  |false=>exact(he m b hab.2 _ _ _ ht).1 h2
 |block id a=>
  have h:sW id (ev (dk P a) s)=some (x,s'):=h
  unfold sW at h
  split at h
  ·rename_i x1 s1 h1
   cases h
   exact bw.block ((he m a hc _ _ _ ht).1 h1)
  ·cases h
 |loop a=>
  have h:lL (ev (dk P a) s) (ev (.loop (dk P a)))=some (x,s'):=h
  have hc:dW P m a=true:=hc
  refine bw.loop ?_
  rcases qX h with⟨s1,h1,h2⟩|⟨h1,h2⟩
  ·have r1:=(he m a hc _ _ _ ht).1 h1
   exact dH.more r1 ((he m a hc _ _ _ (r1.1.top ht)).2 h2)
  ·exact dH.last ((he m a hc _ _ _ ht).1 h1) h2
 |_=>cases h
theorem y6(hP:gP P)(ho:bN.Ok P orc):∀k,qd P (Ah P orc k)
 |0=>fun m c hc s x s' _=>⟨fun h=>(by cases h),fun h=>(by cases h)⟩
 |k+1=>Do hP ho (y6 hP ho k)
theorem mn(hP:gP P)(ho:bN.Ok P orc)(k:Nat):bN.Ok P (iJ P orc k):=xj hP ho (y6 hP ho k)
end
end Go.Proofs.YtkimkgbppegkhaaGreat.Cm

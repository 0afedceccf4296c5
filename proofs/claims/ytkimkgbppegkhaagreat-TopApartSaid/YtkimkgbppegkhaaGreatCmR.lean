/- The clean machine, reckoned: heaps and temporaries as trees, code run by a bound on rounds. No program is walked here. -/
import Derived.Test.YtkimkgbppegkhaaGreatCmQ
set_option linter.unusedVariables false
set_option linter.unusedSimpArgs false
namespace Go.Proofs.YtkimkgbppegkhaaGreat.Cm
open Go Go.RowKit
inductive T(α:Type) where
 |leaf
 |node (l:T α) (v:Option α) (r:T α)
namespace T
variable {α:Type}
noncomputable def get(t:T α):Nat→Option α:=
 @T.rec α (fun _=>Nat→Option α) (fun _=>none) (fun _ v _ gl gr n=>@Bool.rec (fun _=>Option α) (@Bool.rec (fun _=>Option α) (gr (Nat.pred (Nat.div n 2))) (gl (Nat.div n 2)) (Nat.beq (Nat.land n 1) 1)) v (Nat.beq n 0)) t
/-- one path -/
noncomputable def sing:Nat→Nat→Option α→T α
 |0,_,_=>.leaf
 |k+1,n,x=>match Nat.beq n 0 with
  |true=>.node .leaf x .leaf
  |false=>match Nat.beq (Nat.land n 1) 1 with
   |true=>.node (sing k (Nat.div n 2) x) none .leaf
   |false=>.node .leaf none (sing k (Nat.pred (Nat.div n 2)) x)
noncomputable def set(t:T α):Nat→Option α→T α:=
 @T.rec α (fun _=>Nat→Option α→T α) (fun n x=>sing 40 n x) (fun l v r sl sr n x=>@Bool.rec (fun _=>T α) (@Bool.rec (fun _=>T α) (.node l v (sr (Nat.pred (Nat.div n 2)) x)) (.node (sl (Nat.div n 2) x) v r) (Nat.beq (Nat.land n 1) 1)) (.node l x r) (Nat.beq n 0)) t
theorem bool_rec{β:Type}(c:Bool)(x y:β):@Bool.rec (fun _=>β) x y c=if c=true then y else x:=by cases c<;>rfl
theorem get_leaf(n:Nat):(T.leaf:T α).get n=none:=rfl
theorem beq0(n:Nat):Nat.beq n 0=decide (n=0):=by
 rw[Bool.eq_iff_iff];simp
theorem odd_iff(n:Nat):Nat.beq (Nat.land n 1) 1=decide (n%2=1):=by
 have:Nat.land n 1=n%2:=by
  show n &&& 1=_
  exact Nat.and_one_is_mod n
 rw[this,Bool.eq_iff_iff];simp
theorem get_node(l:T α)(v:Option α)(r:T α)(n:Nat):(T.node l v r).get n=if n=0 then v else if n%2=1 then l.get (n/2)else r.get (n/2-1):=by
 show@Bool.rec (fun _=>Option α) (@Bool.rec (fun _=>Option α) (r.get (Nat.pred (Nat.div n 2))) (l.get (Nat.div n 2)) (Nat.beq (Nat.land n 1) 1)) v (Nat.beq n 0)=_
 rw[bool_rec,bool_rec,beq0,odd_iff]
 simp only[decide_eq_true_eq]
 rfl
theorem set_node(l:T α)(v:Option α)(r:T α)(n:Nat)(x:Option α):(T.node l v r).set n x=if n=0 then .node l x r else if n%2=1 then .node (l.set (n/2) x) v r else .node l v (r.set (n/2-1) x):=by
 show@Bool.rec (fun _=>T α) (@Bool.rec (fun _=>T α) (.node l v (r.set (Nat.pred (Nat.div n 2)) x)) (.node (l.set (Nat.div n 2) x) v r) (Nat.beq (Nat.land n 1) 1)) (.node l x r) (Nat.beq n 0)=_
 rw[bool_rec,bool_rec,beq0,odd_iff]
 simp only[decide_eq_true_eq]
 rfl
theorem get_sing:∀(k n:Nat) (x:Option α),n+1<2 ^ k→∀i,(sing k n x).get i=if i=n then x else none
 |0,n,x,h,i=>by simp at h
 |k+1,n,x,h,i=>by
  rw[Nat.pow_succ]at h
  simp only[sing,beq0,odd_iff]
  by_cases h0:n=0
  ·subst h0
   simp only[decide_true,get_node,get_leaf]
   by_cases hi:i=0<;>simp[hi]
  ·by_cases h1:n%2=1
   ·simp only[h0,h1,decide_false,decide_true,get_node,get_leaf]
    have ih:=get_sing k (n/2) x om
    by_cases hi:i=0
    ·rw[if_pos hi,if_neg om]
    ·rw[if_neg hi]
     by_cases hi1:i%2=1
     ·rw[if_pos hi1]
      show(sing k (n/2) x).get (i/2)=_
      rw[ih]
      have:(i/2=n/2)↔i=n:=by omega
      simp only[this]
     ·rw[if_neg hi1,if_neg om]
   ·simp only[h0,h1,decide_false,get_node,get_leaf]
    have ih:=get_sing k (n/2-1) x om
    by_cases hi:i=0
    ·rw[if_pos hi,if_neg om]
    ·rw[if_neg hi]
     by_cases hi1:i%2=1
     ·rw[if_pos hi1,if_neg om]
     ·rw[if_neg hi1]
      show(sing k (n/2-1) x).get (i/2-1)=_
      rw[ih]
      have:(i/2-1=n/2-1)↔i=n:=by omega
      simp only[this]
theorem get_set:∀(t:T α) (n:Nat) (x:Option α),n<1000000000000→∀i,(t.set n x).get i=if i=n then x else t.get i
 |.leaf,n,x,h,i=>by
  show(sing 40 n x).get i=_
  rw[get_sing 40 n x om]
  rfl
 |.node l v r,n,x,h,i=>by
  rw[set_node]
  by_cases h0:n=0
  ·subst h0
   simp only[if_true,get_node]
   by_cases hi:i=0<;>simp[hi]
  ·by_cases h1:n%2=1
   ·rw[if_neg h0,if_pos h1,get_node,get_node]
    have ih:=get_set l (n/2) x om
    by_cases hi:i=0
    ·rw[if_pos hi,if_pos hi,if_neg om]
    ·rw[if_neg hi,if_neg hi]
     by_cases hi1:i%2=1
     ·rw[if_pos hi1,if_pos hi1,ih]
      have:(i/2=n/2)↔i=n:=by omega
      simp only[this]
     ·rw[if_neg hi1,if_neg hi1,if_neg om]
   ·rw[if_neg h0,if_neg h1,get_node,get_node]
    have ih:=get_set r (n/2-1) x om
    by_cases hi:i=0
    ·rw[if_pos hi,if_pos hi,if_neg om]
    ·rw[if_neg hi,if_neg hi]
     by_cases hi1:i%2=1
     ·rw[if_pos hi1,if_pos hi1,if_neg om]
     ·rw[if_neg hi1,if_neg hi1,ih]
      have:(i/2-1=n/2-1)↔i=n:=by omega
      simp only[this]
noncomputable def ofList:List α→Nat→T α→T α
 |[],_,t=>t
 |x::l,k,t=>ofList l (Nat.succ k) (t.set k (some x))
theorem get_ofList:∀(l:List α) (k:Nat) (t:T α),k+l.length<1000000000000→∀i,(ofList l k t).get i=if k≤i∧i<k+l.length then l[i-k]? else t.get i
 |[],k,t,_,i=>by simp[ofList];omega
 |x::l,k,t,h,i=>by
  simp only[List.length_cons]at h
  simp only[ofList]
  rw[get_ofList l (k+1) _ om i,get_set _ _ _ om]
  by_cases e:i=k
  ·subst e
   rw[if_neg om,if_pos rfl,if_pos sm]
   simp
  ·by_cases hr:k≤i∧i<k+(l.length+1)
   ·rw[if_pos om,if_pos (by simpa using hr)]
    have:i-k=(i-(k+1))+1:=by omega
    rw[this,List.getElem?_cons_succ]
   ·rw[if_neg om,if_neg e,if_neg (by simpa using hr)]
end T
abbrev dU:Nat:=1000000000000
noncomputable def nk(H:T O):List (Nat×Option O)→T O
 |[]=>H
 |(i,o)::r=>nk (H.set i o) r
/-- a call, reckoned: function, arguments, heap, the next name -/
abbrev bN:=FuncId→List V→T O→Nat→Option (V×T O×Nat)
noncomputable def k_:List (Nat×Option O)→Bool
 |[]=>true
 |p::r=>match Nat.ble (Nat.succ p.1) dU with | true=>k_ r | false=>false
abbrev Aa:=(Operand→Option V)→Heap→Nat→Option Ef
/-- an operation made ready: what it reckons (the match on its form is over), or a call -/
inductive CK where
 |prim (run:Aa)
 |call (f:Operand) (xs:List Operand)
noncomputable def gE{α:Type}(v:V)(k:F→α)(d:α):α:=@V.rec (fun _=>α) (fun u=>@U.rec (fun _=>α) (fun x=>k x) (fun _=>d) (fun _ _=>d) u) (fun _=>d) v
noncomputable def p8{α:Type}(x:F)(k:IntKind→Int→α)(d:α):α:=@F.rec (fun _=>α) (fun a b=>k a b) (fun _=>d) (fun _=>d) d (fun _ _=>d) d (fun _ _ _ _ _=>d) d (fun _=>d) d x
noncomputable def iU(o:Option F):Option Ef:=@Option.rec F (fun _=>Option Ef) none (fun x=>some (vf x,[],0)) o
noncomputable def jv(o:Option V):Option Ef:=@Option.rec V (fun _=>Option Ef) none (fun x=>some (x,[],0)) o
/-- two whole numbers of one kind -/
noncomputable def gD(g:IntKind→Int→Int→F)(d:V→V→Option F)(a b:V):Option Ef:=
 gE a (fun x=>gE b (fun y=>p8 x (fun k i=>p8 y (fun j l=>@Bool.rec (fun _=>Option Ef) none (some (vf (g k i l),[],0)) (jx k j)) (iU (d a b))) (iU (d a b))) (iU (d a b))) (iU (d a b))
noncomputable def zU(P:Program)(op:BinOp)(t:TypeId):V→V→Option Ef:=match op with
 |.add=>gD (fun k a b=>.int k (ew k (tK a b))) (aU P .add t)
 |.sub=>gD (fun k a b=>.int k (ew k (tI a b))) (aU P .sub t)
 |.mul=>gD (fun k a b=>.int k (ew k (nl a b))) (aU P .mul t)
 |.eql=>gD (fun _ a b=>.bool (c6 a b)) (aU P .eql t)
 |.neq=>gD (fun _ a b=>.bool (not (c6 a b))) (aU P .neq t)
 |.lss=>gD (fun _ a b=>.bool (cV a b)) (aU P .lss t)
 |.leq=>gD (fun _ a b=>.bool (not (cV b a))) (aU P .leq t)
 |.gtr=>gD (fun _ a b=>.bool (cV b a)) (aU P .gtr t)
 |.geq=>gD (fun _ a b=>.bool (not (cV a b))) (aU P .geq t)
 |op=>fun a b=>iU (aU P op t a b)
noncomputable def Hd(agg:Option Bool)(sz:Option Nat)(h:Heap)(id off:Nat):Option Ef:=
 match h id,agg,sz with
 |some (.cells cs _),some true,some sz=>if off+sz≤cs.length then some (.u (.agg ((cs.drop off).take sz)),[],0)else none
 |some (.cells cs _),some false,some _=>match cs[off]? with | some x=>some (vf x,[],0) | none=>none
 |some (.whole rcs _ _),some false,some _=>match rcs[off]? with | some (.int k n)=>some (vf (.int k n),[],0) | _=>none
 |_,_,_=>none
noncomputable def wJ(P:Program)(s:TypeId)(f:Nat):Option Nat:=match P.underlying s with
 |some (.struct fs)=>match fs[f]? with
  |some fd=>match cj P fd.type with
   |some sz=>if 0<sz then some fd.offset else none
   |none=>none
  |none=>none
 |_=>none
noncomputable def bC{α β:Type}(o:Option α)(k:α→Option β):Option β:=@Option.rec α (fun _=>Option β) none (fun x=>k x) o
noncomputable def tf(v:V):Option (Nat×Nat):=gE v (fun x=>@F.rec (fun _=>Option (Nat×Nat)) (fun _ _=>none) (fun _=>none) (fun _=>none) none (fun a b=>some (a,b)) none (fun _ _ _ _ _=>none) none (fun _=>none) none x) none
noncomputable def j9(v:V):Option Bool:=gE v (fun x=>@F.rec (fun _=>Option Bool) (fun _ _=>none) (fun b=>some b) (fun _=>none) none (fun _ _=>none) none (fun _ _ _ _ _=>none) none (fun _=>none) none x) none
noncomputable def ES(P:Program)(e:TypeId)(r:Operand→Option V)(h:Heap)(n:Nat):Option Ef:=
 match dz P e with | some ti=>some (vf (.ptr n 0),[(n,some (.cells ti.zero true))],1) | none=>none
noncomputable def GI(x:Operand)(r:Operand→Option V)(h:Heap)(n:Nat):Option Ef:=
 match r x with
  |some v=>match iG v with | some cs=>some (vf (.ptr n 0),[(n,some (.cells cs true))],1) | none=>none
  |none=>none
noncomputable def EQ(P:Program)(t:TypeId)(parts:Array (Nat×Operand))(r:Operand→Option V)(h:Heap)(n:Nat):Option Ef:=
 match dz P t,fj r parts.toList with
  |some ti,some ps=>match P.underlying t with
   |some (.struct fs)=>match jN P fs.toList with
    |some pl=>(dJ (pl[·]?) ti.zero ps).map fun cs=>(.u (.agg cs),[],0)
    |none=>none
   |some (.array _ e)=>match cj P e with
    |some sz=>(dJ (fun i=>some (i*sz,sz)) ti.zero ps).map fun cs=>(.u (.agg cs),[],0)
    |none=>none
   |_=>none
  |_,_=>none
noncomputable def AB(P:Program)(t:TypeId)(len:Nat)(parts:Array (Nat×Operand))(r:Operand→Option V)(h:Heap)(n:Nat):Option Ef:=
 match eN P t,fj r parts.toList with
  |some e,some ps=>match dz P e with
   |some ti=>if 0<ti.size∧ti.zero.length=ti.size∧len*ti.size≤16777216 then
    (dJ (fun i=>some (i*ti.size,ti.size)) (ci ti.zero len) ps).map fun cs=>(vf (.sl n 0 ti.size len none),[(n,some (.cells cs true))],1)
    else none
   |none=>none
  |_,_=>none
noncomputable def Fb(P:Program)(t:TypeId)(a:Operand)(x:Operand)(r:Operand→Option V)(h:Heap)(n:Nat):Option Ef:=
 match r a,r x with
  |some (.u (.f (.ptr id off))),some v=>match h id,iG v,cj P t with
   |some (.cells cs ex),some new,some sz=>if new.length=sz∧off+sz≤cs.length then some (cy,[(id,some (.cells (aJ cs off new) ex))],0)else none
   |_,_,_=>none
  |_,_=>none
noncomputable def A7(x:Operand)(r:Operand→Option V)(h:Heap)(n:Nat):Option Ef:=
 match r x with
  |some (.u (.f (.ptr id off)))=>some (vf (.ptr id off),[],0)
  |some (.u (.fn g c))=>some (.u (.fn g c),[],0)
  |_=>none
noncomputable def FB(x:Operand)(r:Operand→Option V)(h:Heap)(n:Nat):Option Ef:=
 match r x with | some (.u (.f (.bool b)))=>some (vf (.bool !b),[],0) | _=>none
noncomputable def BZ(P:Program)(s:TypeId)(d:TypeId)(x:Operand)(r:Operand→Option V)(h:Heap)(n:Nat):Option Ef:=
 match P.underlying s,P.underlying d,r x with
  |some _,some (.int k),some (.u (.f (.int _ n)))=>some (vf (.int k (k.wrap n)),[],0)
  |some (.slice e),some .string,some (.u (.f x))=>match P.underlying e with
   |some (.int .u8)=>match aF h 1 x with
    |some cs=>match iE cs with | some s=>some (vf (.str s),[],0) | none=>none
    |none=>none
   |_=>none
  |some (.slice _),some (.slice e),some (.u (.f (.sl id off sz len cap)))=>match P.underlying e,h id with
   |some (.int .u8),some (.cells cs _)=>if s=d∧0<len then some (vf (.sl id off sz len cap),[(id,some (.cells cs false))],0)else none
   |_,_=>none
  |some .string,some (.slice e),some (.u (.f (.str s)))=>match P.underlying e with
   |some (.int .u8)=>some (vf (.sl n 0 1 s.length none),[(n,some (.cells (mL s) false))],1)
   |_=>none
  |_,_,_=>none
noncomputable def BC(g:Nat)(first:Array Operand)(caps:Array Operand)(r:Operand→Option V)(h:Heap)(n:Nat):Option Ef:=
 if first.size=0 then match ct r caps.toList with
  |some vs=>match vs.mapM (fun v=>match v with | .u (.f x)=>some x | _=>none)with
   |some l=>some (.u (.fn g l),[],0)
   |none=>none
  |none=>none
  else none
noncomputable def Cu(P:Program)(t:TypeId)(r:Operand→Option V)(h:Heap)(n:Nat):Option Ef:=
 match P.underlying t with | some (.map _ _)=>some (vf (.map n),[(n,some (.mp []))],1) | _=>none
noncomputable def AN(P:Program)(t:TypeId)(l:Operand)(c:Operand)(r:Operand→Option V)(h:Heap)(n:Nat):Option Ef:=
 match eN P t,r l,r c with
  |some e,some vl,some vc=>match dz P e,dP vl,dP vc with
   |some ti,some a,some b=>
    if a=b∧0<ti.size∧0<ti.bytes∧ti.zero.length=ti.size∧a*ti.bytes≤140737488355328 then
     some (vf (.sl n 0 ti.size a none),[(n,some (.cells (ci ti.zero a) true))],1)
    else none
   |_,_,_=>none
  |_,_,_=>none
noncomputable def EB(P:Program)(t:TypeId)(x:Operand)(lo:Option Operand)(hi:Option Operand)(mx:Option Operand)(r:Operand→Option V)(h:Heap)(n:Nat):Option Ef:=
 match r x,cR r lo,cR r hi,cR r mx with
  |some (.u (.f x)),some lo,some hi,some mx=>match P.underlying t,x with
   |some (.array k e),.ptr id off=>match cj P e,h id with
    |some sz,some (.cells cs true)=>match d8 k k (some k) lo hi mx with
     |some (l,h',some m)=>if cs.length=off+k*sz∧0<sz then some (vf (.sl id (off+l*sz) sz (h'-l) (some (m-l))),[],0)else none
     |_=>none
    |_,_=>none
   |some (.slice e),.sl0=>match cj P e,d8 0 0 (some 0) lo hi mx with
    |some _,some _=>some (vf .sl0,[],0)
    |_,_=>none
   |some (.slice e),.sl id off sz len cap=>match cj P e,(h id).bind gj with
    |some sz',some L=>
     match d8 len (cap.getD ((L-off)/sz)) cap lo hi mx with
     |some (l,h',m)=>if sz'=sz∧0<sz∧off≤L then some (vf (.sl id (off+l*sz) sz (h'-l) (m.map (· - l))),[],0)else none
     |none=>none
    |_,_=>none
   |_,_=>none
  |_,_,_,_=>none
noncomputable def AF(P:Program)(t:TypeId)(x:Operand)(i:Operand)(r:Operand→Option V)(h:Heap)(n:Nat):Option Ef:=
 match r x,r i with
  |some (.u (.f x)),some iv=>match dP iv,P.underlying t,x with
   |some i,some (.array len e),.ptr id off=>match cj P e with
    |some sz=>if i<len then some (vf (.ptr id (off+i*sz)),[],0)else none
    |none=>none
   |some i,some (.slice e),.sl id off sz len _=>match cj P e with
    |some sz'=>if sz'=sz∧i<len then some (vf (.ptr id (off+i*sz)),[],0)else none
    |none=>none
   |_,_,_=>none
  |_,_=>none
noncomputable def E5(P:Program)(t:TypeId)(x:Operand)(i:Operand)(r:Operand→Option V)(h:Heap)(n:Nat):Option Ef:=
 match r x,r i with
  |some (.u (.f (.str s))),some iv=>match dP iv,P.underlying t with
   |some i,some .string=>match s[i]? with | some b=>some (vf (.int .u8 b.toNat),[],0) | none=>none
   |_,_=>none
  |_,_=>none
noncomputable def Dv(P:Program)(t:TypeId)(m:Operand)(k:Operand)(ok:Bool)(r:Operand→Option V)(h:Heap)(n:Nat):Option Ef:=
 match P.underlying t,r m,r k with
  |some (.map kt et),some (.u (.f m)),some (.u k)=>match mV P et,(match m with | .map0=>some [] | .map id=>(match h id with | some (.mp es)=>some es | _=>none) | _=>none)with
   |some z,some es=>if dg P kt k es.isEmpty then match cg k es 0 with
    |some (some (_,v))=>some (if ok then .tup [v,.f (.bool true)]else .u v,[],0)
    |some none=>some (if ok then .tup [z,.f (.bool false)]else .u z,[],0)
    |none=>none
    else none
   |_,_=>none
  |_,_,_=>none
noncomputable def AS(P:Program)(t:TypeId)(m:Operand)(k:Operand)(x:Operand)(r:Operand→Option V)(h:Heap)(n:Nat):Option Ef:=
 match P.underlying t,r m,r k,r x with
  |some (.map kt _),some (.u (.f (.map id))),some (.u k),some (.u v)=>match h id with
   |some (.mp es)=>if dg P kt k es.isEmpty then match cg k es 0 with
    |some none=>some (cy,[(id,some (.mp (es++[(k,v)])))],0)
    |_=>none
    else none
   |_=>none
  |_,_,_,_=>none
noncomputable def E8(P:Program)(t:TypeId)(x:Operand)(r:Operand→Option V)(h:Heap)(n:Nat):Option Ef:=
 match P.underlying t,r x with
  |some (.map _ _),some (.u (.f .map0))=>some (vf (.ptr n 0),[(n,some (.it none 0 false))],1)
  |some (.map _ _),some (.u (.f (.map id)))=>match h id with
   |some (.mp es)=>some (vf (.ptr n 0),[(n,some (.it (some id) es.length false))],1)
   |_=>none
  |_,_=>none
noncomputable def FD(x:Operand)(r:Operand→Option V)(h:Heap)(n:Nat):Option Ef:=
 match r x with
  |some (.u (.f (.ptr id 0)))=>match h id with
   |some (.it none _ _)=>some (.tup [.f (.bool false)],[],0)
   |some (.it (some m) since seen)=>match h m with
    |some (.mp [])=>some (.tup [.f (.bool false)],[],0)
    |some (.mp [e])=>if seen then some (.tup [.f (.bool false)],[],0)else if since=0 then none else some (.tup [.f (.bool true),e.1,e.2],[(id,some (.it (some m) since true))],0)
    |_=>none
   |_=>none
  |_=>none
noncomputable def CT(x:Operand)(i:Nat)(r:Operand→Option V)(h:Heap)(n:Nat):Option Ef:=
 match r x with
  |some (.tup xs)=>match xs[i]? with | some u=>some (.u u,[],0) | none=>none
  |_=>none
noncomputable def pd(P:Program)(ats:Array TypeId)(vs:List V)(h:Heap):Option Ef:=match vs,ats[0]? with
 |[v],some t=>iU (gy P t v h)
 |_,_=>none
noncomputable def D3(P:Program)(ats:Array TypeId)(vs:List V)(h:Heap)(n:Nat):Option Ef:=match vs,ats[0]?,ats[1]? with
 |[.u (.f s),.u (.f x)],some t,some t'=>jL P t t' s x h n
 |_,_,_=>none
noncomputable def jw(P:Program)(op:Op):CK:=match op with
 |.call c=>match c with
  |{callee:=.value f,args:=xs,..}=>.call f xs.toList
  |{callee:=.builtin b,args,argTypes}=>match b with
   |.len=>.prim fun r h _=>bC (ct r args.toList) fun vs=>pd P argTypes vs h
   |.append=>.prim fun r h n=>bC (ct r args.toList) fun vs=>D3 P argTypes vs h n
   |b=>.prim fun r h n=>bC (ct r args.toList) fun vs=>cK P b argTypes vs h n
  |_=>.prim fun r h n=>stepOp P op r h n
 |.move x=>.prim fun r _ _=>jv (r x)
 |.assign x=>.prim fun r _ _=>jv (r x)
 |.binOp op t x y _=>.prim fun r _ _=>bC (r x) fun a=>bC (r y) fun b=>zU P op t a b
 |.load t a=>.prim fun r h _=>bC (r a) fun v=>bC (tf v) fun p=>Hd (h_ P t) (cj P t) h p.1 p.2
 |.fieldAddr s x f=>.prim fun r _ _=>bC (r x) fun v=>bC (tf v) fun p=>bC (wJ P s f) fun d=>some (vf (.ptr p.1 (Nat.add p.2 d)),[],0)
 |.pick c a b=>.prim fun r _ _=>bC (r c) fun v=>bC (j9 v) fun t=>@Bool.rec (fun _=>Option Ef) (jv (r b)) (jv (r a)) t
 |.alloc e=>.prim fun r h n=>ES P e r h n
 |.box _ x=>.prim fun r h n=>GI x r h n
 |.build t parts=>.prim fun r h n=>EQ P t parts r h n
 |.buildSlice t len parts=>.prim fun r h n=>AB P t len parts r h n
 |.store t a x=>.prim fun r h n=>Fb P t a x r h n
 |.nilCheck x=>.prim fun r h n=>A7 x r h n
 |.unOp u _ x=>match u with
  |.not=>.prim fun r h n=>FB x r h n
  |_=>.prim fun r h n=>stepOp P op r h n
 |.convert s d x=>.prim fun r h n=>BZ P s d x r h n
 |.makeFunc f first caps=>match f with
  |.func g=>.prim fun r h n=>BC g first caps r h n
  |_=>.prim fun r h n=>stepOp P op r h n
 |.makeMap t q=>match q with
  |none=>.prim fun r h n=>Cu P t r h n
  |_=>.prim fun r h n=>stepOp P op r h n
 |.makeSlice t l c=>.prim fun r h n=>AN P t l c r h n
 |.slice t x lo hi mx=>.prim fun r h n=>EB P t x lo hi mx r h n
 |.indexAddr t x i=>.prim fun r h n=>AF P t x i r h n
 |.index t x i=>.prim fun r h n=>E5 P t x i r h n
 |.lookup t m k ok=>.prim fun r h n=>Dv P t m k ok r h n
 |.mapUpdate t m k x=>.prim fun r h n=>AS P t m k x r h n
 |.range t x=>.prim fun r h n=>E8 P t x r h n
 |.next x q=>match q with
  |false=>.prim fun r h n=>FD x r h n
  |true=>.prim fun r h n=>stepOp P op r h n
 |.extract x i=>.prim fun r h n=>CT x i r h n
 |op=>.prim fun r h n=>stepOp P op r h n
theorem two_eq{g:IntKind→Int→Int→F}{d:V→V→Option F}(hg:∀k k' i j,d (.u (.f (.int k i))) (.u (.f (.int k' j)))=match jx k k' with | true=>some (g k i j) | false=>none)(a b:V):gD g d a b=iU (d a b):=by
 cases a with
 |tup l=>rfl
 |u a=>
  cases a<;>first
   |rfl
   |skip
  rename_i x
  cases b with
  |tup l=>rfl
  |u b=>
   cases b<;>first
    |rfl
    |skip
   rename_i y
   cases x<;>first
    |rfl
    |skip
   cases y<;>first
    |rfl
    |skip
   rename_i k i j l
   rw[hg]
   simp only[gD,gE,p8]
   cases jx k j<;>rfl
theorem FF(P:Program)(op:BinOp)(t:TypeId)(a b:V):zU P op t a b=iU (aU P op t a b):=by
 cases op<;>first
  |rfl
  |exact two_eq (fun k k' i j=>rfl) a b
theorem EU{P:Program}{op:Op}{run:Aa}(h:jw P op=.prim run)(r:Operand→Option V)(hp:Heap)(n:Nat):run r hp n=stepOp P op r hp n:=by
 cases op<;>simp only[jw]at h<;>first
  |(cases h;rfl;done)
  |skip
 case move x=>cases h; simp only[stepOp,jv]; cases r x<;>rfl
 case assign x=>cases h; simp only[stepOp,jv]; cases r x<;>rfl
 case pick c a b=>
  cases h
  simp only[stepOp,bC]
  cases hc:r c with
  |none=>rfl
  |some v=>
   cases v with
   |tup l=>rfl
   |u v=>cases v<;>first
    |rfl
    |skip
     rename_i x
     cases x<;>first
      |rfl
      |skip
     rename_i bb
     cases bb
     ·simp only[j9,jv,Bool.false_eq_true,if_false]; cases r b<;>rfl
     ·simp only[j9,jv,if_true]; cases r a<;>rfl
 case load t a=>
  cases h
  simp only[stepOp,bC]
  cases ha:r a with
  |none=>rfl
  |some v=>
   cases v with
   |tup l=>rfl
   |u v=>cases v<;>first
    |rfl
    |skip
     rename_i x
     cases x<;>rfl
 case fieldAddr s x f=>
  cases h
  simp only[stepOp,bC]
  cases hx:r x with
  |none=>rfl
  |some v=>
   cases v with
   |tup l=>rfl
   |u v=>cases v<;>first
    |rfl
    |skip
     rename_i x
     cases x<;>first
      |rfl
      |skip
     rename_i id off
     simp only[tf]
     unfold wJ
     cases hu:P.underlying s with
     |none=>rfl
     |some d=>
      cases d<;>first
       |rfl
       |skip
      rename_i fs
      simp only
      cases hf:fs[f]? with
      |none=>rfl
      |some fd=>
       simp only
       cases hs:cj P fd.type with
       |none=>rfl
       |some sz=>
        simp only
        by_cases h0:0<sz
        ·simp only[if_pos h0];rfl
        ·simp only[if_neg h0];rfl
 case binOp op t x y t'=>
  cases h
  simp only[stepOp,bC]
  cases hx:r x with
  |none=>rfl
  |some a=>
   cases hy:r y with
   |none=>rfl
   |some b=>
    simp only[FF]
    cases aU P op t a b<;>rfl
 case unOp u t x=>cases u<;>cases h<;>rfl
 case makeFunc f a b=>cases f<;>cases h<;>rfl
 case makeMap t q=>cases q<;>cases h<;>rfl
 case next x q=>cases q<;>cases h<;>rfl
 case call c=>
  obtain⟨callee,args,ats⟩:=c
  cases callee with
  |value f=>cases h
  |invoke a b=>cases h;rfl
  |builtin b=>
   cases b<;>cases h<;>simp only[stepOp,bC]<;>(cases ct r args.toList<;>first | rfl | skip)
   rename_i vs
   show pd P ats vs hp=cK P .len ats vs hp n
   cases vs with
   |nil=>rfl
   |cons v l=>cases l with
    |cons a b=>simp only[pd,cK]
    |nil=>
     simp only[pd,cK,iU]
     cases ats[0]? with
     |none=>rfl
     |some t=>simp only; cases gy P t v hp<;>rfl
theorem EF{P:Program}{op:Op}{f:Operand}{xs:List Operand}(h:jw P op=.call f xs):∃ats,op=.call {callee:=.value f,args:=xs.toArray,argTypes:=ats}:=by
 cases op<;>simp only[jw]at h<;>first
  |(cases h;done)
  |(split at h<;>cases h; done)
  |skip
 rename_i c
 obtain⟨callee,args,ats⟩:=c
 cases callee with
 |value f=>cases h;exact⟨ats,sm⟩
 |invoke a b=>cases h
 |builtin b=>cases b<;>cases h
structure St where
 A:T V
 H:T O
 n:Nat
/-- an operation of a region, made ready: from a state to a state -/
structure CS where
 st:bN→T V→T O→Nat→Option St
noncomputable def tW(a b:Bool):Bool:=@Bool.rec (fun _=>Bool) (@Bool.rec (fun _=>Bool) true false b) b a
/-- is it wanted? (the temporary that says it) -/
noncomputable def td(want:Bool)(v:Option V):Option Bool:=@Option.rec V (fun _=>Option Bool) none (fun v=>@V.rec (fun _=>Option Bool) (fun _=>bC (j9 v) fun b=>some (tW b want)) (fun l=>@List.rec U (fun _=>Option Bool) (some false) (fun _ _ _=>none) l) v) v
noncomputable def lW(A:T V)(dst:Option Tmp)(v:V):T V:=@Option.rec Tmp (fun _=>T V) A (fun d=>A.set d (some v)) dst
/-- behind a reckoning -/
noncomputable def yZ(A:T V)(dst:Option Tmp)(H:T O)(n:Nat)(ef:Option Ef):Option St:=
 @Option.rec Ef (fun _=>Option St) none (fun ef=>@Prod.rec V (List (Nat×Option O)×Nat) (fun _=>Option St) (fun v q=>@Prod.rec (List (Nat×Option O)) Nat (fun _=>Option St) (fun us j=>
  @List.rec (Nat×Option O) (fun _=>Option St) (some ⟨lW A dst v,H,Nat.add n j⟩) (fun u us _=>@Bool.rec (fun _=>Option St) none (some ⟨lW A dst v,nk H (u::us),Nat.add n j⟩) (k_ (u::us))) us) q) ef) ef
noncomputable def tt(P:Program)(call:bN)(dst:Option Tmp)(A:T V)(H:T O)(n:Nat)(f:Option V)(args:Option (List V)):Option St:=
 match f,args with
 |some (.u (.fn g caps)),some args=>match bX P g with
  |true=>match call g (args++caps.map fun x=>.u (.f x)) H n with
   |some (v,H',n')=>some ⟨lW A dst v,H',n'⟩
   |none=>none
  |false=>none
 |_,_=>none
/-- an operation, wanted -/
noncomputable def p'(P:Program)(dst:Option Tmp)(k:CK):CS:=match k with
 |.prim run=>⟨fun _ A H n=>yZ A dst H n (run (aZ A.get) H.get n)⟩
 |.call f xs=>⟨fun call A H n=>tt P call dst A H n (aZ A.get f) (ct (aZ A.get) xs)⟩
/-- an operation -/
noncomputable def nD(P:Program)(ops:Array Oper)(o:Oper):CS:=match o.guard with
 |none=>p' P o.dst (jw P o.op)
 |some (j,want)=>match(ops[j]?).bind (·.dst)with
  |some d=>⟨fun call A H n=>bC (td want (A.get d)) fun b=>@Bool.rec (fun _=>Option St) (some ⟨lW A o.dst cy,H,n⟩) ((p' P o.dst (jw P o.op)).st call A H n) b⟩
  |none=>⟨fun _ _ _ _=>none⟩
noncomputable def lV(P:Program)(ops:Array Oper):List Oper→List CS
 |[]=>[]
 |o::r=>nD P ops o::lV P ops r
noncomputable def te(o:Option St)(k:T V→T O→Nat→Option St):Option St:=@Option.rec St (fun _=>Option St) none (fun s=>@St.rec (fun _=>Option St) k s) o
noncomputable def ng(call:bN)(l:List CS):T V→T O→Nat→Option St:=
 @List.rec CS (fun _=>T V→T O→Nat→Option St) (fun A H n=>some ⟨A,H,n⟩) (fun c _ ih A H n=>te (c.st call A H n) ih) l
/-- what was done in a region that draws: which operation, from what, to what -/
structure fH where
 i:Nat
 o:Oper
 want:Bool
 A:T V
 H:T O
 lo:Nat
 H':T O
 hi:Nat
noncomputable def th(ops:Array Oper)(A:T V)(o:Oper):Option Bool:=match o.guard with
 |none=>some true
 |some (j,want)=>match(ops[j]?).bind (·.dst)with
  |some d=>td want (A.get d)
  |none=>none
noncomputable def lO(P:Program)(call:bN)(ops:Array Oper):List Nat→St→Option (List fH×St)
 |[],s=>some ([],s)
 |i::L,s=>
  match ops[i]? with
  |some o=>match(nD P ops o).st call s.A s.H s.n with
   |some s1=>match lO P call ops L s1 with
    |some (rs,s')=>match th ops s.A o with
     |some w=>some (⟨i,o,w,s.A,s.H,s.n,s1.H,s1.n⟩::rs,s')
     |none=>none
    |none=>none
   |none=>none
  |none=>none
noncomputable def pR(m:Nat)(o:Oper):Bool:=match o.dst with | some d=>d<m&&d<dU | none=>true
noncomputable def dx(P:Program)(op:Op):Nat:=match bY P op with | .quiet=>0 | .fresh=>1 | .eff=>2
/-- does a quiet operation read the heap? -/
noncomputable def jW:Op→Bool
 |.load .. | .slice .. | .lookup .. | .convert ..=>true
 |.call {callee:=.builtin .len,..}=>true
 |_=>false
noncomputable def lU:F→F→Bool
 |.int k a,.int j b=>k == j&&a == b
 |.bool a,.bool b=>a == b
 |.str a,.str b=>a == b
 |.ptr0,.ptr0=>true
 |.ptr a b,.ptr c d=>a == c&&b == d
 |.sl0,.sl0=>true
 |.sl a b c d e,.sl a' b' c' d' e'=>a == a'&&b == b'&&c == c'&&d == d'&&e == e'
 |.map0,.map0=>true
 |.map a,.map b=>a == b
 |.nilf,.nilf=>true
 |_,_=>false
noncomputable def ii{α:Type}(f:α→α→Bool):List α→List α→Bool
 |[],[]=>true
 |a::l,b::k=>f a b&&ii f l k
 |_,_=>false
noncomputable def lZ:U→U→Bool
 |.f a,.f b=>lU a b
 |.agg a,.agg b=>ii lU a b
 |.fn g a,.fn j b=>g == j&&ii lU a b
 |_,_=>false
noncomputable def j6:V→V→Bool
 |.u a,.u b=>lZ a b
 |.tup a,.tup b=>ii lZ a b
 |_,_=>false
noncomputable def tN:Option V→Option V→Bool
 |none,none=>true
 |some a,some b=>j6 a b
 |_,_=>false
noncomputable def oU(P:Program)(q:fH)(H:T O):Option V:=match stepOp P q.o.op (aZ q.A.get) H.get 0 with | some ef=>some ef.1 | none=>none
/-- nothing that a quiet operation reads is turned by one that is not ordered with it -/
noncomputable def oX(P:Program)(b:Nat→Nat)(rs:List fH):Bool:=
 rs.all fun x=> !x.want || dx P x.o.op == 0 || rs.all fun q=>q.i == x.i || !q.want || dx P q.o.op != 0 || !jW q.o.op || (b x.i).testBit q.i || (b q.i).testBit x.i || tN (oU P q x.H) (oU P q x.H')
/-- an order: ahead of each effect just what it needs -/
noncomputable def pW(bits:Nat):List Nat→Nat×List Nat→Nat×List Nat
 |[],d=>d
 |i::l,(done,acc)=>pW bits l (if bits.testBit i&& !done.testBit i then(done ||| 2 ^ i,i::acc)else(done,acc))
noncomputable def yS(P:Program)(b:Nat→Nat)(n:Nat):List (Oper×Nat)→Nat×List Nat→Nat×List Nat
 |[],d=>d
 |(o,i)::l,d=>yS P b n l (if dx P o.op == 2 then(pW (2 ^ i) (List.range n) (pW (b i) (List.range n) d))else d)
noncomputable def nf(P:Program)(b:Nat→Nat)(ops:Array Oper):List Nat:=
 (pW (2 ^ ops.size-1) (List.range ops.size) (yS P b ops.size ops.toList.zipIdx (0,[]))).2.reverse
noncomputable def F9(ops:Array Oper):Array Nat:=Region.before ops
noncomputable def jz(ops:Array Oper)(i:Nat):Nat:=(F9 ops).getD i 0
/-- code made ready -/
inductive CC where
 |skip
 |exit (i:Nat)
 |ret
 |region (l:List CS)
 |drawn (ops:Array Oper) (L:List Nat) (b:Nat→Nat)
 |seq (a b:CC)
 |cond (x:Operand) (a b:CC)
 |block (id:Nat) (a:CC)
 |loop (a:CC)
 |bad
noncomputable def dk(P:Program):Code→CC
 |.skip=>.skip
 |.exit i=>.exit i
 |.ret=>.ret
 |.region _ ops d=>match d with
  |false=>.region (lV P ops ops.toList)
  |true=>.drawn ops (nf P (jz ops) ops) (jz ops)
 |.seq a b=>.seq (dk P a) (dk P b)
 |.cond x a b=>.cond x (dk P a) (dk P b)
 |.block id a=>.block id (dk P a)
 |.loop a=>.loop (dk P a)
 |_=>.bad
noncomputable def yy(args:List V)(fn:Func):Bool:=match Nat.ble args.length fn.ntmps with | true=>Nat.ble (Nat.succ fn.ntmps) dU | false=>false
noncomputable def zV(P:Program)(fn:Func):Exit→St→Option (V×T O×Nat)
 |.normal,s | .ret,s=>match c_ P s.A.get s.H.get fn.results.toList with
  |some vs=>match g_ vs with
   |some v=>some (v,s.H,s.n)
   |none=>none
  |none=>none
 |_,_=>none
/-- a function's body, made ready -/
noncomputable def zc(P:Program)(f:FuncId):Option (Func×CC):=@Option.rec Func (fun _=>Option (Func×CC)) none (fun fn=>@Option.rec Code (fun _=>Option (Func×CC)) none (fun c=>some (fn,dk P c)) fn.body) P.funcs[f]?
noncomputable def je(P:Program)(orc:bN)(ev:CC→St→Option (Exit×St)):bN:=fun f args H n=>
 match orc f args H n with
 |some r=>some r
 |none=>match zc P f with
  |some (fn,c)=>match yy args fn with
   |true=>match ev c ⟨T.ofList args 0 .leaf,H,n⟩with
    |some (x,s')=>zV P fn x s'
    |none=>none
   |false=>none
  |none=>none
noncomputable def lL(x:Option (Exit×St))(k:St→Option (Exit×St)):Option (Exit×St):=@Option.rec (Exit×St) (fun _=>Option (Exit×St)) none (fun p=>@Prod.rec Exit St (fun _=>Option (Exit×St)) (fun e s=>@Exit.rec (fun _=>Option (Exit×St)) (k s) (fun i=>some (.exit i,s)) (fun i=>some (.goto i,s)) (some (.ret,s)) (fun c=>some (.panic c,s)) (some (.outgrown,s)) e) p) x
noncomputable def zg(x:Option St):Option (Exit×St):=@Option.rec St (fun _=>Option (Exit×St)) none (fun s=>some (.normal,s)) x
noncomputable def tk(P:Program)(b:Nat→Nat)(x:Option (List fH×St)):Option (Exit×St):=match x with
 |some (rs,s')=>match oX P b rs with | true=>some (.normal,s') | false=>none
 |none=>none
noncomputable def s_(v:Option V)(x y:Option (Exit×St)):Option (Exit×St):=bC v fun v=>bC (j9 v) fun t=>@Bool.rec (fun _=>Option (Exit×St)) y x t
noncomputable def sW(id:Nat)(x:Option (Exit×St)):Option (Exit×St):=match x with
 |some (x,s')=>some (mD id x,s')
 |none=>none
/-- one level: what lies below is 'ev' -/
noncomputable def sG(P:Program)(orc:bN)(ev:CC→St→Option (Exit×St))(c:CC)(s:St):Option (Exit×St):=
 @CC.rec (fun _=>Option (Exit×St)) (some (.normal,s)) (fun i=>some (.exit i,s)) (some (.ret,s)) (fun l=>zg (@St.rec (fun _=>Option St) (fun A H n=>ng (je P orc ev) l A H n) s)) (fun ops L b=>tk P b (lO P (je P orc ev) ops L s))
  (fun a b _ _=>lL (ev a s) (ev b)) (fun x a b _ _=>s_ (aZ s.A.get x) (ev a s) (ev b s)) (fun id b _=>sW id (ev b s)) (fun b _=>lL (ev b s) (ev (.loop b))) none c
noncomputable def Ah(P:Program)(orc:bN)(k:Nat):CC→St→Option (Exit×St):=
 @Nat.rec (fun _=>CC→St→Option (Exit×St)) (fun _ _=>none) (fun _ ih=>sG P orc ih) k
/-- a call, from a heap -/
noncomputable def iJ(P:Program)(orc:bN)(k:Nat)(f:FuncId)(args:List V)(H:T O)(n:Nat):Option (V×T O×Nat):=je P orc (Ah P orc k) f args H n
end Go.Proofs.YtkimkgbppegkhaaGreat.Cm

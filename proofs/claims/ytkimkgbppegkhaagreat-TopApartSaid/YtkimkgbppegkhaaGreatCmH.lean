/- The clean machine's operations are the true ones' (3): tests, sums, turns of kind, addresses, cuts. No program is walked here. -/
import Derived.Test.YtkimkgbppegkhaaGreatCmE
set_option linter.unusedVariables false
set_option linter.unusedSimpArgs false
namespace Go.Proofs.YtkimkgbppegkhaaGreat.Cm
open Go Go.RowKit
section
variable {P:Program} {o:Oper} {ρ:Operand→Value} {ε:Env} {H:Heap} {n:Nat} {w:World} {ef:Ef} {r:Operand→Option V}
theorem oN{v:V}{a:Nat}(hv:dP v=some a){x:Value}(hx:ba ε v x):∃k,x=.int k a:=by
 unfold dP at hv
 split at hv
 ·rename_i k m
  cases hv
  exact⟨k,hx⟩
 ·cases hv
theorem yY{x:Operand}(hr:∀x u,r x=some u→ba ε u (ρ x))(R:bh ε H w)(ho:o.op=.move x∨o.op=.assign x)(h:stepOp P o.op r H n=some ef):Ok P o ρ ε H n w ef:=by
 rcases ho with ho | ho<;>
 ·rw[ho]at h
  simp only[stepOp,Option.map_eq_some_iff]at h
  obtain⟨v,hv,rfl⟩:=h
  exact Ok.pure R (by simp[execOp,ho]) (hr x v hv)
theorem GO{c a b:Operand}(hr:∀x u,r x=some u→ba ε u (ρ x))(R:bh ε H w)(ho:o.op=.pick c a b)(h:stepOp P o.op r H n=some ef):Ok P o ρ ε H n w ef:=by
 rw[ho]at h
 simp only[stepOp]at h
 split at h
 ·rename_i t ht
  have hc:ρ c=.bool t:=hr c _ ht
  simp only[Option.map_eq_some_iff]at h
  obtain⟨v,hv,rfl⟩:=h
  refine Ok.pure R (rv:=ρ (if t then a else b)) ?_ (hr _ v hv)
  cases t<;>simp[execOp,ho,hc,asBool]
 ·cases h
theorem Cp{x:Operand}(hr:∀x u,r x=some u→ba ε u (ρ x))(R:bh ε H w)(ho:o.op=.nilCheck x)(h:stepOp P o.op r H n=some ef):Ok P o ρ ε H n w ef:=by
 rw[ho]at h
 simp only[stepOp]at h
 split at h
 ·rename_i id off hv
  cases h
  obtain⟨b,K,he,ha⟩:=hr x _ hv
  exact Ok.pure R (by simp[execOp,ho,ha]) ⟨b,K,he,rfl⟩
 ·rename_i g c hv
  cases h
  obtain⟨l,ha,hl⟩:=hr x _ hv
  exact Ok.pure R (by simp[execOp,ho,ha]) ⟨l,rfl,hl⟩
 ·cases h
theorem Hi{t:TypeId}{x:Operand}(hr:∀x u,r x=some u→ba ε u (ρ x))(R:bh ε H w)(ho:o.op=.unOp .not t x)(h:stepOp P o.op r H n=some ef):Ok P o ρ ε H n w ef:=by
 rw[ho]at h
 simp only[stepOp]at h
 split at h
 ·rename_i b hv
  cases h
  have ha:ρ x=.bool b:=hr x _ hv
  exact Ok.pure R (rv:=.bool !b) (by simp[execOp,ho,ha,Op.unary]) rfl
 ·cases h
theorem Ee{x:Operand}{i:Nat}(hr:∀x u,r x=some u→ba ε u (ρ x))(R:bh ε H w)(ho:o.op=.extract x i)(h:stepOp P o.op r H n=some ef):Ok P o ρ ε H n w ef:=by
 rw[ho]at h
 simp only[stepOp]at h
 split at h
 ·rename_i xs hv
  obtain⟨l,ha,hl⟩:=hr x _ hv
  split at h
  ·rename_i u hu
   cases h
   obtain⟨v,g1,g2⟩:=hl.get i u hu
   exact Ok.pure R (rv:=v) (by simp[execOp,ho,ha,Instr.extract,g1]) g2
  ·cases h
 ·cases h
theorem xk:∀(vs:List V) (l:List F) (rs:List Value),vs.mapM (fun v=>match v with | .u (.f x)=>some x | _=>none)=some l→aw (ba ε) vs rs→aw (aT ε) l rs
 |[],l,[],h,_=>by simp at h;subst h;trivial
 |v::vs,l,x::rs,h,H=>by
  simp only[List.mapM_cons,Option.bind_eq_bind,Option.bind_eq_some_iff,Option.pure_def,Option.some.injEq]at h
  obtain⟨y,h1,k,h2,rfl⟩:=h
  refine⟨?_,xk vs k rs h2 H.2⟩
  split at h1
  ·cases h1;exact H.1
  ·cases h1
 |[],_,_::_,_,H=>H.elim
 |_::_,_,[],_,H=>H.elim
theorem CL{g:Nat}{first caps:Array Operand}(hr:∀x u,r x=some u→ba ε u (ρ x))(R:bh ε H w)(ho:o.op=.makeFunc (.func g) first caps)(h:stepOp P o.op r H n=some ef):Ok P o ρ ε H n w ef:=by
 rw[ho]at h
 simp only[stepOp]at h
 split at h
 ·rename_i hfs
  split at h
  ·rename_i vs hvs
   split at h
   ·rename_i l hl
    cases h
    have:=xk vs l _ hl (oA hr _ _ hvs)
    have hf0:first=#[]:=by simpa using hfs
    exact Ok.pure R (rv:=.func (.func g) #[] (caps.map ρ)) (by simp[execOp,ho,Instr.makeFunc,hf0]) ⟨(caps.toList.map ρ),(by congr 1;apply Array.ext';simp),this⟩
   ·cases h
  ·cases h
 ·cases h
theorem Dn{t:TypeId}(R:bh ε H w)(hf:cI ε n (n+ef.2.2))(ho:o.op=.makeMap t none)(h:stepOp P o.op r H n=some ef):Ok P o ρ ε H n w ef:=by
 rw[ho]at h
 simp only[stepOp]at h
 split at h
 ·rename_i k e hu
  cases h
  have S:=ou (o:=.mp []) (K:=0) R (hf n om sm) (gI w (.map #[] 0)) ⟨_,_,#[],cJ _ _ _,(gI w _).new,trivial,rfl⟩
  exact⟨.map (some w.heap.size),w.alloc (.map #[] 0),_,.inl (by simp[execOp,ho,Instr.makeMap]),⟨_,_,cJ _ _ _,rfl⟩,by simpa[bL]using S⟩
 ·cases h
theorem Bb{s:TypeId}{x:Operand}{f:Nat}(hr:∀x u,r x=some u→ba ε u (ρ x))(R:bh ε H w)(ho:o.op=.fieldAddr s x f)(h:stepOp P o.op r H n=some ef):Ok P o ρ ε H n w ef:=by
 rw[ho]at h
 simp only[stepOp]at h
 split at h
 ·rename_i id off fs hv hu
  obtain⟨b,K,he,ha⟩:=hr x _ hv
  split at h
  ·rename_i fd hfd
   split at h
   ·rename_i sz hsz
    obtain⟨i,hi,rfl⟩:=f_ hsz
    split at h
    ·rename_i hpos
     cases h
     refine Ok.pure R (rv:=.pointer (some ⟨b,off+fd.offset,none⟩)) ?_ ⟨b,K,he,rfl⟩
     simp[execOp,ho,ha,Instr.fieldAt,be hu,hfd,Instr.sureAddr,fieldPlace,db hi,Nat.ne_of_gt hpos,iy]
    ·cases h
   ·cases h
  ·cases h
 ·cases h
theorem A4{t:TypeId}{x i:Operand}(hr:∀x u,r x=some u→ba ε u (ρ x))(R:bh ε H w)(ho:o.op=.indexAddr t x i)(h:stepOp P o.op r H n=some ef):Ok P o ρ ε H n w ef:=by
 rw[ho]at h
 simp only[stepOp]at h
 split at h
 ·rename_i x' iv hx hi
  split at h
  ·rename_i k len e id off hk hu
   obtain⟨ik,hik⟩:=oN hk (hr i _ hi)
   obtain⟨b,K,he,ha⟩:=hr x _ hx
   split at h
   ·rename_i sz hsz
    obtain⟨ie,hie,rfl⟩:=f_ hsz
    split at h
    ·rename_i hlt
     cases h
     refine Ok.pure R (rv:=.pointer (some ⟨b,off+k*ie.size,none⟩)) ?_ ⟨b,K,he,rfl⟩
     simp only[execOp,ho,ha,hik,Instr.indexAt,asIntOf,Sem.run_bind,Sem.run_pure,Result.andThen_ok,be hu,Instr.sureAddr]
     rw[if_pos ⟨Int.natCast_nonneg _,Int.ofNat_lt.2 hlt⟩]
     simp only[Sem.run_bind,db hie,Result.andThen_ok,Sem.run_pure,Int.toNat_natCast,iy]
    ·cases h
   ·cases h
  ·rename_i k e id off sz len cap hk hu
   obtain⟨ik,hik⟩:=oN hk (hr i _ hi)
   obtain⟨b,K,ad,c,he,ha,hc,hlc,hK⟩:=hr x _ hx
   split at h
   ·rename_i sz' hsz
    obtain⟨ie,hie,rfl⟩:=f_ hsz
    split at h
    ·rename_i hq
     obtain⟨rfl,hlt⟩:=hq
     cases h
     have had:=hc om
     subst had
     refine Ok.pure R (rv:=.pointer (some ⟨b,off+k*ie.size,none⟩)) ?_ ⟨b,K,he,rfl⟩
     simp only[execOp,ho,ha,hik,Instr.indexAt,asIntOf,Sem.run_bind,Sem.run_pure,Result.andThen_ok,be hu]
     rw[if_pos ⟨Int.natCast_nonneg _,Int.ofNat_lt.2 hlt⟩]
     simp only[Sem.run_bind,db hie,Result.andThen_ok,Sem.run_pure,Int.toNat_natCast,iy]
    ·cases h
   ·cases h
  ·cases h
 ·cases h
theorem FP{t:TypeId}{x i:Operand}(hr:∀x u,r x=some u→ba ε u (ρ x))(R:bh ε H w)(ho:o.op=.index t x i)(h:stepOp P o.op r H n=some ef):Ok P o ρ ε H n w ef:=by
 rw[ho]at h
 simp only[stepOp]at h
 split at h
 ·rename_i s iv hx hi
  have ha:ρ x=.string ⟨s.toArray⟩:=hr x _ hx
  split at h
  ·rename_i k hk hu
   obtain⟨ik,hik⟩:=oN hk (hr i _ hi)
   split at h
   ·rename_i b hb
    cases h
    refine Ok.pure R (rv:=.int .u8 b.toNat) ?_ rfl
    have hlt:k<s.length:=by
     rcases Nat.lt_or_ge k s.length with h' | h'
     ·exact h'
     ·rw[List.getElem?_eq_none h']at hb;cases hb
    have hb':(⟨s.toArray⟩:ByteArray)[k]?=some b:=by
     rw[getElem?_pos _ k (by show k<s.toArray.size;simpa using hlt)]
     rw[List.getElem?_eq_getElem hlt]at hb
     show some (s.toArray[k]'(by simpa using hlt))=some b
     simpa using hb
    simp only[execOp,ho,ha,hik,Instr.index,asIntOf,Sem.run_bind,Sem.run_pure,Result.andThen_ok,be hu,Int.natCast_nonneg,if_true,Int.toNat_natCast,hb']
   ·cases h
  ·cases h
 ·cases h
end
end Go.Proofs.YtkimkgbppegkhaaGreat.Cm
namespace Go.Proofs.YtkimkgbppegkhaaGreat.Cm
open Go Go.RowKit
section
variable {P:Program} {o:Oper} {ρ:Operand→Value} {ε:Env} {H:Heap} {n:Nat} {w:World} {ef:Ef} {r:Operand→Option V}
/-- a cut's bounds -/
def pn:Option Nat→Option Value→Prop
 |none,none=>True
 |some n,some v=>∃k,v=.int k n
 |_,_=>False
theorem qT(hr:∀x u,r x=some u→ba ε u (ρ x)){x:Option Operand}{a:Option Nat}(h:cR r x=some a):pn a (x.map ρ):=by
 cases x with
 |none=>simp[cR]at h;subst h;trivial
 |some x=>
  simp only[cR]at h
  split at h
  ·rename_i v hv
   split at h
   ·rename_i k hk
    cases h
    exact oN hk (hr x v hv)
   ·cases h
  ·cases h
theorem DH(k:IntKind)(a y:Nat)(code:BoundsCode)(h:a≤y)(w:World):(Instr.sliceBound (.int k a) y code).run P w=.ok a w:=by
 simp only[Instr.sliceBound,asIntOf,Sem.run_bind,Sem.run_pure,Result.andThen_ok]
 rw[if_pos ⟨Int.natCast_nonneg _,Int.ofNat_le.2 h⟩]
 simp
theorem qR{isSlice:Bool}{len cap known:Nat}{capx lo hi mx:Option Nat}{vlo vhi vmx:Option Value}{l h':Nat}{m:Option Nat}(hk:known≤cap)(h:d8 len known capx lo hi mx=some (l,h',m))
 (hlo:pn lo vlo) (hhi:pn hi vhi) (hmx:pn mx vmx) (w:World):
 ∃m',(Instr.sliceBounds isSlice len cap vlo vhi vmx).run P w=.ok (l,h',m') w∧l≤h'∧h'≤m'∧m'≤cap∧(match mx with | some x=>m=some x∧m'=x | none=>m=capx∧m'=cap):=by
 have rb:=fun k a y c h=>DH (P:=P) k a y c h w
 unfold d8 at h
 cases mx with
 |some x=>
  cases vmx with
  |none=>exact hmx.elim
  |some vx=>
   obtain⟨kx,rfl⟩:=hmx
   cases hi with
   |none=>cases h
   |some y=>
    cases vhi with
    |none=>exact hhi.elim
    |some vy=>
     obtain⟨ky,rfl⟩:=hhi
     simp only[Option.ite_none_right_eq_some,Option.some.injEq,Prod.mk.injEq]at h
     obtain⟨⟨c1,c2,c3⟩,rfl,rfl,rfl⟩:=h
     refine⟨x,?_,c3,c2,om,rfl,rfl⟩
     have e1:=fun c=>rb kx x cap c om
     have e2:=fun c=>rb ky y x c c2
     cases lo with
     |none=>
      cases vlo with
      |some v=>exact hlo.elim
      |none=>simp only[Instr.sliceBounds,Sem.run_bind,e1,e2,Result.andThen_ok,Sem.run_pure,Option.getD_none]
     |some z=>
      cases vlo with
      |none=>exact hlo.elim
      |some v=>
       obtain⟨kz,rfl⟩:=hlo
       have e3:=fun c=>rb kz z y c c3
       simp only[Instr.sliceBounds,Sem.run_bind,e1,e2,e3,Result.andThen_ok,Sem.run_pure,Option.getD_some]
 |none=>
  cases vmx with
  |some v=>exact hmx.elim
  |none=>
   simp only[Option.ite_none_right_eq_some,Option.some.injEq,Prod.mk.injEq]at h
   obtain⟨⟨c1,c2⟩,rfl,rfl,rfl⟩:=h
   refine⟨cap,?_,c2,om,Nat.le_refl _,rfl,rfl⟩
   cases hi with
   |none=>
    cases vhi with
    |some v=>exact hhi.elim
    |none=>
     cases lo with
     |none=>
      cases vlo with
      |some v=>exact hlo.elim
      |none=>simp only[Instr.sliceBounds,Sem.run_bind,Result.andThen_ok,Sem.run_pure,Option.getD_none]
     |some z=>
      cases vlo with
      |none=>exact hlo.elim
      |some v=>
       obtain⟨kz,rfl⟩:=hlo
       have e3:=fun c=>rb kz z len c c2
       simp only[Instr.sliceBounds,Sem.run_bind,e3,Result.andThen_ok,Sem.run_pure,Option.getD_some,Option.getD_none]
   |some y=>
    cases vhi with
    |none=>exact hhi.elim
    |some vy=>
     obtain⟨ky,rfl⟩:=hhi
     have e2:=fun c=>rb ky y cap c (by simp only[Option.getD_some]at c1;omega)
     cases lo with
     |none=>
      cases vlo with
      |some v=>exact hlo.elim
      |none=>simp only[Instr.sliceBounds,Sem.run_bind,e2,Result.andThen_ok,Sem.run_pure,Option.getD_none,Option.getD_some]
     |some z=>
      cases vlo with
      |none=>exact hlo.elim
      |some v=>
       obtain⟨kz,rfl⟩:=hlo
       have e3:=fun c=>rb kz z y c c2
       simp only[Instr.sliceBounds,Sem.run_bind,e2,e3,Result.andThen_ok,Sem.run_pure,Option.getD_some]
theorem Fy{id L b K:Nat}(R:bh ε H w)(h:(H id).bind gj=some L)(he:ε id=some (b,K)):L≤K:=by
 cases ho:H id with
 |none=>rw[ho]at h;cases h
 |some o=>
  rw[ho]at h
  have h:gj o=some L:=h
  have r:=R.obj id o ho
  cases o with
  |mp es=>cases h
  |it m=>cases h
  |cells cs ex=>
   cases h
   obtain⟨b',K',rcs,elem,fz,h1,h2,h3,h4,h5,h6⟩:=r
   rw[he]at h1;cases h1
   have:=i9 h4
   omega
  |whole rcs elem fz=>
   cases h
   obtain⟨b',K',h1,h2,h3⟩:=r
   rw[he]at h1;cases h1
   omega
theorem FM{t:TypeId}{x:Operand}{lo hi mx:Option Operand}(hr:∀x u,r x=some u→ba ε u (ρ x))(R:bh ε H w)(ho:o.op=.slice t x lo hi mx)(h:stepOp P o.op r H n=some ef):Ok P o ρ ε H n w ef:=by
 rw[ho]at h
 simp only[stepOp]at h
 split at h
 ·rename_i x' lo' hi' mx' hx hlo hhi hmx
  have rlo:=qT hr hlo
  have rhi:=qT hr hhi
  have rmx:=qT hr hmx
  split at h
  ·rename_i k e id off hu
   obtain⟨b,K,he,ha⟩:=hr x _ hx
   split at h
   ·rename_i sz cs hsz hc
    obtain⟨ie,hie,rfl⟩:=f_ hsz
    obtain⟨b',K',rcs,elem,fz,h1,h2,h3,h4,h5,h6⟩:=R.obj id _ hc
    rw[he]at h1;cases h1
    split at h
    ·rename_i l h' m hcut
     split at h
     ·rename_i hq
      obtain⟨q1,q2⟩:=hq
      cases h
      obtain⟨m',g1,g2,g3,g4,g5⟩:=qR (P:=P) (isSlice:=false) (cap:=k) (Nat.le_refl _) hcut rlo rhi rmx w
      have hm:m'=m:=by
       cases mx' with
       |some y=>obtain⟨a,b⟩:=g5;injection a with a;omega
       |none=>obtain⟨a,b⟩:=g5;injection a with a;omega
      subst hm
      refine Ok.pure R (rv:=.slice (some (if m'=l then⟨b,off,none⟩else(⟨b,off,none⟩:Addr).add (l*ie.size))) (h'-l) (m'-l)) ?_ ⟨b,K,_,_,he,rfl,fun hpos=>?_,om,rfl⟩
      ·simp only[execOp,ho,ha,Instr.sliceAt,Sem.run_bind,be hu,Result.andThen_ok,Instr.sureAddr,Sem.run_pure,g1,db hie]
      ·rw[if_neg om,iy]
     ·cases h
    ·cases h
   ·cases h
  ·rename_i e hu
   have ha:ρ x=.slice none 0 0:=hr x _ hx
   split at h
   ·rename_i sz cc hsz hcut
    cases h
    obtain⟨ie,hie,rfl⟩:=f_ hsz
    obtain⟨l,h',m⟩:=cc
    obtain⟨m',g1,g2,g3,g4,g5⟩:=qR (P:=P) (isSlice:=true) (cap:=0) (Nat.le_refl _) hcut rlo rhi rmx w
    refine Ok.pure R (rv:=.slice none 0 0) ?_ rfl
    have e1:m'=0:=by omega
    have e2:h'=0:=by omega
    have e3:l=0:=by omega
    subst e1 e2 e3
    simp only[execOp,ho,ha,Instr.sliceAt,Sem.run_bind,be hu,Result.andThen_ok,Instr.slice,Sem.run_pure,g1,db hie,if_true,Nat.sub_self]
   ·cases h
  ·rename_i e id off sz len cap hu
   obtain⟨b,K,ad,c,he,ha,hc,hlc,hK⟩:=hr x _ hx
   split at h
   ·rename_i sz' L hsz hL
    obtain⟨ie,hie,rfl⟩:=f_ hsz
    have hlen:=Fy R hL he
    split at h
    ·rename_i l h' m hcut
     split at h
     ·rename_i hq
      obtain⟨rfl,q2,q3⟩:=hq
      cases h
      generalize hkn:cap.getD ((L-off)/ie.size)=kn at hcut
      have hknown:kn≤c:=by
       cases cap with
       |some c'=>simp only[Option.getD_some]at hK hkn;omega
       |none=>
        simp only[Option.getD_none]at hK hkn
        rw[←hkn]
        refine Nat.div_le_of_le_mul ?_
        rw[Nat.mul_comm]
        omega
      obtain⟨m',g1,g2,g3,g4,g5⟩:=qR (P:=P) (isSlice:=true) hknown hcut rlo rhi rmx w
      refine Ok.pure R (rv:=.slice (if m'=l then some ad else(some ad).map (·.add (l*ie.size))) (h'-l) (m'-l)) ?_ ?_
      ·simp only[execOp,ho,ha,Instr.sliceAt,Sem.run_bind,be hu,Result.andThen_ok,Instr.slice,Sem.run_pure,g1,db hie]
      ·refine⟨b,K,(if m'=l then ad else ad.add (l*ie.size)),m'-l,he,?_,fun hpos=>?_,om,?_⟩
       ·split<;>rfl
       ·rw[if_neg om,hc om,iy]
       ·cases mx' with
        |some y=>
         obtain⟨a,b⟩:=g5
         subst a b
         rfl
        |none=>
         obtain⟨a,b⟩:=g5
         subst a b
         cases m with
         |some c'=>simp only[Option.map_some]at hK⊢;omega
         |none=>
          simp only[Option.map_none]at hK⊢
          have:l*ie.size+(m'-l)*ie.size=m'*ie.size:=by rw[←Nat.add_mul];congr 1;omega
          omega
     ·cases h
    ·cases h
   ·cases h
  ·cases h
 ·cases h
end
end Go.Proofs.YtkimkgbppegkhaaGreat.Cm
namespace Go.Proofs.YtkimkgbppegkhaaGreat.Cm
open Go Go.RowKit
section
variable {P:Program} {o:Oper} {ρ:Operand→Value} {ε:Env} {H:Heap} {n:Nat} {w:World} {ef:Ef} {r:Operand→Option V}
theorem me{t:TypeId}{d:TypeDesc}(hu:P.underlying t=some d)(hd:d=.bool∨∃k,d=.int k){cs:Array Value}{i:Nat}{v:Value}(h:cs[i]?=some v)(w:World):(part t cs i).run P w=.ok v w:=by
 have:h_ P t=some false:=by
  unfold h_
  rcases hd with rfl | ⟨k,rfl⟩<;>simp[hu]
 simp only[part,Sem.run_bind,kZ this,Result.andThen_ok,Bool.false_eq_true,if_false,h,Sem.run_pure]
theorem nG(d:Nat):∀(fs:List Field) (off:Nat) (ks:List Bool) (xs ys:List F) (X Y:Array Value) (b:Bool),ir P fs off=some ks→cm ks xs ys=some b→
 aw (aT ε) xs (X.toList.drop off)→aw (aT ε) ys (Y.toList.drop off)→(Op.eqFields (d+1) X Y fs).run P w=.ok b w
 |[],off,ks,xs,ys,X,Y,b,h,he,_,_=>by
  simp only[ir]at h;cases h
  cases xs<;>cases ys<;>simp[cm]at he
  subst he
  rfl
 |f::fs,off,ks,xs,ys,X,Y,b,h,he,hx,hy=>by
  simp only[ir]at h
  split at h
  ·rename_i kb l hk hl
   simp only[Option.ite_none_right_eq_some,Option.some.injEq]at h
   obtain⟨⟨hn,ho⟩,rfl⟩:=h
   subst ho
   have step:∀(x y:F) (xs' ys':List F) (vx vy:Value) (c:Bool),xs=x::xs'→ys=y::ys'→cm l xs' ys'=some c→
    aw (aT ε) xs' (X.toList.drop (f.offset+1))→aw (aT ε) ys' (Y.toList.drop (f.offset+1))→(Op.eqFields (d+1) X Y fs).run P w=.ok c w:=fun x y xs' ys' vx vy c _ _ hc h1 h2=>nG d fs (f.offset+1) l xs' ys' X Y c hl hc h1 h2
   cases hxl:X.toList.drop f.offset with
   |nil=>rw[hxl]at hx; cases xs<;>first | (cases kb<;>simp[cm]at he) | exact hx.elim
   |cons vx X'=>
    cases hyl:Y.toList.drop f.offset with
    |nil=>rw[hyl]at hy; cases ys<;>first | (cases kb<;>cases xs<;>simp[cm]at he) | exact hy.elim
    |cons vy Y'=>
     rw[hxl]at hx;rw[hyl]at hy
     have hX:X[f.offset]?=some vx:=by
      have:(X.toList.drop f.offset)[0]?=some vx:=by rw[hxl];rfl
      rw[List.getElem?_drop]at this
      simpa using this
     have hY:Y[f.offset]?=some vy:=by
      have:(Y.toList.drop f.offset)[0]?=some vy:=by rw[hyl];rfl
      rw[List.getElem?_drop]at this
      simpa using this
     have hX':X.toList.drop (f.offset+1)=X':=by
      have:(X.toList.drop f.offset).drop 1=X':=by rw[hxl];rfl
      rwa [List.drop_drop]at this
     have hY':Y.toList.drop (f.offset+1)=Y':=by
      have:(Y.toList.drop f.offset).drop 1=Y':=by rw[hyl];rfl
      rwa [List.drop_drop]at this
     cases xs with
     |nil=>cases kb<;>simp[cm]at he
     |cons x xs'=>
      cases ys with
      |nil=>cases kb<;>cases x<;>simp[cm]at he
      |cons y ys'=>
       cases kb with
       |true=>
        have hu:∃k,P.underlying f.type=some (.int k):=by
         split at hk
         ·rename_i k hu;exact⟨k,hu⟩
         ·cases hk
         ·cases hk
        obtain⟨k0,hu⟩:=hu
        cases x<;>first
         |(simp[cm]at he;done)
         |skip
        cases y<;>first
         |(simp[cm]at he;done)
         |skip
        rename_i k a k' a'
        simp only[cm]at he
        split at he
        ·rename_i hkk
         subst hkk
         split at he
         ·rename_i c hc
          cases he
          have hvx:vx=.int k a:=hx.1
          have hvy:vy=.int k a':=hy.1
          have ih:=nG d fs (f.offset+1) l xs' ys' X Y c hl hc (by rw[hX'];exact hx.2) (by rw[hY'];exact hy.2)
          subst hvx hvy
          simp only[Op.eqFields,hn,ne_eq,not_false_eq_true,if_true,Sem.run_bind,me hu (.inr ⟨k0,rfl⟩) hX,me hu (.inr ⟨k0,rfl⟩) hY,Result.andThen_ok,run_equalIn_int _ _ _ _ _ _ _ hu,Sem.run_ite]
          cases hq:(a == a')with
          |true=>simpa[hq]using ih
          |false=>simp
         ·cases he
        ·cases he
       |false=>
        have hu:P.underlying f.type=some .bool:=by
         split at hk
         ·cases hk
         ·rename_i hu;exact hu
         ·cases hk
        cases x<;>first
         |(simp[cm]at he;done)
         |skip
        cases y<;>first
         |(simp[cm]at he;done)
         |skip
        rename_i a a'
        simp only[cm]at he
        split at he
        ·rename_i c hc
         cases he
         have hvx:vx=.bool a:=hx.1
         have hvy:vy=.bool a':=hy.1
         have ih:=nG d fs (f.offset+1) l xs' ys' X Y c hl hc (by rw[hX'];exact hx.2) (by rw[hY'];exact hy.2)
         subst hvx hvy
         simp only[Op.eqFields,hn,ne_eq,not_false_eq_true,if_true,Sem.run_bind,me hu (.inl rfl) hX,me hu (.inl rfl) hY,Result.andThen_ok,run_equalIn_bool' _ _ _ _ _ hu,Sem.run_ite]
         cases hq:(a == a')with
         |true=>simpa[hq]using ih
         |false=>simp
        ·cases he
  ·cases h
theorem mc{t:TypeId}{ks:List Bool}(h:ja P t=some ks):∃fs,P.underlying t=some (.struct fs)∧P.stoodInHeld t=false∧P.eqGuardType P.depth t=false∧ir P fs.toList 0=some ks:=by
 unfold ja at h
 split at h
 ·rename_i fs hu
  simp only[Option.ite_none_right_eq_some]at h
  exact⟨fs,hu,h.1.1,h.1.2,h.2⟩
 ·cases h
theorem ud{t:TypeId}{ks:List Bool}{xs ys:List F}{X Y:List Value}{b:Bool}(d:Nat)(h:ja P t=some ks)(he:cm ks xs ys=some b)(hx:aw (aT ε) xs X)(hy:aw (aT ε) ys Y)(w:World):
 (Op.equalIn (d+2) t (.agg X.toArray) (.agg Y.toArray)).run P w=.ok b w:=by
 obtain⟨fs,hu,hs,_,hf⟩:=mc h
 have hfo:P.fieldsOf t=fs:=by simp[Program.fieldsOf,hu]
 rw[run_equalIn_struct w (d+1) t _ _ (by rw[hfo];exact hu) hs,hfo]
 exact nG d fs.toList 0 ks xs ys X.toArray Y.toArray b hf he (by simpa using hx) (by simpa using hy)
theorem G_(w:World)(d:Nat){t e:TypeId}(hu:P.underlying t=some (.pointer e)):(Op.equalIn (d+1) t (.pointer none) (.pointer none)).run P w=.ok true w:=by simp[Op.equalIn,be hu]
theorem Hc(w:World)(d:Nat){t e:TypeId}(hu:P.underlying t=some (.pointer e)){a:Addr}:(Op.equalIn (d+1) t (.pointer none) (.pointer (some a))).run P w=.ok false w:=by simp[Op.equalIn,be hu]
theorem Hx(w:World)(d:Nat){t e:TypeId}(hu:P.underlying t=some (.pointer e)){a:Addr}:(Op.equalIn (d+1) t (.pointer (some a)) (.pointer none)).run P w=.ok false w:=by simp[Op.equalIn,be hu]
theorem Hn(w:World)(d:Nat){t e:TypeId}(hu:P.underlying t=some (.slice e)):(Op.equalIn (d+1) t (.slice none 0 0) (.slice none 0 0)).run P w=.ok true w:=by simp[Op.equalIn,be hu]
theorem Hm(w:World)(d:Nat){t e:TypeId}(hu:P.underlying t=some (.slice e)){a:Addr}{l c:Nat}:(Op.equalIn (d+1) t (.slice (some a) l c) (.slice none 0 0)).run P w=.ok false w:=by simp[Op.equalIn,be hu]
theorem Hb(w:World)(d:Nat){t e:TypeId}(hu:P.underlying t=some (.slice e)){a:Addr}{l c:Nat}:(Op.equalIn (d+1) t (.slice none 0 0) (.slice (some a) l c)).run P w=.ok false w:=by simp[Op.equalIn,be hu]
theorem Hr(w:World)(d:Nat){t:TypeId}{ps rs:Array TypeId}{v:Bool}(hu:P.underlying t=some (.func ps rs v)){g:Fn}{a b:Array Value}:(Op.equalIn (d+1) t (.func g a b) .nilFunc).run P w=.ok false w:=by simp[Op.equalIn,be hu]
theorem G3(w:World)(d:Nat){t:TypeId}{ps rs:Array TypeId}{v:Bool}(hu:P.underlying t=some (.func ps rs v)):(Op.equalIn (d+1) t .nilFunc .nilFunc).run P w=.ok true w:=by simp[Op.equalIn,be hu]
theorem FV{t:TypeId}{x y:U}{a b:Value}{c:Bool}(h:eC P t x y=some c)(hx:bQ ε x a)(hy:bQ ε y b)(w:World):(Op.equal t a b).run P w=.ok c w:=by
 unfold eC at h
 split at h
 ·have e1:a=_:=hx
  have e2:b=_:=hy
  split at h
  ·rename_i hu;cases h;subst e1 e2;exact run_equalIn_bool' _ _ _ _ _ hu
  ·cases h
 ·have e1:a=_:=hx
  have e2:b=_:=hy
  split at h
  ·rename_i p q hu;cases h;subst e1 e2
   show(Op.equalIn (9999+1) t _ _).run P w=_
   rw[run_equalIn_string _ _ _ _ _ hu]
   simp[ByteArray.toList_eq]
  ·cases h
 ·have e1:a=_:=hx
  have e2:b=_:=hy
  split at h
  ·rename_i hu;cases h;subst e1 e2;exact G_ w 9999 hu
  ·cases h
 ·have e1:a=_:=hx
  obtain⟨b',K,_,e2⟩:=hy
  split at h
  ·rename_i hu;cases h;subst e1 e2;exact Hc w 9999 hu
  ·cases h
 ·obtain⟨b',K,_,e1⟩:=hx
  have e2:b=_:=hy
  split at h
  ·rename_i hu;cases h;subst e1 e2;exact Hx w 9999 hu
  ·cases h
 ·have e1:a=_:=hx
  have e2:b=_:=hy
  split at h
  ·rename_i hu;cases h;subst e1 e2;exact Hn w 9999 hu
  ·cases h
 ·obtain⟨b',K,ad,cc,_,e1,_⟩:=hx
  have e2:b=_:=hy
  split at h
  ·rename_i hu;cases h;subst e1 e2;exact Hm w 9999 hu
  ·cases h
 ·have e1:a=_:=hx
  obtain⟨b',K,ad,cc,_,e2,_⟩:=hy
  split at h
  ·rename_i hu;cases h;subst e1 e2;exact Hb w 9999 hu
  ·cases h
 ·obtain⟨l,e1,_⟩:=hx
  have e2:b=_:=hy
  split at h
  ·rename_i hu;cases h;subst e1 e2;exact Hr w 9999 hu
  ·cases h
 ·have e1:a=_:=hx
  have e2:b=_:=hy
  split at h
  ·rename_i hu;cases h;subst e1 e2;exact G3 w 9999 hu
  ·cases h
 ·obtain⟨X,e1,hx⟩:=hx
  obtain⟨Y,e2,hy⟩:=hy
  split at h
  ·rename_i ks hks;subst e1 e2;exact ud 9998 hks h hx hy w
  ·cases h
 ·cases h
theorem wj{op:BinOp}{t:TypeId}{x y:Operand}{u v:U}{a b:Value}{c:Bool}(h:eC P t u v=some c)(hx:bQ ε u a)(hy:bQ ε v b)(w:World):(eqGuard op t x y a b).run P w=.ok () w:=by
 by_cases hagg:∃X Y,a=.agg X∧b=.agg Y
 ·obtain⟨X,Y,rfl,rfl⟩:=hagg
  have:∃ks,ja P t=some ks:=by
   cases u with
   |f f1=>have:=aT.one hx;simp[Value.oneCell']at this
   |fn g c=>obtain⟨l,e,_⟩:=hx;cases e
   |agg l1=>
    cases v with
    |f f1=>have:=aT.one hy;simp[Value.oneCell']at this
    |fn g c=>obtain⟨l,e,_⟩:=hy;cases e
    |agg l2=>
     simp only[eC]at h
     split at h
     ·rename_i ks hk;exact⟨ks,hk⟩
     ·cases h
  obtain⟨ks,hks⟩:=this
  obtain⟨fs,_,_,hg,_⟩:=mc hks
  unfold eqGuard
  cases op<;>simp[hg]
 ·have nil:¬(a=.nilIface∧b=.nilIface):=by
   rintro ⟨rfl,rfl⟩
   cases u with
   |f f1=>cases f1<;>simp[bQ,aT]at hx
   |fn g c=>obtain⟨l,e,_⟩:=hx;cases e
   |agg l1=>obtain⟨l,e,_⟩:=hx;cases e
  unfold eqGuard
  cases op<;>simp only[Bool.not_true,Bool.not_false,Bool.false_eq_true,if_false,if_true,Sem.run_bind,Sem.run_pure,Result.andThen_ok]<;>
   (cases a<;>cases b<;>first
    |rfl
    |(exfalso;exact nil ⟨rfl,rfl⟩)
    |(exfalso;exact hagg ⟨_,_,rfl,rfl⟩))
end
end Go.Proofs.YtkimkgbppegkhaaGreat.Cm

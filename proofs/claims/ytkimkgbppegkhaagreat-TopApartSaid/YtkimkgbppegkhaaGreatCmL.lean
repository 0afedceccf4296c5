/- The clean machine's operations are the true ones' (8): the other builtins, maps; and all together. No program is walked here. · The clean machine's operations are the true ones' (9): maps; and all together. No program is walked here. -/
import Derived.Test.YtkimkgbppegkhaaGreatCmJ
set_option linter.unusedVariables false
set_option linter.unusedSimpArgs false
namespace Go.Proofs.YtkimkgbppegkhaaGreat.Cm
open Go Go.RowKit
section
variable {P:Program} {o:Oper} {ρ:Operand→Value} {ε:Env} {H:Heap} {n:Nat} {w:World} {ef:Ef} {r:Operand→Option V}
theorem Ho{ats:Array TypeId}{t:TypeId}{x:V}{f:F}{v:Value}{ty:TypeId}(R:bh ε H w)(hv:ba ε x v)(h0:ats[0]?=some t)(h:gy P t x H=some f):
 ∃rv,(Builtin.len_ ats ty #[v]).run P w=.ok rv w∧aT ε f rv:=by
 unfold gy at h
 split at h
 ·rename_i e hu
  split at h
  ·rename_i y
   split at h
   ·rename_i l hl
    cases h
    have:∃a c,v=.slice a l c:=by
     cases y<;>simp only[cd]at hl<;>first
      |(cases hl;done)
      |skip
     ·cases hl;exact⟨_,_,hv⟩
     ·cases hl;obtain⟨b,K,ad,c,_,e,_⟩:=hv;exact⟨_,_,e⟩
    obtain⟨a,c,rfl⟩:=this
    exact⟨.int .i64 l,by simp[Builtin.len_,h0,be hu,goInt],rfl⟩
   ·cases h
  ·cases h
 ·rename_i hu
  split at h
  ·rename_i s
   cases h
   have e:v=_:=hv
   subst e
   exact⟨.int .i64 s.length,by simp[Builtin.len_,h0,be hu,goInt];show((s.toArray.size:Nat):Int)=_;simp,rfl⟩
  ·cases h
 ·rename_i k e hu
  cases h
  exact⟨.int .i64 k,by simp[Builtin.len_,h0,be hu,goInt],rfl⟩
 ·rename_i k e hu
  split at h
  ·cases h
   have e:v=_:=hv
   subst e
   exact⟨.int .i64 0,by simp[Builtin.len_,h0,be hu,goInt],rfl⟩
  ·rename_i id
   split at h
   ·rename_i es hes
    cases h
    obtain⟨b,K,rs,h1,h2,h3,_⟩:=R.obj id _ hes
    obtain⟨b',K',h4,e⟩:=hv
    rw[h1]at h4;cases h4
    subst e
    have:=h3.length
    simp only[Array.length_toList]at this
    exact⟨.int .i64 es.length,by simp[Builtin.len_,h0,be hu,goInt,getObj,Sem.run,h2,this],rfl⟩
   ·cases h
  ·cases h
 ·cases h
theorem Hs{ats:Array TypeId}{t:TypeId}{x:V}{f:F}{v:Value}{ty:TypeId}(hv:ba ε x v)(h0:ats[0]?=some t)(h:qh P t x=some f):
 ∃rv,(Builtin.cap_ ats ty #[v]).run P w=.ok rv w∧aT ε f rv:=by
 unfold qh at h
 split at h
 ·rename_i e hu
  split at h
  ·cases h
   have e:v=_:=hv
   subst e
   exact⟨.int .i64 0,by simp[Builtin.cap_,h0,be hu,goInt],rfl⟩
  ·rename_i c
   cases h
   obtain⟨b,K,ad,c',_,e,_,_,h1⟩:=hv
   subst e
   simp only at h1
   subst h1
   exact⟨.int .i64 c',by simp[Builtin.cap_,h0,be hu,goInt],rfl⟩
  ·cases h
 ·cases h
theorem zh{mx:Bool}{args:List V}{vs:List Value}{f:F}{ats:Array TypeId}{ty:TypeId}(hv:aw (ba ε) args vs)(h:j4 mx args=some f):
 ∃rv,((if mx then Builtin.max_ else Builtin.min_) ats ty vs.toArray).run P w=.ok rv w∧aT ε f rv:=by
 unfold j4 at h
 split at h
 ·rename_i k a
  cases h
  match vs,hv with
  |[v],hv=>
   have e:v=_:=hv.1
   subst e
   cases mx<;>exact⟨_,rfl,rfl⟩
 ·rename_i k a k' b
  split at h
  ·rename_i hk
   subst hk
   cases h
   match vs,hv with
   |[v,u],hv=>
    have e:v=_:=hv.1
    have e':u=_:=hv.2.1
    subst e e'
    cases mx<;>exact⟨_,rfl,rfl⟩
  ·cases h
 ·rename_i k a k' b k'' c
  split at h
  ·rename_i hk
   obtain⟨rfl,rfl⟩:=hk
   cases h
   match vs,hv with
   |[v,u,x],hv=>
    have e:v=_:=hv.1
    have e':u=_:=hv.2.1
    have e'':x=_:=hv.2.2.1
    subst e e' e''
    cases mx<;>exact⟨_,rfl,rfl⟩
  ·cases h
 ·cases h
theorem Gh{ats:Array TypeId}{t:TypeId}{d x:F}{vd vx:Value}{ty:TypeId}(R:bh ε H w)(hd:aT ε d vd)(hx:aT ε x vx)(h0:ats[0]?=some t)(h:pU P t d x H=some ef):
 ∃rv w',(Builtin.copy_ ats ty #[vd,vx]).run P w=.ok rv w'∧ba ε ef.1 rv∧bt ε H n w ε (bL H ef.2.1) (n+ef.2.2) w':=by
 unfold pU at h
 split at h
 ·rename_i id off sz len cap
  obtain⟨b,K,ad,c,hid,evd,hc,hlc,hK⟩:=hd
  split at h
  ·rename_i e he
   have hu:=mb he
   split at h
   ·rename_i sz' m new cs ex hsz hm hnew hcs
    obtain⟨ie,hie,rfl⟩:=f_ hsz
    split at h
    ·rename_i hq
     obtain⟨rfl,hq⟩:=hq
     cases h
     obtain⟨g1,g2,nv,g3,g4⟩:=oV (P:=P) R hnew hm hx
     have g5:=g4 w rfl (min m len) (Nat.min_le_left _ _)
     have g3t:=g3.take (min m len*ie.size)
     have hle:min m len*ie.size≤m*ie.size:=Nat.mul_le_mul_right _ (Nat.min_le_left _ _)
     have hargs:(#[vd,vx]:Array Value)[0]?=some vd∧(#[vd,vx]:Array Value)[1]?=some vx:=⟨rfl,rfl⟩
     by_cases hc0:0<c
     ·have had:=hc hc0
      subst had
      obtain⟨w',k1,k2⟩:=nK (P:=P) (n:=n) (off:=off) R hcs hid g3t (by simp;omega)
      refine⟨.int .i64 ((min m len:Nat):Int),w',?_,rfl,by simpa[bL]using k2⟩
      subst evd
      simp only[Builtin.copy_,h0,hargs.1,hargs.2,Sem.run_bind,be hu,Result.andThen_ok,g1,db hie,Nat.min_def]at g5 k1⊢
      simp[g5,k1,goInt]
     ·have hl0:len=0:=by omega
      have hmin:min m len=0:=by omega
      rw[hmin]at g5⊢
      refine⟨.int .i64 ((0:Nat):Int),w,?_,rfl,?_⟩
      ·subst evd
       have hn0:Nat.min m len=0:=hmin
       simp only[Builtin.copy_,h0,hargs.1,hargs.2,Sem.run_bind,be hu,Result.andThen_ok,g1,db hie,hn0,g5]
       simp[storeCells,goInt]
      ·simp only[bL,Nat.zero_mul,List.take_zero,nT,oh hcs]
       exact bt.refl R
    ·cases h
   ·cases h
  ·cases h
 ·cases h
theorem Fq{ats:Array TypeId}{t:TypeId}{d:F}{vd:Value}{ty:TypeId}(R:bh ε H w)(hd:aT ε d vd)(h0:ats[0]?=some t)(h:mW P t d H=some ef):
 ∃rv w',(Builtin.clear_ ats ty #[vd]).run P w=.ok rv w'∧ba ε ef.1 rv∧bt ε H n w ε (bL H ef.2.1) (n+ef.2.2) w':=by
 unfold mW at h
 split at h
 ·rename_i e he
  have hu:=mb he
  split at h
  ·cases h
   have ev:vd=_:=hd
   subst ev
   exact⟨.tuple #[],w,by simp[Builtin.clear_,h0,be hu],⟨[],rfl,trivial⟩,by simpa[bL]using bt.refl R⟩
  ·rename_i id off sz len cap
   obtain⟨b,K,ad,c,hid,evd,hc,hlc,hK⟩:=hd
   split at h
   ·rename_i ti cs ex hti hcs
    obtain⟨i,z,hi,hz,hsz,hby,hzr⟩:=kQ hti
    split at h
    ·rename_i hl0
     cases h
     subst hl0 evd
     exact⟨.tuple #[],w,by simp[Builtin.clear_,h0,be hu],⟨[],rfl,trivial⟩,by simpa[bL]using bt.refl R⟩
    ·rename_i hl0
     split at h
     ·rename_i hq
      obtain⟨rfl,q1,q2⟩:=hq
      cases h
      have had:=hc om
      subst had
      have hzz:=oa (hzr ε) len ti.size q1
      have hzl:=(hzr ε).length
      simp only[Array.length_toList]at hzl
      obtain⟨w',k1,k2⟩:=nK (P:=P) (n:=n) (off:=off) R hcs hid hzz (by rw[iu,q1];exact q2)
      refine⟨.tuple #[],w',?_,⟨[],rfl,trivial⟩,by simpa[bL]using k2⟩
      subst evd
      have hzc:(Builtin.zeroCells z.cells len).toList=((Array.range (len*ti.size)).map (fun i=>z.cells[i%z.cells.size]!)).toList:=by
       rw[Builtin.zeroCells,show z.cells.size=ti.size by omega]
      cases len with
      |zero=>exact absurd rfl hl0
      |succ len=>
       simp only[Builtin.clear_,h0]
       show(do
        let __do_lift ←underlying t
        match __do_lift,(Value.slice (some {block:=b,off:=off}) (len+1) c)with
         |_,Value.map none=>pure (Value.tuple #[])
         |_,Value.slice none _ _=>pure (Value.tuple #[])
         |_,Value.slice _ 0 _=>pure (Value.tuple #[])
         |_,Value.map (some r)=>do
          let .map _ clock ← getObj r | do stuck "clear: map expected"; pure (Value.tuple #[])
          setObj r (Obj.map #[] clock)
          pure (Value.tuple #[])
         |TypeDesc.slice elem,Value.slice (some a) n _=>do
          let __do_lift ←zeroValue elem
          storeCells a (Builtin.zeroCells __do_lift.cells n).toList
          pure (Value.tuple #[])
         |_,_=>do
          stuck "clear: map or slice expected"
          pure (Value.tuple #[]):Sem Value).run P w=_
       simp only[Sem.run_bind,be hu,Result.andThen_ok,fN hi hz,hzc,k1,Sem.run_pure]
     ·cases h
   ·cases h
  ·cases h
 ·cases h
end
section
variable {P:Program} {o:Oper} {ρ:Operand→Value} {ε:Env} {H:Heap} {n:Nat} {w:World} {ef:Ef} {r:Operand→Option V}
theorem run_getObj{b:Nat}{ob:Obj}(h:w.heap[b]?=some ob)(hn:∀c e f,ob≠.cells c e f):(getObj b).run P w=.ok ob w:=by
 simp only[getObj,Sem.run,h]
theorem tZ{t:TypeId}{d:TypeDesc}(hu:P.underlying t=some d)(hd:d=.bool∨∃k,d=.int k)(e:Bool)(m:Nat)(v:Value)(w:World):(Instr.checkKey e (m+1) t v).run P w=.ok () w:=by
 simp only[Instr.checkKey,Sem.run_bind,be hu,Result.andThen_ok]
 rcases hd with rfl | ⟨k,rfl⟩<;>rfl
theorem tY(e:Bool)(m:Nat):∀(fs:List Field) (off:Nat) (ks:List Bool) (X:Array Value),ir P fs off=some ks→off+ks.length≤X.size→∀w:World,
 (forIn fs PUnit.unit (fun f _ => if f.name ≠ "_" then (do
  let v ←part f.type X f.offset
  Instr.checkKey e (m+1) f.type v
  pure (ForInStep.yield PUnit.unit))
  else pure (ForInStep.yield PUnit.unit)):Sem PUnit).run P w=.ok PUnit.unit w
 |[],_,_,_,_,_,w=>by simp
 |f::fs,off,ks,X,h,hl,w=>by
  simp only[ir]at h
  split at h
  ·rename_i kb l hk hl'
   simp only[Option.ite_none_right_eq_some,Option.some.injEq]at h
   obtain⟨⟨hn,ho⟩,rfl⟩:=h
   subst ho
   simp only[List.length_cons]at hl
   have hd:∃d,P.underlying f.type=some d∧(d=.bool∨∃k,d=.int k):=by
    split at hk
    ·rename_i k hu;exact⟨_,hu,.inr ⟨k,rfl⟩⟩
    ·rename_i hu;exact⟨_,hu,.inl rfl⟩
    ·cases hk
   obtain⟨d,hu,hd⟩:=hd
   have hx:X[f.offset]?=some X[f.offset]:=Array.getElem?_eq_getElem om
   rw[List.forIn_cons]
   have ih:=tY e m fs (f.offset+1) l X hl' om w
   simp only[hn,ne_eq,not_false_eq_true,if_true,Sem.run_bind,me hu hd hx,Result.andThen_ok,tZ hu hd,Sem.run_pure]
   simpa using ih
  ·cases h
theorem Au{t:TypeId}{fs:Array Field}{ks:List Bool}{e:Bool}{l:List Value}(m:Nat)(hu:P.underlying t=some (.struct fs))(hf:ir P fs.toList 0=some ks)(hl:ks.length≤l.length)(w:World):(Instr.checkKey e (m+2) t (.agg l.toArray)).run P w=.ok () w:=by
 have:=tY (P:=P) e m fs.toList 0 ks l.toArray hf (by simpa using hl) w
 rw[Instr.checkKey]
 simp only[Sem.run_bind,be hu,Result.andThen_ok]
 rw[←Array.forIn_toList,this]
 rfl
theorem wx{t:TypeId}{k:U}{e e':Bool}{v:Value}(h:dg P t k e=true)(hv:bQ ε k v)(w:World):(Instr.checkKey e' 10000 t v).run P w=.ok () w:=by
 unfold dg at h
 split at h
 ·split at h
  ·rename_i hu
   exact tZ (m:=9999) hu (.inr ⟨_,rfl⟩) _ _ _
  ·cases h
 ·rename_i xs
  split at h
  ·rename_i ks hks
   simp only[Bool.and_eq_true]at h
   obtain⟨h,_⟩:=h
   obtain⟨fs,hu,_,_,hf⟩:=mc hks
   obtain⟨l,rfl,hl⟩:=hv
   have hlen:=hl.length
   have hxl:xs.length=ks.length:=by simpa using h
   exact Au 9998 hu hf om w
  ·cases h
 ·cases h
def oH(ε:Env):Option (Nat×U)→Option (Nat×Value)→Prop
 |none,none=>True
 |some (j,u),some (j',v)=>j=j'∧bQ ε u v
 |_,_=>False
theorem uG{t:TypeId}{d:IntKind}{k:IntKind}{a:Int}:∀(es:List (U×U)) (rs:List MapEntry) (i:Nat) (res:Option (Nat×U)),cg (.f (.int k a)) es i=some res→
 aw (fun(e:U×U) (r:MapEntry)=>bQ ε e.1 r.key∧bQ ε e.2 r.val) es rs→∃rr,Instr.findNow (.int d) (.int k a) rs i=some rr∧oH ε res rr
 |[],[],i,res,h,_=>by simp only[cg]at h;cases h;exact⟨none,rfl,trivial⟩
 |e::es,x::rs,i,res,h,H=>by
  obtain⟨ek,ev⟩:=e
  cases ek with
  |agg l=>simp[cg]at h
  |fn g l=>simp[cg]at h
  |f y=>
   cases y<;>simp only[cg]at h<;>first
    |(cases h;done)
    |skip
   rename_i k' b
   have hk:x.key=.int k' b:=H.1.1
   split at h
   ·rename_i hkk
    subst hkk
    split at h
    ·rename_i hab
     subst hab
     cases h
     exact⟨some (i,x.val),by simp[Instr.findNow,hk,Instr.sameNow],rfl,H.1.2⟩
    ·rename_i hab
     have hab':(a == b)=false:=by simpa using hab
     obtain⟨rr,g1,g2⟩:=uG (t:=t) (d:=d) es rs (i+1) res h H.2
     exact⟨rr,by simp[Instr.findNow,hk,Instr.sameNow,hab',g1],g2⟩
   ·cases h
 |[],_::_,_,_,_,H=>H.elim
 |_::_,[],_,_,_,H=>H.elim
theorem t6{t:TypeId}{xs:List F}{ks:List Bool}{l:List Value}(hks:ja P t=some ks)(hkt:xs.map (fun _=>true)=ks)(hxl:aw (aT ε) xs l)(w:World):∀(es:List (U×U)) (rs:List MapEntry) (i:Nat) (res:Option (Nat×U)),cg (.agg xs) es i=some res→
 aw (fun(e:U×U) (r:MapEntry)=>bQ ε e.1 r.key∧bQ ε e.2 r.val) es rs→∃rr,(Instr.findAsking t (.agg l.toArray) rs i).run P w=.ok rr w∧oH ε res rr
 |[],[],i,res,h,_=>by simp only[cg]at h;cases h;exact⟨none,rfl,trivial⟩
 |e::es,x::rs,i,res,h,H=>by
  obtain⟨ek,ev⟩:=e
  cases ek with
  |f y=>simp[cg]at h
  |fn g l=>simp[cg]at h
  |agg ys=>
   simp only[cg,hkt]at h
   obtain⟨l',hk,hyl⟩:=H.1.1
   have hq:∀b,cm ks xs ys=some b→(Op.equal t (.agg l.toArray) x.key).run P w=.ok b w:=fun b hb=>by rw[hk];exact ud _ hks hb hxl hyl w
   split at h
   ·rename_i hb
    cases h
    exact⟨some (i,x.val),by simp[Instr.findAsking,hq _ hb],rfl,H.1.2⟩
   ·rename_i hb
    obtain⟨rr,g1,g2⟩:=t6 hks hkt hxl w es rs (i+1) res h H.2
    exact⟨rr,by simp[Instr.findAsking,hq _ hb,g1],g2⟩
   ·cases h
 |[],_::_,_,_,_,H=>H.elim
 |_::_,[],_,_,_,H=>H.elim
theorem uy{t:TypeId}{k:U}{es:List (U×U)}{rs:List MapEntry}{res:Option (Nat×U)}{v:Value}(hk:dg P t k es.isEmpty=true)(h:cg k es 0=some res)(hv:bQ ε k v)
 (H:aw (fun(e:U×U) (r:MapEntry)=>bQ ε e.1 r.key∧bQ ε e.2 r.val) es rs) (w:World):∃rr,(Instr.findKey t v rs).run P w=.ok rr w∧oH ε res rr:=by
 have hu:∃d,P.underlying t=some d:=by
  unfold dg at hk
  split at hk
  ·split at hk
   ·rename_i hu;exact⟨_,hu⟩
   ·cases hk
  ·split at hk
   ·rename_i ks hks;obtain⟨fs,hu,_⟩:=mc hks;exact⟨_,hu⟩
   ·cases hk
  ·cases hk
 obtain⟨d,hu⟩:=hu
 cases es with
 |nil=>
  cases rs with
  |cons _ _=>exact H.elim
  |nil=>
   simp only[cg]at h
   cases h
   exact⟨none,by simp[Instr.findKey,be hu,Instr.findNow],trivial⟩
 |cons e es=>
  unfold dg at hk
  split at hk
  ·rename_i kk a
   split at hk
   ·rename_i d' hu'
    have e1:v=.int kk a:=hv
    subst e1
    obtain⟨rr,g1,g2⟩:=uG (t:=t) (d:=d') (e::es) rs 0 res h H
    exact⟨rr,by simp[Instr.findKey,be hu',g1],g2⟩
   ·cases hk
  ·rename_i xs
   split at hk
   ·rename_i ks hks
    simp only[List.isEmpty_cons,Bool.false_or,Bool.and_eq_true,beq_iff_eq]at hk
    obtain⟨hl,hall⟩:=hk
    have hkt:xs.map (fun _=>true)=ks:=by
     refine List.ext_getElem (by simpa using hl) fun i h1 h2=>?_
     have:=List.all_eq_true.1 hall (ks[i]) (List.getElem_mem h2)
     simpa using this.symm
    obtain⟨fs,hu',_⟩:=mc hks
    rw[hu]at hu';cases hu'
    obtain⟨l,rfl,hxl⟩:=hv
    have hnow:Instr.findNow (.struct fs) (.agg l.toArray) rs 0=none:=by
     cases rs with
     |nil=>exact H.elim
     |cons x rs=>simp[Instr.findNow,Instr.sameNow]
    obtain⟨rr,g1,g2⟩:=t6 (P:=P) hks hkt hxl w (e::es) rs 0 res h H
    exact⟨rr,by simp[Instr.findKey,be hu,hnow,g1],g2⟩
   ·cases hk
  ·cases hk
theorem Fd{t:TypeId}{m k:Operand}{ok:Bool}(hr:∀x u,r x=some u→ba ε u (ρ x))(R:bh ε H w)(ho:o.op=.lookup t m k ok)(h:stepOp P o.op r H n=some ef):Ok P o ρ ε H n w ef:=by
 rw[ho]at h
 simp only[stepOp]at h
 split at h
 ·rename_i kt et m' k' hu hm hk
  split at h
  ·rename_i z es hz hes
   split at h
   ·rename_i hkt
    have rk:=hr k _ hk
    have rm:=hr m _ hm
    have hzz:∃i zv,P.info? et=some i∧i.zero=some zv∧bQ ε z zv:=by
     unfold mV at hz
     split at hz
     ·rename_i i hi
      split at hz
      ·rename_i zv hzv
       split at hz
       ·rename_i u hu'
        cases hz
        exact⟨i,zv,hi,hzv,uI hu' ε⟩
       ·cases hz
      ·cases hz
     ·cases hz
    obtain⟨i,zv,hi,hzv,hzr⟩:=hzz
    have ent:∃rs:Array MapEntry,aw (fun(e:U×U) (r:MapEntry)=>bQ ε e.1 r.key∧bQ ε e.2 r.val) es rs.toList∧
     (ρ m=.map none∧rs=#[]∨∃b cl,ρ m=.map (some b)∧w.heap[b]?=some (.map rs cl)):=by
     split at hes
     ·cases hes
      exact⟨#[],trivial,.inl ⟨rm,rfl⟩⟩
     ·rename_i id
      obtain⟨b,K,hb,e⟩:=rm
      split at hes
      ·rename_i es' hobj
       cases hes
       obtain⟨b',K',rs,h1,h2,h3,_⟩:=R.obj id _ hobj
       rw[hb]at h1;cases h1
       exact⟨rs,h3,.inr ⟨b,_,e,h2⟩⟩
      ·cases hes
     ·cases hes
    obtain⟨rs,hrs,hK⟩:=ent
    have fin:∀(res:Option (Nat×U)),cg k' es 0=some res→∃rr,(Instr.findKey kt (ρ k) rs.toList).run P w=.ok rr w∧oH ε res rr:=
     fun res hres=>uy hkt hres rk hrs w
    have hck:∀e',(Instr.checkKey e' 10000 kt (ρ k)).run P w=.ok () w:=fun e'=>wx hkt rk w
    have tail:∀(u:U) (v:Value) (b:Bool),bQ ε u v→(Instr.lookup t (ρ m) (ρ k) ok).run P w=.ok (if ok then .tuple #[v,.bool b]else v) w→Ok P o ρ ε H n w (if ok then .tup [u,.f (.bool b)]else .u u,[],0):=by
     intro u v b huv hrun
     refine Ok.pure R (rv:=if ok then .tuple #[v,.bool b]else v) (by simp only[execOp,ho,Sem.run_bind,hrun,Result.andThen_ok,Sem.run_pure]) ?_
     cases ok with
     |true=>exact⟨[v,.bool b],rfl,huv,rfl,trivial⟩
     |false=>exact huv
    have run:∀(rr:Option (Nat×Value)) (v:Value) (b:Bool),(Instr.findKey kt (ρ k) rs.toList).run P w=.ok rr w→(match rr with | some (_,v')=>v'=v∧b=true | none=>v=zv∧b=false)→(Instr.lookup t (ρ m) (ρ k) ok).run P w=.ok (if ok then .tuple #[v,.bool b]else v) w:=by
     intro rr v b h1 h2
     rcases hK with⟨e,rfl⟩|⟨bl,cl,e,hb⟩
     ·cases rr with
      |some p=>
       obtain⟨j,v'⟩:=p
       obtain⟨rfl,rfl⟩:=h2
       simp only[Instr.lookup,e,Sem.run_bind,be hu,Result.andThen_ok,Sem.run_pure,hck,h1]
      |none=>
       obtain⟨rfl,rfl⟩:=h2
       simp only[Instr.lookup,e,Sem.run_bind,be hu,Result.andThen_ok,Sem.run_pure,hck,h1,fN hi hzv]
     ·have hg:=run_getObj (P:=P) hb sm
      cases rr with
      |some p=>
       obtain⟨j,v'⟩:=p
       obtain⟨rfl,rfl⟩:=h2
       simp only[Instr.lookup,e,Sem.run_bind,be hu,Result.andThen_ok,Sem.run_pure,hg,hck,h1]
      |none=>
       obtain⟨rfl,rfl⟩:=h2
       simp only[Instr.lookup,e,Sem.run_bind,be hu,Result.andThen_ok,Sem.run_pure,hg,hck,h1,fN hi hzv]
    split at h
    ·rename_i j u hres
     cases h
     obtain⟨rr,g1,g2⟩:=fin _ hres
     cases rr with
     |none=>exact g2.elim
     |some p=>
      obtain⟨j',v⟩:=p
      exact tail u v true g2.2 (run _ v true g1 ⟨rfl,rfl⟩)
    ·rename_i hres
     cases h
     obtain⟨rr,g1,g2⟩:=fin _ hres
     cases rr with
     |some p=>exact g2.elim
     |none=>exact tail z zv false hzr (run _ zv false g1 ⟨rfl,rfl⟩)
    ·cases h
   ·cases h
  ·cases h
 ·cases h
theorem Bg{t:TypeId}{m k x:Operand}(hr:∀x u,r x=some u→ba ε u (ρ x))(R:bh ε H w)(ho:o.op=.mapUpdate t m k x)(h:stepOp P o.op r H n=some ef):Ok P o ρ ε H n w ef:=by
 rw[ho]at h
 simp only[stepOp]at h
 split at h
 ·rename_i kt et id k' v hu hm hk hx
  obtain⟨b,K,hb,e⟩:=hr m _ hm
  have rk:=hr k _ hk
  have rx:=hr x _ hx
  split at h
  ·rename_i es hobj
   obtain⟨b',K',rs,h1,h2,h3,hbo⟩:=R.obj id _ hobj
   rw[hb]at h1;cases h1
   split at h
   ·rename_i hkt
    obtain⟨cl,hcl⟩:∃cl,cl=es.length:=⟨_,rfl⟩
    rw[←hcl]at h2
    split at h
    ·rename_i hres
     cases h
     obtain⟨rr,g1,g2⟩:=uy (P:=P) hkt hres rk h3 w
     cases rr with
     |some p=>exact g2.elim
     |none=>
      have hlt:=mJ h2
      have S:=nP (n:=n) (w':={w with heap:=w.heap.setIfInBounds b (.map (rs.push {key:=ρ k,val:=ρ x,born:=cl}) (cl+1))}) (o':=.mp (es++[(k',v)])) R (by simp[hobj]) hb
       ⟨rfl,rfl,rfl,sm,fun j hj=>by simp[Array.getElem?_setIfInBounds,Ne.symm hj]⟩
       ⟨b,K,rs.push {key:=ρ k,val:=ρ x,born:=cl},hb,by simp[hlt,hcl],by
        simp only[Array.toList_push]
        exact aw.append h3 ⟨⟨rk,rx⟩,trivial⟩,by simp[hbo,hcl,List.range_succ]⟩
      refine⟨undef,_,ε,.inr ⟨?_,rfl⟩,⟨[],rfl,trivial⟩,by simpa[bL]using S⟩
      have hs:(setObj b (.map (rs.push {key:=ρ k,val:=ρ x,born:=cl}) (cl+1))).run P w=.ok () {w with heap:=w.heap.setIfInBounds b (.map (rs.push {key:=ρ k,val:=ρ x,born:=cl}) (cl+1))}:=by
       simp[setObj,Sem.run,h2]
      simp only[execOp,ho,e,Instr.mapUpdate,Sem.run_bind,be hu,Result.andThen_ok,run_getObj h2 sm,wx hkt rk,g1,hs,Sem.run_pure]
    ·cases h
   ·cases h
  ·cases h
 ·cases h
theorem FH{t:TypeId}{x:Operand}(hr:∀x u,r x=some u→ba ε u (ρ x))(R:bh ε H w)(hf:cI ε n (n+ef.2.2))(ho:o.op=.range t x)(h:stepOp P o.op r H n=some ef):Ok P o ρ ε H n w ef:=by
 rw[ho]at h
 simp only[stepOp]at h
 split at h
 ·rename_i k e hu hx
  cases h
  have ev:ρ x=.map none:=hr x _ hx
  have S:=ou (o:=.it none 0 false) (K:=0) R (hf n om sm) (gI w (.mapIter none 0 #[] 0)) ⟨_,_,none,#[],0,cJ _ _ _,(gI w _).new,rfl,fun _=>rfl,fun h=>nomatch h⟩
  refine⟨.pointer (some ⟨w.heap.size,0,none⟩),_,_,.inl ?_,⟨_,_,cJ _ _ _,rfl⟩,by simpa[bL]using S⟩
  simp only[execOp,ho,ev,Instr.range,Sem.run_bind,be hu,Result.andThen_ok,Sem.run_pure,run_newObj_alloc]
 ·rename_i k e id hu hx
  obtain⟨b,K,hb,ev⟩:=hr x _ hx
  split at h
  ·rename_i es hobj
   cases h
   obtain⟨b',K',rs,h1,h2,h3,_⟩:=R.obj id _ hobj
   rw[hb]at h1;cases h1
   have hfn:=hf n om sm
   have S:=ou (o:=.it (some id) es.length false) (K:=0) R hfn (gI w (.mapIter (some b) es.length #[] es.length)) ⟨_,_,some b,#[],es.length,cJ _ _ _,(gI w _).new,⟨b,K,le_ins hfn _ _ _ hb,rfl⟩,fun _=>rfl,fun h=>nomatch h⟩
   refine⟨.pointer (some ⟨w.heap.size,0,none⟩),_,_,.inl ?_,⟨_,_,cJ _ _ _,rfl⟩,by simpa[bL]using S⟩
   simp only[execOp,ho,ev,Instr.range,Sem.run_bind,be hu,Result.andThen_ok,Sem.run_pure,run_getObj h2 sm,run_newObj_alloc]
  ·cases h
 ·cases h
theorem Gp{x:Operand}(hr:∀x u,r x=some u→ba ε u (ρ x))(R:bh ε H w)(ho:o.op=.next x false)(h:stepOp P o.op r H n=some ef):Ok P o ρ ε H n w ef:=by
 rw[ho]at h
 simp only[stepOp]at h
 split at h
 ·rename_i id hx
  obtain⟨b,K,hb,ev⟩:=hr x _ hx
  split at h
  ·rename_i hobj
   cases h
   obtain⟨b',K',mr,se,st,h1,h2,h3,_⟩:=R.obj id _ hobj
   rw[hb]at h1;cases h1
   simp only at h3
   subst h3
   refine Ok.pure R (rv:=.tuple #[.bool false]) ?_ ⟨[.bool false],rfl,rfl,trivial⟩
   simp only[execOp,ho,ev,Instr.next,Sem.run_bind,run_getObj h2 sm,Result.andThen_ok,Sem.run_pure]
  ·rename_i m si sn hobj
   split at h
   ·rename_i hm
    cases h
    obtain⟨b',K',mr,se,st,h1,h2,h3,_⟩:=R.obj id _ hobj
    rw[hb]at h1;cases h1
    obtain⟨bm,Km,h4,h5⟩:=h3
    subst h5
    obtain⟨b2,K2,rs,h6,h7,h8,_⟩:=R.obj m _ hm
    rw[h4]at h6;cases h6
    have hrs:rs=#[]:=by
     cases hq:rs.toList with
     |nil=>exact Array.toList_eq_nil_iff.1 hq
     |cons a l=>rw[hq]at h8;exact h8.elim
    subst hrs
    refine Ok.pure R (rv:=.tuple #[.bool false]) ?_ ⟨[.bool false],rfl,rfl,trivial⟩
    simp[execOp,ho,ev,Instr.next,run_getObj h2 sm,run_getObj h7 sm,Question.forced,choose,Sem.run]
   ·rename_i e hm
    obtain⟨b',K',mr,se,st,h1,h2,h3,h3a,h3b⟩:=R.obj id _ hobj
    rw[hb]at h1;cases h1
    obtain⟨bm,Km,h4,h5⟩:=h3
    subst h5
    obtain⟨b2,K2,rs,h6,h7,h8,h9⟩:=R.obj m _ hm
    rw[h4]at h6;cases h6
    obtain⟨x,hrs⟩:∃x,rs=#[x]:=by
     cases hq:rs.toList with
     |nil=>rw[hq]at h8;exact h8.elim
     |cons a l=>
      cases l with
      |nil=>exact⟨a,by apply Array.ext';simpa using hq⟩
      |cons _ _=>rw[hq]at h8;exact h8.2.elim
    subst hrs
    have hb0:x.born=0:=by simpa[List.range_succ]using h9
    split at h
    ·rename_i hsn
     cases h
     obtain⟨rfl,hst⟩:=h3b hsn
     refine Ok.pure R (rv:=.tuple #[.bool false]) ?_ ⟨[.bool false],rfl,rfl,trivial⟩
     simp[execOp,ho,ev,Instr.next,run_getObj h2 sm,run_getObj h7 sm,Question.forced,choose,Sem.run,hb0,hst]
    ·rename_i hsn
     split at h
     ·cases h
     ·rename_i hsi
      cases h
      obtain rfl:=h3a (by simpa using hsn)
      have hlt:=mJ h2
      have S:=nP (n:=n) (w':={w with heap:=w.heap.setIfInBounds b (.mapIter (some bm) si #[0] 1)}) (o':=.it (some m) si true) R (by simp[hobj]) hb
       ⟨rfl,rfl,rfl,sm,fun j hj=>by simp[Array.getElem?_setIfInBounds,Ne.symm hj]⟩
       ⟨b,K,some bm,#[0],1,hb,by simp[hlt],⟨bm,Km,h4,rfl⟩,(fun h=>nomatch h),(fun _=>⟨rfl,rfl⟩)⟩
      refine⟨.tuple #[.bool true,x.key,x.val],_,ε,.inl ?_,⟨[.bool true,x.key,x.val],rfl,rfl,h8.1.1,h8.1.2,trivial⟩,by simpa[bL]using S⟩
      have hsi':0<si:=by omega
      simp[execOp,ho,ev,Instr.next,run_getObj h2 sm,run_getObj h7 sm,Question.forced,choose,Sem.run,List.filter_cons,hb0,hsi,hsi',setObj,h2]
   ·cases h
  ·cases h
 ·cases h
theorem FU{x:Operand}(hr:∀x u,r x=some u→ba ε u (ρ x))(R:bh ε H w)(ho:o.op=.entry x)(h:stepOp P o.op r H n=some ef):Ok P o ρ ε H n w ef:=by
 rw[ho]at h
 simp only[stepOp]at h
 split at h
 ·rename_i id hx
  obtain⟨b,K,hb,ev⟩:=hr x _ hx
  split at h
  ·rename_i m si hobj
   split at h
   ·rename_i e hm
    cases h
    obtain⟨b',K',mr,se,st,h1,h2,h3,_,h3b⟩:=R.obj id _ hobj
    rw[hb]at h1;cases h1
    obtain⟨rfl,rfl⟩:=h3b rfl
    obtain⟨bm,Km,h4,h5⟩:=h3
    subst h5
    obtain⟨b2,K2,rs,h6,h7,h8,h9⟩:=R.obj m _ hm
    rw[h4]at h6;cases h6
    obtain⟨x,hrs⟩:∃x,rs=#[x]:=by
     cases hq:rs.toList with
     |nil=>rw[hq]at h8;exact h8.elim
     |cons a l=>
      cases l with
      |nil=>exact⟨a,by apply Array.ext';simpa using hq⟩
      |cons _ _=>rw[hq]at h8;exact h8.2.elim
    subst hrs
    have hb0:x.born=0:=by simpa[List.range_succ]using h9
    refine Ok.pure R (rv:=.tuple #[x.key,x.val]) ?_ ⟨[x.key,x.val],rfl,h8.1.1,h8.1.2,trivial⟩
    simp[execOp,ho,ev,Instr.entry,run_getObj h2 sm,run_getObj h7 sm,hb0]
   ·cases h
  ·cases h
 ·cases h
theorem BK(hr:∀x u,r x=some u→ba ε u (ρ x))(R:bh ε H w)(h:stepOp P o.op r H n=some ef)(hf:cI ε n (n+ef.2.2)):Ok P o ρ ε H n w ef:=by
 obtain⟨dst,op,type,pos,after,guard⟩:=o
 cases op with
 |move x=>exact yY hr R (.inl rfl) h
 |assign x=>exact yY hr R (.inr rfl) h
 |pick c a b=>exact GO hr R rfl h
 |alloc e=>exact FQ R hf rfl h
 |box e x=>exact G9 hr R hf rfl h
 |build t ps=>exact F1 hr R rfl h
 |buildSlice t l ps=>exact AC hr R hf rfl h
 |load t a=>exact GR hr R rfl h
 |store t a x=>exact F3 hr R rfl h
 |nilCheck x=>exact Cp hr R rfl h
 |binOp op t x y t'=>exact FR hr R rfl h
 |unOp op t x=>cases op<;>first | exact Hi hr R rfl h | cases h
 |convert s d x=>exact D0 hr R hf rfl h
 |makeFunc fn first caps=>cases fn<;>first | exact CL hr R rfl h | cases h
 |makeMap t rr=>cases rr<;>first | exact Dn R hf rfl h | cases h
 |makeSlice t l c=>exact Bk hr R hf rfl h
 |slice t x lo hi mx=>exact FM hr R rfl h
 |fieldAddr s x f=>exact Bb hr R rfl h
 |indexAddr t x i=>exact A4 hr R rfl h
 |index t x i=>exact FP hr R rfl h
 |lookup t m k ok=>exact Fd hr R rfl h
 |mapUpdate t m k x=>exact Bg hr R rfl h
 |range t x=>exact FH hr R hf rfl h
 |next x s=>cases s<;>first | exact Gp hr R rfl h | cases h
 |entry x=>exact FU hr R rfl h
 |extract x i=>exact Ee hr R rfl h
 |call c=>
  obtain⟨callee,args,ats⟩:=c
  cases callee with
  |builtin b=>
   simp only[stepOp]at h
   split at h
   ·rename_i vs hvs
    have hv:=oA hr _ _ hvs
    have exec:∀(rv:Value) (w':World),(builtin b ats type (args.map fun | .const _=>true | _=>false) (args.map ρ)).run P w=.ok (.value rv) w'→(execOp ρ {dst:=dst,op:=.call {callee:=.builtin b,args:=args,argTypes:=ats},type:=type,pos:=pos,after:=after,guard:=guard}).run P w=.ok (.value rv) w':=by
     intro rv w' hh
     simp only[execOp,resolve,invoke,Sem.run_bind,Sem.run_pure,Result.andThen_ok]
     exact hh
    have el:args.map ρ=(args.toList.map ρ).toArray:=by apply Array.ext';simp
    rw[el]at exec
    generalize args.toList.map ρ=rvs at hv exec
    cases b<;>simp only[cK]at h<;>first
     |(cases h;done)
     |skip
    ·
     split at h
     ·rename_i s x t t' h0 h1
      match rvs,hv with
      |[vs',vx],hv=>
       obtain⟨rv,w',ε',k1,k2,k3⟩:=Eo (ty:=type) R hv.1 hv.2.1 hf h0 h1 h
       exact⟨rv,w',ε',.inl (exec _ _ (by simp only[builtin,Sem.run_bind,k1,Result.andThen_ok,Sem.run_pure])),k2,k3⟩
     ·cases h
    ·
     split at h
     ·rename_i v t h0
      split at h
      ·rename_i f hc
       cases h
       match rvs,hv with
       |[v'],hv=>
        obtain⟨rv,k1,k2⟩:=Hs (P:=P) (w:=w) (ty:=type) hv.1 h0 hc
        exact Ok.pure R (exec _ _ (by simp only[builtin,Sem.run_bind,k1,Result.andThen_ok,Sem.run_pure])) k2
      ·cases h
     ·cases h
    ·
     split at h
     ·rename_i d t h0
      match rvs,hv with
      |[v'],hv=>
       obtain⟨rv,w',k1,k2,k3⟩:=Fq (n:=n) (ty:=type) R hv.1 h0 h
       exact⟨rv,w',ε,.inl (exec _ _ (by simp only[builtin,Sem.run_bind,k1,Result.andThen_ok,Sem.run_pure])),k2,k3⟩
     ·cases h
    ·
     split at h
     ·rename_i d x t h0
      match rvs,hv with
      |[vd,vx],hv=>
       obtain⟨rv,w',k1,k2,k3⟩:=Gh (n:=n) (ty:=type) R hv.1 hv.2.1 h0 h
       exact⟨rv,w',ε,.inl (exec _ _ (by simp only[builtin,Sem.run_bind,k1,Result.andThen_ok,Sem.run_pure])),k2,k3⟩
     ·cases h
    ·
     split at h
     ·rename_i v t h0
      split at h
      ·rename_i f hc
       cases h
       match rvs,hv with
       |[v'],hv=>
        obtain⟨rv,k1,k2⟩:=Ho (ty:=type) R hv.1 h0 hc
        exact Ok.pure R (exec _ _ (by simp only[builtin,Sem.run_bind,k1,Result.andThen_ok,Sem.run_pure])) k2
      ·cases h
     ·cases h
    ·
     split at h
     ·rename_i f hc
      cases h
      obtain⟨rv,k1,k2⟩:=zh (P:=P) (w:=w) (ats:=ats) (ty:=type) hv hc
      simp only[if_true]at k1
      exact Ok.pure R (exec _ _ (by simp only[builtin,Sem.run_bind,k1,Result.andThen_ok,Sem.run_pure])) k2
     ·cases h
    ·
     split at h
     ·rename_i f hc
      cases h
      obtain⟨rv,k1,k2⟩:=zh (P:=P) (w:=w) (ats:=ats) (ty:=type) hv hc
      simp only[Bool.false_eq_true,if_false]at k1
      exact Ok.pure R (exec _ _ (by simp only[builtin,Sem.run_bind,k1,Result.andThen_ok,Sem.run_pure])) k2
     ·cases h
   ·cases h
  |value f=>simp only[stepOp]at h;cases h
  |invoke a b=>simp only[stepOp]at h;cases h
 |_=>simp only[stepOp]at h;cases h
end
end Go.Proofs.YtkimkgbppegkhaaGreat.Cm

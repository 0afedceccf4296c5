/- The clean machine's operations are the true ones' (6): operators, turns of kind, len, cap, min, max. No program is walked here. · The clean machine's operations are the true ones' (7): append, copy, clear. No program is walked here. -/
import Derived.Test.YtkimkgbppegkhaaGreatCmH
import Derived.Laws.BytesString
import Derived.Laws.IdiomStrings
import Derived.Laws.Append
set_option linter.unusedVariables false
set_option linter.unusedSimpArgs false
namespace Go.Proofs.YtkimkgbppegkhaaGreat.Cm
open Go Go.RowKit
section
variable {P:Program} {o:Oper} {ρ:Operand→Value} {ε:Env} {H:Heap} {n:Nat} {w:World} {ef:Ef} {r:Operand→Option V}
theorem Eb(op:BinOp)(t:TypeId)(x y:Operand)(k k':IntKind)(a b:Int)(w:World):(eqGuard op t x y (.int k a) (.int k' b)).run P w=.ok () w:=by
 unfold eqGuard
 cases op<;>rfl
theorem FZ{op:BinOp}{k:IntKind}{a b:Int}{f:F}(h:eB op k a b=some f)(t:TypeId)(w:World):∃v,(binOp op t (.int k a) (.int k b)).run P w=.ok v w∧aT ε f v:=by
 cases op<;>simp only[eB,fM,xR,xV,oI,xG,xZ,ft,jV]at h
 case add=>cases h;exact⟨_,by simp[binOp,Op.intArith],rfl⟩
 case sub=>cases h;exact⟨_,by simp[binOp,Op.intArith],rfl⟩
 case mul=>cases h;exact⟨_,by simp[binOp,Op.intArith],rfl⟩
 case quo=>
  split at h
  ·cases h
  ·rename_i h0;have h0':b≠0:=by simpa using h0
   cases h;exact⟨_,by simp[binOp,Op.intDiv,h0'],rfl⟩
 case rem=>
  split at h
  ·cases h
  ·rename_i h0;have h0':b≠0:=by simpa using h0
   cases h;exact⟨_,by simp[binOp,Op.intDiv,h0'],rfl⟩
 case and=>rw[ol]at h;simp only[gp]at h;cases h;exact⟨_,by simp[binOp,Op.intBits],rfl⟩
 case or=>rw[ol]at h;simp only[gp]at h;cases h;exact⟨_,by simp[binOp,Op.intBits],rfl⟩
 case xor=>rw[ol]at h;simp only[gp]at h;cases h;exact⟨_,by simp[binOp,Op.intBits],rfl⟩
 case andNot=>rw[ol]at h;simp only[gp]at h;cases h;exact⟨_,by simp[binOp,Op.intBits],rfl⟩
 case shl=>cases h
 case shr=>cases h
 case eql=>cases h;exact⟨_,by simp[binOp,Op.intCmp],rfl⟩
 case neq=>cases h;exact⟨.bool (a != b),by simp[binOp,Op.intCmp],rfl⟩
 case lss=>cases h;exact⟨_,by simp[binOp,Op.intCmp],rfl⟩
 case leq=>cases h;exact⟨.bool (decide (a≤b)),by simp[binOp,Op.intCmp],by show _=_;congr 1;rw[Bool.eq_iff_iff];simp⟩
 case gtr=>cases h;exact⟨.bool (decide (a>b)),by simp[binOp,Op.intCmp],rfl⟩
 case geq=>cases h;exact⟨.bool (decide (a≥b)),by simp[binOp,Op.intCmp],by show _=_;congr 1;rw[Bool.eq_iff_iff];simp⟩
theorem vE{op:BinOp}{k k':IntKind}{a b:Int}{f:F}(h:py op k a b=some f)(t:TypeId)(w:World):∃v,(binOp op t (.int k a) (.int k' b)).run P w=.ok v w∧aT ε f v:=by
 unfold py at h
 split at h
 ·cases h
 ·rename_i m
  have h0:¬((m:Int)<0):=by omega
  have hp:(Int.ofNat (Nat.pow 2 (min m k.bits)):Int)=2 ^ (min m k.bits):=by
   show((2 ^ (min m k.bits):Nat):Int)=_
   norm_cast
  split at h
  ·cases h
   rw[fM,oI,hp]
   exact⟨_,by simp[binOp,Op.shift,h0],rfl⟩
  ·split at h
   ·rename_i a
    cases h
    refine⟨.int k (Int.fdiv (a:Int) (2 ^ (min m k.bits))),by simp[binOp,Op.shift,h0],?_⟩
    show _=_
    congr 1
    have:((2 ^ (min m k.bits):Nat):Int)=2 ^ (min m k.bits):=by norm_cast
    rw[←this,Int.fdiv_eq_ediv_of_nonneg _ (Int.natCast_nonneg _)]
    rfl
   ·cases h
    exact⟨_,by simp[binOp,Op.shift,h0],rfl⟩
  ·cases h
theorem Fc{t:TypeId}{u v:U}{c:Bool}(h:eC P t u v=some c){a b:Value}(hx:bQ ε u a)(hy:bQ ε v b):
 (∃s s',a=.string s∧b=.string s'∧c=(s.toList == s'.toList))∨((∀k i,a≠.int k i)∧(∀k i,a≠.float k i)∧(∀k i j,a≠.complex k i j)∧(∀s,a≠.string s)):=by
 cases u with
 |agg l=>obtain⟨l,e,_⟩:=hx;subst e;exact .inr ⟨sm,sm,sm,sm⟩
 |fn g l=>obtain⟨l,e,_⟩:=hx;subst e;exact .inr ⟨sm,sm,sm,sm⟩
 |f x=>
  cases x with
  |int k i=>simp[eC]at h
  |str s=>
   cases v with
   |agg l=>simp[eC]at h
   |fn g l=>simp[eC]at h
   |f y=>
    cases y<;>simp only[eC]at h<;>first
     |cases h
     |skip
    split at h
    ·cases h
     exact .inl ⟨_,_,hx,hy,by simp[ByteArray.toList_eq]⟩
    ·cases h
  |bool b=>have e:a=_:=hx;subst e;exact .inr ⟨sm,sm,sm,sm⟩
  |ptr0=>have e:a=_:=hx;subst e;exact .inr ⟨sm,sm,sm,sm⟩
  |sl0=>have e:a=_:=hx;subst e;exact .inr ⟨sm,sm,sm,sm⟩
  |map0=>have e:a=_:=hx;subst e;exact .inr ⟨sm,sm,sm,sm⟩
  |nilf=>have e:a=_:=hx;subst e;exact .inr ⟨sm,sm,sm,sm⟩
  |ptr i f=>obtain⟨_,_,_,e⟩:=hx;subst e;exact .inr ⟨sm,sm,sm,sm⟩
  |map i=>obtain⟨_,_,_,e⟩:=hx;subst e;exact .inr ⟨sm,sm,sm,sm⟩
  |sl i f s l c=>obtain⟨_,_,_,_,_,e,_⟩:=hx;subst e;exact .inr ⟨sm,sm,sm,sm⟩
theorem DI{t:TypeId}{a b:Value}(h1:∀k i,a≠.int k i)(h2:∀k i,a≠.float k i)(h3:∀k i j,a≠.complex k i j)(h4:∀s,a≠.string s):
 binOp .eql t a b=(do pure (.bool (←Op.equal t a b)))∧binOp .neq t a b=(do pure (.bool (!(←Op.equal t a b)))):=by
 cases a<;>cases b<;>first
  |exact⟨rfl,rfl⟩
  |(exfalso;exact h1 _ _ rfl)
  |(exfalso;exact h2 _ _ rfl)
  |(exfalso;exact h3 _ _ _ rfl)
  |(exfalso;exact h4 _ rfl)
theorem xP{t:TypeId}{u v:U}{c:Bool}(h:eC P t u v=some c){a b:Value}(hx:bQ ε u a)(hy:bQ ε v b)(w:World):
 (binOp .eql t a b).run P w=.ok (.bool c) w∧(binOp .neq t a b).run P w=.ok (.bool !c) w:=by
 rcases Fc h hx hy with⟨s,s',rfl,rfl,rfl⟩|⟨h1,h2,h3,h4⟩
 ·exact⟨rfl,rfl⟩
 ·obtain⟨g1,g2⟩:=DI (t:=t) (b:=b) h1 h2 h3 h4
  rw[g1,g2]
  simp only[Sem.run_bind,FV h hx hy w,Result.andThen_ok,Sem.run_pure,and_self]
theorem FR{op:BinOp}{t t':TypeId}{x y:Operand}(hr:∀x u,r x=some u→ba ε u (ρ x))(R:bh ε H w)(ho:o.op=.binOp op t x y t')(h:stepOp P o.op r H n=some ef):Ok P o ρ ε H n w ef:=by
 rw[ho]at h
 simp only[stepOp]at h
 split at h
 ·rename_i a b ha hb
  have ra:=hr x a ha
  have rb:=hr y b hb
  simp only[Option.map_eq_some_iff]at h
  obtain⟨f,hf,rfl⟩:=h
  unfold aU at hf
  split at hf
  ·rename_i k i k' j
   have ea:ρ x=.int k i:=ra
   have eb:ρ y=.int k' j:=rb
   have key:∃v,(binOp op t (.int k i) (.int k' j)).run P w=.ok v w∧aT ε f v:=by
    split at hf
    ·exact vE hf t w
    ·exact vE hf t w
    ·split at hf
     ·rename_i hk;rw[eI]at hk;subst hk;exact FZ hf t w
     ·cases hf
   obtain⟨v,g1,g2⟩:=key
   exact Ok.pure R (rv:=v) (by simp only[execOp,ho,ea,eb,Sem.run_bind,Eb,Result.andThen_ok,g1,Sem.run_pure]) g2
  ·rename_i u v _
   split at hf
   ·split at hf
    ·rename_i c hc
     cases hf
     exact Ok.pure R (rv:=.bool c) (by simp only[execOp,ho,Sem.run_bind,wj hc ra rb,Result.andThen_ok,(xP hc ra rb w).1,Sem.run_pure]) rfl
    ·cases hf
   ·split at hf
    ·rename_i c hc
     cases hf
     exact Ok.pure R (rv:=.bool !c) (by simp only[execOp,ho,Sem.run_bind,wj hc ra rb,Result.andThen_ok,(xP hc ra rb w).2,Sem.run_pure]) rfl
    ·cases hf
   ·cases hf
  ·cases hf
 ·cases h
theorem wL:∀{vs:List Value} {l:List F},cY vs=some l→aw (aT ε) l vs
 |[],l,h=>by simp only[cY]at h;cases h;trivial
 |v::vs,l,h=>by
  unfold cY at h
  split at h
  ·rename_i heq;cases heq
  ·rename_i k n r heq
   cases heq
   split at h
   ·rename_i l' hl
    cases h
    exact⟨rfl,wL hl⟩
   ·cases h
  ·cases h
theorem oV{sz m:Nat}{x:F}{new:List F}{v:Value}(R:bh ε H w)(hr:aF H sz x=some new)(hl:cd x=some m)(hv:aT ε x v):
 (Builtin.lenOf v).run P w=.ok m w∧new.length=m*sz∧∃vs:List Value,aw (aT ε) new vs∧∀w1:World,w1.heap=w.heap→∀k,k≤m→(Builtin.firstCells sz k v).run P w1=.ok (vs.take (k*sz)).toArray w1:=by
 cases x<;>simp only[aF,cd]at hr hl<;>first
  |(cases hl;done)
  |skip
 ·have e:v=_:=hv
  subst e
  cases hr
  cases hl
  refine⟨rfl,sm,[],trivial,fun w1 _ k hk=>?_⟩
  simp[Builtin.firstCells]
 ·rename_i id off sz' len cap
  cases hl
  obtain⟨b,K,ad,c,he,rfl,hc,hlc,hK⟩:=hv
  split at hr
  ·rename_i hsz
   subst hsz
   split at hr
   ·rename_i cs ex hcs
    split at hr
    ·rename_i hle
     cases hr
     obtain⟨b',K',rcs,elem,fz,h1,h2,h3,h4,h5,h6⟩:=R.obj id _ hcs
     rw[he]at h1;cases h1
     have hlen:=i9 h4
     refine⟨rfl,by simp;omega,(rcs.toList.drop off).take (m*sz'),?_,fun w1 hw k hk=>?_⟩
     ·have:=(h4.drop off).take (m*sz')
      rw[List.drop_take,List.take_take,Nat.min_eq_left om]at this
      exact this
     ·rw[List.take_take,Nat.min_eq_left (Nat.mul_le_mul_right _ hk)]
      have hks:k*sz'≤m*sz':=Nat.mul_le_mul_right _ hk
      by_cases hc0:0<c
      ·have:=hc hc0
       subst this
       simp only[Builtin.firstCells]
       exact nF (by rw[hw];exact h2) om
      ·have:k=0:=by omega
       subst this
       simp[Builtin.firstCells,loadCells,loadCellsFrom]
    ·cases hr
   ·rename_i rcs elem fz hcs
    split at hr
    ·rename_i hle
     obtain⟨b',K',h1,h2,h3⟩:=R.obj id _ hcs
     rw[he]at h1;cases h1
     have hrel:=wL (ε:=ε) hr
     have hln:=hrel.length
     refine⟨rfl,by simp at hln;omega,(rcs.toList.drop off).take (m*sz'),hrel,fun w1 hw k hk=>?_⟩
     rw[List.take_take,Nat.min_eq_left (Nat.mul_le_mul_right _ hk)]
     have hks:k*sz'≤m*sz':=Nat.mul_le_mul_right _ hk
     by_cases hc0:0<c
     ·have:=hc hc0
      subst this
      simp only[Builtin.firstCells]
      exact nF (by rw[hw];exact h2) om
     ·have:k=0:=by omega
      subst this
      simp[Builtin.firstCells,loadCells,loadCellsFrom]
    ·cases hr
   ·cases hr
  ·cases hr
theorem wq:∀(cs:List F) (s:List UInt8) (vs:List Value),iE cs=some s→aw (aT ε) cs vs→∃ns:List Int,vs=ns.map (Value.int .u8)∧s=ns.map fun n=>UInt8.ofNat n.toNat
 |[],s,[],h,_=>⟨[],rfl,by simp[iE]at h;simp[h]⟩
 |c::cs,s,v::vs,h,H=>by
  unfold iE at h
  split at h
  ·rename_i heq;cases heq
  ·rename_i k r heq
   cases heq
   split at h
   ·rename_i l hl
    cases h
    have e:v=.int .u8 k:=H.1
    obtain⟨ns,h1,h2⟩:=wq cs l vs hl H.2
    exact⟨k::ns,by rw[e,h1];rfl,by rw[h2];rfl⟩
   ·cases h
  ·cases h
 |[],_,_::_,_,H=>H.elim
 |_::_,_,[],_,H=>H.elim
theorem uW:∀(ns:List Int) (r:ByteArray),ns.foldl (fun r n=>r.push (UInt8.ofNat n.toNat)) r=⟨r.data++(ns.map fun n=>UInt8.ofNat n.toNat).toArray⟩
 |[],r=>by simp
 |n::ns,r=>by
  simp only[List.foldl_cons,List.map_cons]
  rw[uW ns]
  simp[ByteArray.push]
theorem D0{s d:TypeId}{x:Operand}(hr:∀x u,r x=some u→ba ε u (ρ x))(R:bh ε H w)(hf:cI ε n (n+ef.2.2))(ho:o.op=.convert s d x)(h:stepOp P o.op r H n=some ef):Ok P o ρ ε H n w ef:=by
 rw[ho]at h
 simp only[stepOp]at h
 split at h
 ·rename_i ds k k' i hs hd hx
  cases h
  have ea:ρ x=.int k' i:=hr x _ hx
  exact Ok.pure R (rv:=.int k (k.wrap i)) (by simp only[execOp,ho,ea,convert,Sem.run_bind,be hs,be hd,Result.andThen_ok,Conv.intToInt,Sem.run_pure]) rfl
 ·rename_i e y hs hd hx
  have ra:=hr x _ hx
  split at h
  ·rename_i he
   split at h
   ·rename_i cs hcs
    split at h
    ·rename_i l hl
     cases h
     have hlen:∃m,cd y=some m:=by
      unfold aF at hcs
      split at hcs<;>first
       |exact⟨_,rfl⟩
       |cases hcs
     obtain⟨m,hm⟩:=hlen
     obtain⟨_,g2,vs,g3,g4⟩:=oV (P:=P) R hcs hm ra
     have g5:=g4 w rfl m (Nat.le_refl _)
     have g6:=g3.length
     rw[List.take_of_length_le om]at g5
     refine Ok.pure R (rv:=.string ⟨l.toArray⟩) ?_ rfl
     obtain⟨ns,q1,q2⟩:=wq cs l vs hl g3
     have this:(convert s d (ρ x)).run P w=.ok (.string ⟨l.toArray⟩) w:=by
      cases y<;>simp only[cd]at hm<;>first
       |(cases hm;done)
       |skip
      ·have e:ρ x=_:=ra
       rw[e,run_convert_bytes_string w s d _ none 0 0 hs he hd]
       simp only[aF]at hcs
       cases hcs
       simp only[iE]at hl
       cases hl
       rfl
      ·obtain⟨b,K,ad,c,he',e,hrest⟩:=ra
       cases hm
       rw[e]at g5⊢
       simp only[Builtin.firstCells,Nat.mul_one]at g5
       rw[q1]at g5
       rw[run_convert_bytes_string w s d _ _ _ c hs he hd,run_bytesToString w ad _ c ns g5,uW,q2]
       have he0:ByteArray.empty.data=#[]:=rfl
       rw[he0]
       simp
     simp only[execOp,ho,Sem.run_bind,this,Result.andThen_ok,Sem.run_pure]
    ·cases h
   ·cases h
  ·cases h
 ·rename_i e1 e id off sz len cap hs hd hx
  split at h
  ·rename_i cs _ he hcs
   split at h
   ·rename_i hq
    obtain⟨rfl,hpos⟩:=hq
    cases h
    obtain⟨b,K,ad,c,he',ea,hc,hlc,hK⟩:=hr x _ hx
    have had:=hc om
    subst had
    obtain⟨b',K',rcs,elem,fz,h1,h2,h3,h4,h5,h6⟩:=R.obj id _ hcs
    rw[he']at h1;cases h1
    have hsh:w.shape? b=some (elem,rcs.size):=by simp[World.shape?,h2]
    obtain⟨lo,hi⟩:=fz
    let fz':Nat×Nat:=if lo == hi then(rcs.size,rcs.size+1)else(min lo rcs.size,max hi (rcs.size+1))
    have hfz:(w.freeze ⟨b,rcs.size,none⟩ 1).heap[b]?=some (.cells rcs elem fz'):=by
     simp[World.freeze,Array.getElem?_modify,h2,fz']
    have hwr:fZ w b (w.freeze ⟨b,rcs.size,none⟩ 1):=by
     refine⟨rfl,rfl,rfl,by simp[World.freeze],fun k hk=>?_⟩
     simp[World.freeze,Array.getElem?_modify,Ne.symm hk]
    have hfro:fz'.1=fz'.2∨(false=false∧K≤fz'.1):=by
     simp only[fz']
     by_cases e0:lo=hi
     ·simp[e0];omega
     ·simp only[beq_iff_eq,e0,if_false]
      have h6:=h6.imp (fun h=>h) And.right
      simp only at h6
      exact .inr ⟨trivial,om⟩
    have S:=nP (n:=n) (o':=.cells cs false) R (by simp[hcs]) he' hwr ⟨b,K,rcs,elem,fz',he',hfz,h3,h4,sm,hfro⟩
    rw[hs]at hd
    cases hd
    refine⟨.slice (some ⟨b,off,none⟩) len c,_,ε,.inl ?_,⟨b,K,_,c,he',rfl,fun _=>rfl,hlc,hK⟩,by simpa[bL]using S⟩
    simp only[execOp,ho,ea,convert,Sem.run_bind,be hs,Result.andThen_ok,be he,beq_self_eq_true,markStringish,run_shape,hsh,run_freeze,Sem.run_pure]
   ·cases h
  ·cases h
 ·rename_i ds e l hs hd hx
  split at h
  ·rename_i he
   cases h
   have ea:ρ x=.string ⟨l.toArray⟩:=hr x _ hx
   have hrun:=run_bytes_of_string (P:=P) w s d e ⟨l.toArray⟩ hs hd he
   have hsz:(⟨l.toArray⟩:ByteArray).size=l.length:=by show l.toArray.size=_;simp
   have hrow:aw (aT ε) (mL l) (l.map fun b=>Value.int .u8 b.toNat):=by
    refine aw.of_get (by simp[mL]) fun i a b ha hb=>?_
    simp only[mL,List.getElem?_map,Option.map_eq_some_iff]at ha hb
    obtain⟨u,h1,rfl⟩:=ha
    obtain⟨u',h2,rfl⟩:=hb
    rw[h1]at h2
    cases h2
    rfl
   have hbr:bytesRow ⟨l.toArray⟩ (grownCap w l.length 0 e)=((l.map fun b=>Value.int .u8 b.toNat)++List.replicate (grownCap w l.length 0 e-l.length) (Value.int .u8 0)).toArray:=by
    simp[bytesRow,hsz]
   rw[hsz]at hrun
   have S:=jI (n:=n) R (hf n om sm) hrow false (List.replicate (grownCap w l.length 0 e-l.length) (Value.int .u8 0)) sm e ((bytesRow ⟨l.toArray⟩ (grownCap w l.length 0 e)).size,(bytesRow ⟨l.toArray⟩ (grownCap w l.length 0 e)).size+1)
    (w':=w.drew.alloc (.cells (bytesRow ⟨l.toArray⟩ (grownCap w l.length 0 e)) e ((bytesRow ⟨l.toArray⟩ (grownCap w l.length 0 e)).size,(bytesRow ⟨l.toArray⟩ (grownCap w l.length 0 e)).size+1)))
    (by rw[hbr];simp) (by rw[hbr];exact⟨rfl,rfl,rfl,rfl⟩)
   have hcap:l.length≤grownCap w l.length 0 e:=by
    unfold grownCap Question.cut
    simp only
    exact Nat.le_add_right _ _
   refine⟨.slice (some ⟨w.heap.size,0,none⟩) l.length (grownCap w l.length 0 e),w.drew.alloc (.cells (bytesRow ⟨l.toArray⟩ (grownCap w l.length 0 e)) e ((bytesRow ⟨l.toArray⟩ (grownCap w l.length 0 e)).size,(bytesRow ⟨l.toArray⟩ (grownCap w l.length 0 e)).size+1)),_,.inl (by simp only[execOp,ho,ea,Sem.run_bind,hrun,Result.andThen_ok,Sem.run_pure]),⟨_,_,_,_,cJ _ _ _,rfl,fun _=>rfl,hcap,?_⟩,by simpa[bL]using S⟩
   simp
   omega
  ·cases h
 ·cases h
end
section
variable {P:Program} {o:Oper} {ρ:Operand→Value} {ε:Env} {H:Heap} {n:Nat} {w:World} {ef:Ef} {r:Operand→Option V}
theorem AA{t t' e e' ty:TypeId}{i:TypeInfo}(ht:P.underlying t=some (.slice e))(ht':P.underlying t'=some (.slice e'))(hi:P.info? e=some i){ats:Array TypeId}(h0:ats[0]?=some t)(h1:ats[1]?=some t')
 {base:Option Addr} {sLen sCap m:Nat} {x:Value} {new:Array Value} {w':World} (hx:(Builtin.lenOf x).run P w=.ok m w) (hn:(Builtin.firstCells i.size m x).run P w=.ok new w) (hroom:sLen+m≤sCap)
 (hst:(match base with | some a=>storeCells (a.add (sLen*i.size)) new.toList | none=>(pure ():Sem Unit)).run P w=.ok () w'):
 (Builtin.append_ ats ty #[.slice base sLen sCap,x]).run P w=.ok (.slice base (sLen+m) sCap) w':=by
 cases base with
 |none=>
  simp only[Sem.run_pure]at hst
  cases hst
  simp[Builtin.append_,h0,h1,be ht,be ht',db hi,hx,hroom,hn]
 |some a=>
  simp only at hst
  simp[Builtin.append_,h0,h1,be ht,be ht',db hi,hx,hroom,hn,hst]
theorem Az{t t' e e' ty:TypeId}{i:TypeInfo}{z:Value}(ht:P.underlying t=some (.slice e))(ht':P.underlying t'=some (.slice e'))(hi:P.info? e=some i)(hz:i.zero=some z){ats:Array TypeId}(h0:ats[0]?=some t)(h1:ats[1]?=some t')
 {base:Option Addr} {sLen sCap m:Nat} {x:Value} {new old:Array Value} (hx:(Builtin.lenOf x).run P w=.ok m w) (hn:(Builtin.firstCells i.size m x).run P w.drew=.ok new w.drew)
 (ho:(Builtin.firstCells i.size sLen (.slice base sLen sCap)).run P w.drew=.ok old w.drew) (hroom:sCap<sLen+m) (hb:(sLen+m)*i.bytes≤140737488355328) (hpos:0<i.bytes):
 ∃c,sLen+m≤c∧(Builtin.append_ ats ty #[.slice base sLen sCap,x]).run P w=.ok (.slice (some ⟨w.heap.size,0,none⟩) (sLen+m) c) (w.drew.alloc (.cells (old++new++Builtin.zeroCells z.cells (c-(sLen+m))) e)):=by
 have hle:sLen+m≤140737488355328:=Nat.le_trans (Nat.le_mul_of_pos_right _ hpos) hb
 have hfit:=growslice_fits hroom hb
 refine⟨grownCap w (sLen+m) sCap e,Nat.le_add_right _ _,?_⟩
 have hn0:¬(sLen+m≤sCap):=by omega
 have h63':¬(9223372036854775807<((sLen:Int)+(m:Int))):=by omega
 have h48':¬(281474976710656<Builtin.nextslicecap (sLen+m) sCap*i.bytes):=by omega
 simp[Builtin.append_,h0,h1,be ht,be ht',sizeOf,typeInfo,zeroValue,hi,hz,hx,hn0,h63',h48',Question.forced,hn,ho,newRow,grownCap]
theorem Ay{t t' e ty:TypeId}{kk:IntKind}{i:TypeInfo}{z:Value}(ht:P.underlying t=some (.slice e))(ht':P.underlying t'=some (.int kk))(hi:P.info? e=some i)(hz:i.zero=some z){ats:Array TypeId}(h0:ats[0]?=some t)(h1:ats[1]?=some t')
 {base:Option Addr} {sLen sCap m:Nat} {k:IntKind} {new:Array Value} {w':World} (hp1:0<i.size) (hm:m≤140737488355328) (hmb:m*i.bytes≤140737488355328) (hn:(if m*i.size=0 then(#[]:Array Value)else Builtin.zeroCells z.cells m)=new) (hroom:sLen+m≤sCap)
 (hst:(match base with | some a=>storeCells (a.add (sLen*i.size)) new.toList | none=>(pure ():Sem Unit)).run P w=.ok () w'):
 (Builtin.append_ ats ty #[.slice base sLen sCap,.int k m]).run P w=.ok (.slice base (sLen+m) sCap) w':=by
 have hw:IntKind.i64.wrap (m:Int)=m:=by unfold IntKind.wrap IntKind.bits;simp[IntKind.signed];omega
 have h2:¬((m:Int)<0):=by omega
 have h3:¬((m:Int)*(i.bytes:Int)>281474976710656):=by
  have:((m*i.bytes:Nat):Int)≤((140737488355328:Nat):Int):=Int.ofNat_le.2 hmb
  rw[Int.natCast_mul]at this
  omega
 have hap:(if m*i.size=0 then(pure #[]:Sem (Array Value))else do pure (Builtin.zeroCells (←zeroValue e).cells m)).run P w=.ok new w:=by
  rw[←hn]
  split<;>simp[fN hi hz]
 cases base with
 |none=>
  simp only[Sem.run_pure]at hst
  cases hst
  by_cases hq:m*i.size=0<;>simp[Builtin.append_,h0,h1,be ht,be ht',db hi,kU hi,fN hi hz,asInt,asIntOf,hw,h2,h3,hroom,hq]
 |some a=>
  simp only at hst
  by_cases hq:m*i.size=0
  ·rw[if_pos hq]at hn
   subst hn
   have h4:m=0:=by rcases Nat.mul_eq_zero.1 hq with h | h<;>omega
   subst h4
   have hst':(Result.ok () w:Result Unit)=.ok () w':=hst
   cases hst'
   have hroom':sLen≤sCap:=hroom
   have hst0:(storeCells (a.add (sLen*i.size)) []:Sem Unit)=pure ():=rfl
   simp[Builtin.append_,h0,h1,be ht,be ht',db hi,kU hi,fN hi hz,asInt,asIntOf,show IntKind.i64.wrap 0=0 from by decide,hroom',hst0]
  ·rw[if_neg hq]at hn
   have h4:¬(m=0∨i.size=0):=fun h=>hq (Nat.mul_eq_zero.2 h)
   simp[Builtin.append_,h0,h1,be ht,be ht',db hi,kU hi,fN hi hz,asInt,asIntOf,hw,h2,h3,hroom,h4,hn,hst]
   exact fun h=>absurd h hq
theorem Av{t t' e ty:TypeId}{kk:IntKind}{i:TypeInfo}{z:Value}(ht:P.underlying t=some (.slice e))(ht':P.underlying t'=some (.int kk))(hi:P.info? e=some i)(hz:i.zero=some z){ats:Array TypeId}(h0:ats[0]?=some t)(h1:ats[1]?=some t')
 {base:Option Addr} {sLen sCap m:Nat} {k:IntKind} {new old:Array Value} (hp1:0<i.size) (hmb:m*i.bytes≤140737488355328) (hn:(if m*i.size=0 then(#[]:Array Value)else Builtin.zeroCells z.cells m)=new)
 (ho:(Builtin.firstCells i.size sLen (.slice base sLen sCap)).run P w.drew=.ok old w.drew) (hroom:sCap<sLen+m) (hb:(sLen+m)*i.bytes≤140737488355328) (hpos:0<i.bytes):
 ∃c,sLen+m≤c∧(Builtin.append_ ats ty #[.slice base sLen sCap,.int k m]).run P w=.ok (.slice (some ⟨w.heap.size,0,none⟩) (sLen+m) c) (w.drew.alloc (.cells (old++new++Builtin.zeroCells z.cells (c-(sLen+m))) e)):=by
 have hle:sLen+m≤140737488355328:=Nat.le_trans (Nat.le_mul_of_pos_right _ hpos) hb
 have hfit:=growslice_fits hroom hb
 refine⟨grownCap w (sLen+m) sCap e,Nat.le_add_right _ _,?_⟩
 have hw:IntKind.i64.wrap (m:Int)=m:=by unfold IntKind.wrap IntKind.bits;simp[IntKind.signed];omega
 have h2:¬((m:Int)<0):=by omega
 have h3:¬((m:Int)*(i.bytes:Int)>281474976710656):=by
  have:((m*i.bytes:Nat):Int)≤((140737488355328:Nat):Int):=Int.ofNat_le.2 hmb
  rw[Int.natCast_mul]at this
  omega
 have hn0:¬(sLen+m≤sCap):=by omega
 have h63':¬(9223372036854775807<((sLen:Int)+(m:Int))):=by omega
 have h48':¬(281474976710656<Builtin.nextslicecap (sLen+m) sCap*i.bytes):=by omega
 by_cases hq:m*i.size=0
 ·rw[if_pos hq]at hn
  subst hn
  have h4:m=0∨i.size=0:=Nat.mul_eq_zero.1 hq
  simp[Builtin.append_,h0,h1,be ht,be ht',sizeOf,typeInfo,zeroValue,hi,hz,asInt,asIntOf,hw,h2,h3,hn0,h63',h48',h4,Question.forced,ho,newRow,grownCap]
  exact fun h=>absurd hq h
 ·rw[if_neg hq]at hn
  have h4:¬(m=0∨i.size=0):=fun h=>hq (Nat.mul_eq_zero.2 h)
  simp[Builtin.append_,h0,h1,be ht,be ht',sizeOf,typeInfo,zeroValue,hi,hz,asInt,asIntOf,hw,h2,h3,hn0,h63',h48',h4,hn,Question.forced,ho,newRow,grownCap]
  exact fun h=>absurd h hq
/-- what is appended, truly -/
structure HI(P:Program)(ats:Array TypeId)(ty e:TypeId)(i:TypeInfo)(z:Value)(w:World)(vx:Value)(m:Nat)(nv:List Value):Prop where
 inn:∀(base:Option Addr) (sLen sCap:Nat) (w':World),sLen+m≤sCap→(match base with | some a=>storeCells (a.add (sLen*i.size)) nv | none=>(pure ():Sem Unit)).run P w=.ok () w'→(Builtin.append_ ats ty #[.slice base sLen sCap,vx]).run P w=.ok (.slice base (sLen+m) sCap) w'
 out:∀(base:Option Addr) (sLen sCap:Nat) (old:Array Value),(Builtin.firstCells i.size sLen (.slice base sLen sCap)).run P w.drew=.ok old w.drew→sCap<sLen+m→(sLen+m)*i.bytes≤140737488355328→0<i.bytes→
  ∃c,sLen+m≤c∧(Builtin.append_ ats ty #[.slice base sLen sCap,vx]).run P w=.ok (.slice (some ⟨w.heap.size,0,none⟩) (sLen+m) c) (w.drew.alloc (.cells (old++nv.toArray++Builtin.zeroCells z.cells (c-(sLen+m))) e))
theorem HJ{ats:Array TypeId}{t t' e ty:TypeId}{ti:TI}{i:TypeInfo}{z:Value}{x:F}{vx:Value}{new:List F}{m:Nat}(R:bh ε H w)(hx:aT ε x vx)(ht:P.underlying t=some (.slice e))(hi:P.info? e=some i)(hz:i.zero=some z)(hsz:i.size=ti.size)(hby:i.bytes=ti.bytes)
 (hzr:∀ε,aw (aT ε) ti.zero z.cells.toList) (p1:0<ti.size) (p2:0<ti.bytes) (p3:ti.zero.length=ti.size) (h0:ats[0]?=some t) (h1:ats[1]?=some t') (h:ij P t' ti x H=some (new,m)):new.length=m*ti.size∧∃nv,aw (aT ε) new nv∧HI P ats ty e i z w vx m nv:=by
 unfold ij at h
 split at h
 ·rename_i e' ht'
  split at h
  ·rename_i new' m' hnew hm
   cases h
   obtain⟨g1,g2,nv,g3,g4⟩:=oV (P:=P) R hnew hm hx
   have g3l:=g3.length
   have gn:∀w1:World,w1.heap=w.heap→(Builtin.firstCells i.size m vx).run P w1=.ok nv.toArray w1:=fun w1 hw=>by
    have:=g4 w1 hw m (Nat.le_refl _)
    rw[List.take_of_length_le om]at this
    rw[hsz];exact this
   exact⟨g2,nv,g3,fun base sLen sCap w' hr hst=>AA ht ht' hi h0 h1 g1 (gn w rfl) hr hst,fun base sLen sCap old ho hr hb hp=>Az ht ht' hi hz h0 h1 g1 (gn w.drew rfl) ho hr hb hp⟩
  ·cases h
 ·rename_i kk ht'
  split at h
  ·rename_i k l
   split at h
   ·rename_i hq
    obtain⟨q1,q2⟩:=hq
    cases h
    have ex:vx=.int k ((l.toNat:Nat):Int):=by
     have e:vx=.int k l:=hx
     rw[e];congr 1;omega
    have hzl:=(hzr ε).length
    simp only[Array.length_toList]at hzl
    have hzz:=oa (hzr ε) l.toNat ti.size p3
    have hml:l.toNat≤140737488355328:=Nat.le_trans (Nat.le_mul_of_pos_right _ p2) q2
    have hcell:(if l.toNat*i.size=0 then(#[]:Array Value)else Builtin.zeroCells z.cells l.toNat)=(Array.range (l.toNat*ti.size)).map (fun i=>z.cells[i%z.cells.size]!):=by
     rw[hsz]
     split
     ·rename_i h0;simp[h0]
     ·rw[Builtin.zeroCells,show z.cells.size=ti.size by omega]
    refine⟨by rw[iu,p3],_,hzz,?_,?_⟩
    ·intro base sLen sCap w' hr hst
     rw[ex]
     exact Ay ht ht' hi hz h0 h1 (by rw[hsz];exact p1) hml (by rw[hby];exact q2) hcell hr hst
    ·intro base sLen sCap old ho hr hb hp
     rw[ex]
     have:=Av (P:=P) (w:=w) (ty:=ty) (k:=k) ht ht' hi hz h0 h1 (by rw[hsz];exact p1) (m:=l.toNat) (by rw[hby];exact q2) hcell ho hr hb hp
     rw[Array.toArray_toList]
     exact this
   ·cases h
  ·cases h
 ·cases h
theorem nT(cs:List F)(off:Nat):aJ cs off []=cs:=by simp[aJ]
theorem oh{id:Nat}{ob:O}(h:H id=some ob):upd H id (some ob)=H:=by
 funext i
 by_cases e:i=id
 ·subst e;rw[bG,h]
 ·rw[br _ _ e]
theorem Eo{ats:Array TypeId}{t t':TypeId}{s x:F}{vs vx:Value}{ty:TypeId}(R:bh ε H w)(hs:aT ε s vs)(hx:aT ε x vx)(hf:cI ε n (n+ef.2.2))(h0:ats[0]?=some t)(h1:ats[1]?=some t')(h:jL P t t' s x H n=some ef):
 ∃rv w' ε',(Builtin.append_ ats ty #[vs,vx]).run P w=.ok rv w'∧ba ε' ef.1 rv∧bt ε H n w ε' (bL H ef.2.1) (n+ef.2.2) w':=by
 unfold jL at h
 split at h
 ·rename_i e he
  have ht:=mb he
  split at h
  ·rename_i ti hti
   obtain⟨i,z,hi,hz,hsz,hby,hzr⟩:=kQ hti
   split at h
   ·rename_i hpos
    obtain⟨p1,p2,p3⟩:=hpos
    split at h
    ·rename_i new m hsrc
     obtain⟨g2,nv,g3,SR⟩:=HJ (ty:=ty) R hx ht hi hz hsz hby hzr p1 p2 p3 h0 h1 hsrc
     have g3l:=g3.length
     have out:∀{base:Option Addr} {sLen sCap:Nat} {old:List F} {ov:List Value},vs=.slice base sLen sCap→aw (aT ε) old ov→(∀w1:World,w1.heap=w.heap→(Builtin.firstCells i.size sLen vs).run P w1=.ok ov.toArray w1)→sCap<sLen+m→
      (sLen+m)*ti.bytes*2≤140737488355328→old.length=sLen*ti.size→cI ε n (n+1)→
      ∃rv w' ε',(Builtin.append_ ats ty #[vs,vx]).run P w=.ok rv w'∧ba ε' (vf (.sl n 0 ti.size (sLen+m) none)) rv∧bt ε H n w ε' (upd H n (some (.cells (old++new) false))) (n+1) w':=by
      intro base sLen sCap old ov hvs ho hof hroom hbytes hol hfree
      subst hvs
      obtain⟨c,c1,c2⟩:=SR.out base sLen sCap ov.toArray (hof w.drew rfl) hroom (by rw[hby];omega) om
      have hov:=ho.length
      have S:=jI (n:=n) (w':=w.drew.alloc (.cells (ov.toArray++nv.toArray++Builtin.zeroCells z.cells (c-(sLen+m))) e)) R (hfree n om om) (aw.append ho g3) false (Builtin.zeroCells z.cells (c-(sLen+m))).toList sm e (0,0) (.inl rfl)
       (by
        have e1:((ov++nv)++(Builtin.zeroCells z.cells (c-(sLen+m))).toList).toArray=ov.toArray++nv.toArray++Builtin.zeroCells z.cells (c-(sLen+m)):=by
         apply Array.ext';simp
        rw[e1]
        exact⟨rfl,rfl,rfl,rfl⟩)
      refine⟨_,_,_,c2,⟨w.heap.size,_,_,c,cJ _ _ _,rfl,fun _=>rfl,c1,?_⟩,S⟩
      have hzl:=(hzr ε).length
      simp only[Array.length_toList]at hzl
      have e2:(Builtin.zeroCells z.cells (c-(sLen+m))).toList.length=(c-(sLen+m))*ti.size:=by
       rw[Array.length_toList,Builtin.zeroCells,Array.size_map,Array.size_range,hzl,p3]
      show 0+c*ti.size=(ov++nv).length+_
      rw[e2,List.length_append,hov,g3l,hol,g2,←Nat.add_mul,←Nat.add_mul,Nat.zero_add]
      congr 1
      omega
     unfold df at h
     split at h
     ·
      have evs:vs=.slice none 0 0:=hs
      split at h
      ·rename_i hm0
       cases h
       subst hm0
       have hnv:nv=[]:=List.eq_nil_of_length_eq_zero (by rw[Nat.zero_mul]at g2;omega)
       refine⟨.slice none 0 0,w,ε,?_,rfl,by simpa[bL]using bt.refl R⟩
       rw[evs]
       exact SR.inn none 0 0 w (Nat.le_refl _) rfl
      ·split at h
       ·rename_i hm0 hb
        cases h
        have:=out (old:=[]) (ov:=[]) evs trivial (fun w1 _=>by rw[evs];simp[Builtin.firstCells]) om (by simpa using hb) sm hf
        simpa[bL]using this
       ·cases h
     ·rename_i id off sz' len cap
      have hs':=hs
      obtain⟨b,K,ad,c,hid,evs,hc,hlc,hK⟩:=hs
      split at h
      ·rename_i hsz'
       subst hsz'
       split at h
       ·rename_i cs ex hcs
        obtain⟨b',K',rcs,elem,fz,q1,q2,q3,q4,q5,q6⟩:=R.obj id _ hcs
        rw[hid]at q1;cases q1
        have hcl:=i9 q4
        split at h
        ·rename_i hle
         obtain⟨s1,s2,ov,s3,s4⟩:=oV (P:=P) (sz:=ti.size) (m:=len) (new:=(cs.drop off).take (len*ti.size)) (x:=.sl id off ti.size len cap) (v:=vs) R (by simp[aF,hcs,hle]) rfl hs'
         have s3l:=s3.length
         have so:∀w1:World,w1.heap=w.heap→(Builtin.firstCells i.size len vs).run P w1=.ok ov.toArray w1:=fun w1 hw=>by
          have:=s4 w1 hw len (Nat.le_refl _)
          rw[List.take_of_length_le om]at this
          rw[hsz];exact this
         have inp:len+m≤c→off+(len+m)*ti.size≤cs.length→∃rv w' ε',(Builtin.append_ ats ty #[vs,vx]).run P w=.ok rv w'∧ba ε' (vf (.sl id off ti.size (len+m) cap)) rv∧bt ε H n w ε' (upd H id (some (.cells (aJ cs (off+len*ti.size) new) ex))) (n+0) w':=by
          intro hroom hfit
          have hspl:off+len*ti.size+new.length≤cs.length:=by rw[g2,Nat.add_assoc,←Nat.add_mul];exact hfit
          by_cases hc0:0<c
          ·have had:=hc hc0
           subst had
           obtain⟨w',k1,k2⟩:=nK (P:=P) (n:=n) (off:=off+len*ti.size) R hcs hid g3 hspl
           refine⟨.slice (some ⟨b,off,none⟩) (len+m) c,w',ε,?_,⟨b,K,_,c,hid,rfl,fun _=>rfl,hroom,hK⟩,k2⟩
           rw[evs]
           exact SR.inn (some ⟨b,off,none⟩) len c w' hroom (by simp only;rw[iy,hsz];exact k1)
          ·have hm0:m=0:=by omega
           have hl0:len=0:=by omega
           have hnv:nv=[]:=List.eq_nil_of_length_eq_zero (by rw[hm0]at g2;simp at g2;rw[g2]at g3l;simpa using g3l)
           have hnew0:new=[]:=List.eq_nil_of_length_eq_zero (by rw[hm0]at g2;simpa using g2)
           refine⟨vs,w,ε,?_,?_,?_⟩
           ·rw[evs]
            have:=SR.inn (some ad) len c w hroom (by rw[hnv];rfl)
            rw[hm0,Nat.add_zero]at this
            exact this
           ·exact⟨b,K,ad,c,hid,by rw[evs,hm0];rfl,hc,om,hK⟩
           ·rw[hnew0,nT,oh hcs]
            exact bt.refl R
         simp only at h
         split at h
         ·rename_i hb
          split at h
          ·
           rename_i c'
           have hcc:c=c':=hK
           split at h
           ·rename_i hroom
            split at h
            ·rename_i hfit
             cases h
             simpa[bL]using inp om hfit
            ·cases h
           ·rename_i hroom
            cases h
            simpa[bL]using out evs s3 so om hb (by simp;omega) hf
          ·have hcc:off+c*ti.size=K:=hK
           split at h
           ·rename_i hfit
            cases h
            have:len+m≤c:=Nat.le_of_mul_le_mul_right om p1
            simpa[bL]using inp this hfit
           ·rename_i hfit
            split at h
            ·rename_i hex
             cases h
             have:=q5 hex
             have hroom:c<len+m:=by
              rcases Nat.lt_or_ge c (len+m)with h' | h'
              ·exact h'
              ·have:=Nat.mul_le_mul_right ti.size h'
               omega
             simpa[bL]using out evs s3 so hroom hb (by simp;omega) hf
            ·split at h
             ·rename_i hoff
              cases h
              subst hoff
              have e1:cs.take (len*ti.size)=(cs.drop 0).take (len*ti.size):=by simp
              have hne:id≠n:=fun e=>by subst e;have:=hf id om sm;rw[hid]at this;cases this
              rcases Nat.lt_or_ge c (len+m)with hroom | hroom
              ·obtain⟨rv,w',ε',k1,k2,k3⟩:=out evs s3 so hroom hb (by simp;omega) hf
               refine⟨rv,w',ε',k1,k2,?_⟩
               have:=we k3 id (by simp[hid])
               have e2:upd (upd H n (some (.cells ((cs.drop 0).take (len*ti.size)++new) false))) id none=upd (upd H id none) n (some (.cells (cs.take (len*ti.size)++new) false)):=by
                funext j
                rw[e1]
                unfold upd
                by_cases a1:j=id
                ·subst a1;simp[hne]
                ·simp[a1]
               rw[e2]at this
               simpa[bL]using this
              ·
               have hm1:0<m:=by
                rcases Nat.eq_zero_or_pos m with h' | h'
                ·subst h';simp at hfit hle;omega
                ·exact h'
               have had:=hc om
               subst had
               have hnl:nv.length=m*ti.size:=by omega
               have hKK:len*ti.size+nv.length≤rcs.size:=by
                have:=Nat.mul_le_mul_right ti.size hroom
                rw[Nat.add_mul]at this
                omega
               obtain⟨w',k1,k2,k3⟩:=jD (P:=P) (len*ti.size) nv 0 rcs w q2 (by rw[q3];exact q6.imp (fun h=>h) And.right) (by simpa using hKK) (oC g3)
               simp only[Nat.add_zero]at k3
               have hlen:len*ti.size≤cs.length:=by omega
               have S:=up (n:=n) (o':=.cells (cs.take (len*ti.size)++new) false) R (hf n om sm) (by simp[hcs]) hid k2
                ⟨b,K,_,elem,fz,cJ _ _ _,k3,by simp;omega,by
                 have hl1:(cs.take (len*ti.size)++new).length=len*ti.size+nv.length:=by simp;omega
                 rw[hl1]
                 have e3:(rcs.toList.take (len*ti.size)++nv++rcs.toList.drop (len*ti.size+nv.length)).toArray.toList.take (len*ti.size+nv.length)=rcs.toList.take (len*ti.size)++nv:=by
                  simp only[List.toList_toArray]
                  rw[List.take_append_of_le_length (by simp;omega)]
                  exact List.take_of_length_le (by simp;omega)
                 rw[e3]
                 refine aw.append ?_ (g3.mono fun _ _ k=>aT.mono (le_ins (hf n om sm) _) k)
                 have:=q4.take (len*ti.size)
                 rw[List.take_take,Nat.min_eq_left hlen]at this
                 exact this.mono fun _ _ k=>aT.mono (le_ins (hf n om sm) _) k,sm,q6.imp (fun h=>h) fun h=>⟨rfl,h.2⟩⟩
               refine⟨.slice (some ⟨b,0,none⟩) (len+m) c,w',_,?_,⟨b,K,_,c,cJ _ _ _,rfl,fun _=>rfl,hroom,hcc⟩,by simpa[bL]using S⟩
               rw[evs]
               exact SR.inn (some ⟨b,0,none⟩) len c w' hroom (by simp only;rw[iy,hsz,Nat.zero_add];exact k1)
             ·cases h
         ·cases h
        ·cases h
       ·cases h
      ·cases h
     ·cases h
    ·cases h
   ·cases h
  ·cases h
 ·cases h
end
end Go.Proofs.YtkimkgbppegkhaaGreat.Cm

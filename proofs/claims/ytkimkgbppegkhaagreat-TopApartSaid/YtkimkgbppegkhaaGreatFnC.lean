/- The clean machine's walks of the elements' functions: products, sums, inverses. · The clean machine's walks of the elements' functions: rows of products and sums, powers, inverses. · The clean machine's walks of the elements' functions: powers and inverses; numbers that are drawn. -/
import Derived.Test.YtkimkgbppegkhaaGreatCmY
import Derived.Test.YtkimkgbppegkhaaGreatGf
import Derived.Test.YtkimkgbppegkhaaGreatProg
set_option linter.unusedVariables false
set_option linter.unusedSimpArgs false
namespace Go.Proofs.YtkimkgbppegkhaaGreat.Cm
open Go Go.RowKit Go.Proofs.YtkimkgbppegkhaaGreat.Gf
theorem CV:(List.range 256).all (fun a=>(Nat.beq (a &&& 128) 0 == Nat.ble (a+1) 128)&&(Nat.ble (a &&& 128) 255))=true:=by kernel_rfl
theorem pi{a:Nat}(ha:a<256):(a &&& 128=0↔a<128):=by
 have h:=CV
 rw[List.all_eq_true]at h
 have h1:=h a (List.mem_range.mpr ha)
 rw[Bool.and_eq_true,beq_iff_eq,Bool.eq_iff_iff,Nat.beq_eq,Nat.ble_eq]at h1
 omega
theorem pw{a b:Nat}(ha:a<256)(hb:b<256):a ^^^ b≤255:=by have:=gO ha hb;omega
theorem zn{z:Nat}(x:Int)(h:x%256=z):IntKind.u8.wrap x=(z:Int):=by
 simp only[IntKind.wrap,IntKind.bits,IntKind.signed]
 simpa using h
theorem uf{x y:Int}(h:not (c6 x y)=true):x≠y:=by rw[ft]at h;simpa using h
theorem qD{x y:Int}(h:not (c6 x y)=false):x=y:=by rw[ft]at h;simpa using h
theorem wU{x y:Int}(h:c6 x y=true):x=y:=by rw[ft]at h;simpa using h
theorem wi{x y:Int}(h:c6 x y=false):x≠y:=by rw[ft]at h;simpa using h
theorem jJ{x y:Int}(h:cV x y=true):x<y:=by rw[jV]at h;simpa using h
theorem kL{x y:Int}(h:cV x y=false):y≤x:=by rw[jV]at h;simpa using h
theorem xa:∀(n a:Nat),b3 n a 0=0
 |0,_=>rfl
 |n+1,a=>by unfold b3;rw[show(0:Nat)/2=0 from rfl,xa n];simp
theorem Cs{H:Heap}{n:Nat}:∀(k a b out:Nat) (K:Ko),a<256→b<256→out<256→b<2 ^ k→(∀A,A 5=some (vb (out ^^^ b3 k a b))→K (.exit 0) A H n)→
 aC Tryz.prog 230 [0,0,0,1,1] (tl [(0,vb a),(1,vb b),(5,vb out)]) H n K:=by
 intro k
 induction k with
 |zero=>
  intro a b out K ha hb ho h hK
  have hb0:b=0:=by omega
  subst hb0
  refine aC.round (To.seq kr (To.seq kr (To.region kr (Sg.go 2 kr (Sg.done kr ?_)))))
  show To Tryz.prog 230 [1,0,0,0,0,1,1] _ _ _ _
  refine To.ifF kr kr (To.exit 0 kr ?_)
  exact hK _ (by simp only[b3,Nat.xor_zero];kernel_rfl)
 |succ k ih=>
  intro a b out K ha hb ho h hK
  rw[Nat.pow_succ]at h
  have hb1:b &&& 1=b%2:=Nat.and_one_is_mod b
  refine aC.round (To.seq kr (To.seq kr (To.region kr (Sg.go 2 kr (Sg.done kr ?_)))))
  show To Tryz.prog 230 [1,0,0,0,0,1,1] _ _ _ _
  refine To.ifB (not (c6 (b:Int) 0)) kr kr (fun h0=>?_) (fun h0=>?_)
  ·refine To.skip kr ?_
   show To Tryz.prog 230 [1,0,0,0,1,1] _ _ _ _
   refine To.seq kr (To.block 1 kr (To.seq kr (To.seq kr (To.region kr (Sg.go 1 kr (Sg.op (some 12) kr (au (pK .u8 b 1 (show b≤255 by omega) (show 1≤255 by omega)) kr) (Sg.go 1 kr (Sg.done kr ?_))))))))
   show To Tryz.prog 230 [1,0,0,0,1,0,0,0,1,1] _ _ _ _
   refine To.ifB (c6 ((b &&& 1:Nat):Int) 1) kr kr (fun h1=>?_) (fun h1=>?_)
   ·refine To.region kr (Sg.go 2 kr (Sg.op (some 16) kr (au (iQ .u8 out a (show out≤255 by omega) (show a≤255 by omega) (pw ho ha)) kr) (Sg.go 1 kr (Sg.done kr ?_))))
    show To Tryz.prog 230 [1,0,0,1,0,0,0,1,1] _ _ _ _
    have h2:b%2=1:=by have:=wU h1;omega
    refine To.seq kr (To.region kr (Sg.go 1 kr (Sg.op (some 18) kr (au (pK .u8 a 128 (show a≤255 by omega) (show 128≤255 by omega)) kr) (Sg.go 2 kr (Sg.done kr ?_)))))
    show To Tryz.prog 230 [1,1,0,0,1,0,0,0,1,1] _ _ _ _
    refine To.seq kr (To.region kr (Sg.go 1 kr (Sg.op (some 21) kr (au (tu .u8 .u64 a 1 ((2*a)%256) (zn _ (by show((a*2:Nat):Int)%256=_;omega))) kr) (Sg.go 1 kr (Sg.done kr ?_)))))
    show To Tryz.prog 230 [1,1,1,0,0,1,0,0,0,1,1] _ _ _ _
    refine To.seq kr (To.region kr (Sg.go 1 kr (Sg.done kr ?_)))
    show To Tryz.prog 230 [1,1,1,1,0,0,1,0,0,0,1,1] _ _ _ _
    refine To.ifB (not (c6 ((a &&& 128:Nat):Int) 0)) kr kr (fun h3=>?_) (fun h3=>?_)
    ·refine To.region kr (Sg.go 1 kr (Sg.op (some 24) kr (au (iQ .u8 ((2*a)%256) 29 (show(2*a)%256≤255 by omega) (show 29≤255 by omega) (pw om om)) kr) (Sg.go 1 kr (Sg.done kr ?_))))
     show To Tryz.prog 230 [1,1,0,0,0,1,1] _ _ _ _
     refine To.region kr (Sg.go 1 kr (Sg.op (some 10) kr (au (gq .u8 .u64 b 1) kr) (Sg.go 1 kr (Sg.done kr ?_))))
     have h4:128≤a:=by
      have:=uf h3
      have:=pi ha
      omega
     refine aC.only [0,1,5] [(0,vb ((2*a)%256 ^^^ 29)),(1,vb (b/2)),(5,vb (out ^^^ a))] kr ?_
     exact ih _ _ _ _ (gO om om) om (gO ho ha) om (fun A hA=>hK A (by rw[hA];simp only[b3,xt,h2,h4,Nat.xor_assoc,Nat.zero_xor,if_true,if_false]))
    ·refine To.skip kr ?_
     show To Tryz.prog 230 [1,1,0,0,0,1,1] _ _ _ _
     refine To.region kr (Sg.go 1 kr (Sg.op (some 10) kr (au (gq .u8 .u64 b 1) kr) (Sg.go 1 kr (Sg.done kr ?_))))
     have h4:¬128≤a:=by
      have:=qD h3
      have:=pi ha
      omega
     refine aC.only [0,1,5] [(0,vb ((2*a)%256)),(1,vb (b/2)),(5,vb (out ^^^ a))] kr ?_
     exact ih _ _ _ _ om om (gO ho ha) om (fun A hA=>hK A (by rw[hA];simp only[b3,xt,h2,h4,Nat.xor_assoc,Nat.zero_xor,if_true,if_false]))
   ·have h2:¬b%2=1:=by have:=wi h1;omega
    refine To.skip kr ?_
    show To Tryz.prog 230 [1,0,0,1,0,0,0,1,1] _ _ _ _
    refine To.seq kr (To.region kr (Sg.go 1 kr (Sg.op (some 18) kr (au (pK .u8 a 128 (show a≤255 by omega) (show 128≤255 by omega)) kr) (Sg.go 2 kr (Sg.done kr ?_)))))
    show To Tryz.prog 230 [1,1,0,0,1,0,0,0,1,1] _ _ _ _
    refine To.seq kr (To.region kr (Sg.go 1 kr (Sg.op (some 21) kr (au (tu .u8 .u64 a 1 ((2*a)%256) (zn _ (by show((a*2:Nat):Int)%256=_;omega))) kr) (Sg.go 1 kr (Sg.done kr ?_)))))
    show To Tryz.prog 230 [1,1,1,0,0,1,0,0,0,1,1] _ _ _ _
    refine To.seq kr (To.region kr (Sg.go 1 kr (Sg.done kr ?_)))
    show To Tryz.prog 230 [1,1,1,1,0,0,1,0,0,0,1,1] _ _ _ _
    refine To.ifB (not (c6 ((a &&& 128:Nat):Int) 0)) kr kr (fun h3=>?_) (fun h3=>?_)
    ·refine To.region kr (Sg.go 1 kr (Sg.op (some 24) kr (au (iQ .u8 ((2*a)%256) 29 (show(2*a)%256≤255 by omega) (show 29≤255 by omega) (pw om om)) kr) (Sg.go 1 kr (Sg.done kr ?_))))
     show To Tryz.prog 230 [1,1,0,0,0,1,1] _ _ _ _
     refine To.region kr (Sg.go 1 kr (Sg.op (some 10) kr (au (gq .u8 .u64 b 1) kr) (Sg.go 1 kr (Sg.done kr ?_))))
     have h4:128≤a:=by
      have:=uf h3
      have:=pi ha
      omega
     refine aC.only [0,1,5] [(0,vb ((2*a)%256 ^^^ 29)),(1,vb (b/2)),(5,vb (out))] kr ?_
     exact ih _ _ _ _ (gO om om) om ho om (fun A hA=>hK A (by rw[hA];simp only[b3,xt,h2,h4,Nat.xor_assoc,Nat.zero_xor,if_true,if_false]))
    ·refine To.skip kr ?_
     show To Tryz.prog 230 [1,1,0,0,0,1,1] _ _ _ _
     refine To.region kr (Sg.go 1 kr (Sg.op (some 10) kr (au (gq .u8 .u64 b 1) kr) (Sg.go 1 kr (Sg.done kr ?_))))
     have h4:¬128≤a:=by
      have:=qD h3
      have:=pi ha
      omega
     refine aC.only [0,1,5] [(0,vb ((2*a)%256)),(1,vb (b/2)),(5,vb (out))] kr ?_
     exact ih _ _ _ _ om om ho om (fun A hA=>hK A (by rw[hA];simp only[b3,xt,h2,h4,Nat.xor_assoc,Nat.zero_xor,if_true,if_false]))
  ·refine To.exit 0 kr ?_
   have hb0:b=0:=by have:=qD h0;omega
   subst hb0
   exact hK _ (by rw[show b3 (k+1) a 0=0 from xa _ _,Nat.xor_zero];kernel_rfl)
theorem mj(a b:Nat)(ha:a<256)(hb:b<256)(H:Heap)(n:Nat):aS Tryz.prog 230 [vb a,vb b] H n (vb (gm a b)) H n:=by
 have h:∃v H' n',aS Tryz.prog 230 [vb a,vb b] H n v H' n'∧(v=vb (gm a b)∧H'=H∧n'=n):=by
  refine aS.of_to kr (To.seq kr (To.region kr (Sg.go 1 kr (Sg.done kr ?_))))
  show To Tryz.prog 230 [1] _ _ _ _
  refine To.seq kr (To.region kr (Sg.go 1 kr (Sg.done kr ?_)))
  show To Tryz.prog 230 [1,1] _ _ _ _
  refine To.seq kr (To.block 0 kr (To.loop kr (aC.only [0,1,5] [(0,vb a),(1,vb b),(5,vb 0)] kr (Cs 8 a b 0 _ ha hb om hb (fun A hA=>?_)))))
  show To Tryz.prog 230 [1,1,1] _ _ _ _
  refine To.only [5] [(5,vb (gm a b))] (by simp only[fU,hA,Nat.zero_xor];rfl) (To.seq kr (To.region kr (Sg.go 2 kr (Sg.done kr ?_))))
  show To Tryz.prog 230 [1,1,1,1] _ _ _ _
  refine To.ret kr ?_
  exact⟨.inr rfl,_,kr,rfl,rfl,rfl⟩
 obtain⟨v,H',n',h1,rfl,rfl,rfl⟩:=h
 exact h1
/-- a row of elements, as it lies in cells -/
def bs(l:List Nat):List F:=l.map fun(x:Nat)=>F.int .u8 (x:Int)
theorem gk{l:List Nat}{i:Nat}{x:Nat}(h:l[i]?=some x):(bs l)[i]?=some (.int .u8 (x:Int)):=by simp[bs,h]
theorem bg(l:List Nat):(bs l).length=l.length:=by simp[bs]
def B8(l:List Nat):Prop:=∀x∈l,x<256
theorem eJ{z:Nat}{x:Int}(h:x=z)(hz:z<9223372036854775808):IntKind.i64.wrap x=(z:Int):=by
 subst h
 exact yi om (by show(z:Int)≤9223372036854775807;omega)
def iS(out:Nat):List Nat→Nat
 |[]=>out
 |x::l=>iS (gm out x) l
def iX(out:Nat):List Nat→Nat
 |[]=>out
 |x::l=>iX (out ^^^ x) l
/-- a cell, as a heap has it -/
def cn(H:Heap)(id o:Nat)(x:F):Prop:=(∃cs ex,H id=some (.cells cs ex)∧cs[o]?=some x)∨∃rcs elem fz k m,H id=some (.whole rcs elem fz)∧rcs[o]?=some (Value.int k m)∧x=.int k m
theorem cn.mono{H H':Heap}{id o:Nat}{x:F}(h:cn H id o x)(hm:∀ob,H id=some ob→H' id=some ob):cn H' id o x:=by
 rcases h with⟨cs,ex,h1,h2⟩|⟨rcs,elem,fz,k,m,h1,h2,h3⟩
 ·exact .inl ⟨cs,ex,hm _ h1,h2⟩
 ·exact .inr ⟨rcs,elem,fz,k,m,hm _ h1,h2,h3⟩
theorem cn.some{H:Heap}{id o:Nat}{x:F}(h:cn H id o x):∃ob,H id=some ob:=by
 rcases h with⟨cs,ex,h1,h2⟩|⟨rcs,elem,fz,k,m,h1,h2,h3⟩
 ·exact⟨_,h1⟩
 ·exact⟨_,h1⟩
theorem eq{P:Program}{o:Oper}{r:Operand→Option V}{H:Heap}{n id off:Nat}{x:F}(h:cn H id off x)(hk:l8 P o r=some (id,off):=by kernel_rfl):aE P o r H n (vf x) H n:=by
 rcases h with⟨cs,ex,h1,h2⟩|⟨rcs,elem,fz,k,m,hh,hx,rfl⟩
 ·exact am h1 h2 hk
 ·unfold l8 at hk
  split at hk
  ·rename_i t a ho
   split at hk
   ·rename_i id' off' ha
    split at hk
    ·rename_i s h1 h2
     cases hk
     exact .prim (vf (.int k m),[],0) (by simp only[ho,stepOp,ha,hh,h1,h2,hx])
    ·cases hk
   ·cases hk
  ·cases hk
theorem yt:∀{vs:List Value} {l:List F},cY vs=some l→l.length=vs.length∧∀(i:Nat) x,l[i]?=some x→∃k m,vs[i]?=some (Value.int k m)∧x=.int k m
 |[],l,h=>by simp only[cY]at h;cases h;exact⟨rfl,fun i x hx=>by simp at hx⟩
 |v::vs,l,h=>by
  unfold cY at h
  split at h
  ·rename_i heq;cases heq
  ·rename_i k m r heq
   cases heq
   split at h
   ·rename_i l' hl
    cases h
    obtain⟨g1,g2⟩:=yt hl
    refine⟨by simp[g1],fun i x hx=>?_⟩
    cases i with
    |zero=>simp at hx;exact⟨k,m,sm,hx.symm⟩
    |succ i=>simpa using g2 i x (by simpa using hx)
   ·cases h
  ·cases h
theorem dG{H:Heap}{sz id off sz' len:Nat}{cap:Option Nat}{cs:List F}(h:aF H sz (.sl id off sz' len cap)=some cs):sz'=sz∧cs.length=len*sz∧(∃ob,H id=some ob)∧∀(i:Nat) x,cs[i]?=some x→cn H id (off+i) x:=by
 simp only[aF]at h
 split at h
 ·rename_i h1
  split at h
  ·rename_i all ex h2
   split at h
   ·rename_i h3
    cases h
    refine⟨h1,by simp;omega,⟨_,h2⟩,fun i x hx=>.inl ⟨all,ex,h2,?_⟩⟩
    rw[List.getElem?_take]at hx
    split at hx
    ·rwa [List.getElem?_drop]at hx
    ·cases hx
   ·cases h
  ·rename_i rcs elem fz h2
   split at h
   ·rename_i h3
    obtain⟨g1,g2⟩:=yt h
    refine⟨h1,by rw[g1];simp;omega,⟨_,h2⟩,fun i x hx=>?_⟩
    obtain⟨k,m,g3,g4⟩:=g2 i x hx
    refine .inr ⟨rcs,elem,fz,k,m,h2,?_,g4⟩
    rw[List.getElem?_take]at g3
    split at g3
    ·rw[List.getElem?_drop]at g3
     simpa using g3
    ·cases g3
   ·cases h
  ·cases h
 ·cases h
theorem ET{H:Heap}{n id off len:Nat}{cap:Option Nat}(l:List Nat)(hl:len=l.length)(hrow:∀(i:Nat) (x:Nat),l[i]?=some x→cn H id (off+i) (.int .u8 (x:Int)))(hb:B8 l)(hlt:len<9223372036854775808):
 ∀(k i:Nat) (out:Nat) (K:Ko),k+i=len→out<256→(∀A,A 3=some (vb (iS out (l.drop i)))→K (.exit 0) A H n)→
 aC Tryz.prog 198 [0,0,1,0,1,1] (tl [(3,vb out),(6,vf (.sl id off 1 len cap)),(7,vi len),(8,vi i)]) H n K:=by
 intro k
 induction k with
 |zero=>
  intro i out K hk ho hK
  refine aC.round (To.seq kr (To.region kr (Sg.go 1 kr (Sg.done kr ?_))))
  show To Tryz.prog 198 [1,0,0,1,0,1,1] _ _ _ _
  refine To.seq kr (To.ifB (cV (i:Int) (len:Int)) kr kr (fun h0=>?_) (fun h0=>?_))
  ·exact absurd (jJ h0) om
  ·refine To.exit 0 kr ?_
   exact hK _ (by rw[List.drop_of_length_le om];kernel_rfl)
 |succ k ih=>
  intro i out K hk ho hK
  have hi:i<l.length:=by omega
  have hx:l[i]?=some l[i]:=List.getElem?_eq_getElem hi
  have hx8:l[i]<256:=hb _ (List.getElem_mem hi)
  have hd:l.drop i=l[i]::l.drop (i+1):=List.drop_eq_getElem_cons hi
  refine aC.round (To.seq kr (To.region kr (Sg.go 1 kr (Sg.done kr ?_))))
  show To Tryz.prog 198 [1,0,0,1,0,1,1] _ _ _ _
  refine To.seq kr (To.ifB (cV (i:Int) (len:Int)) kr kr (fun h0=>?_) (fun h0=>?_))
  ·refine To.skip kr ?_
   show To Tryz.prog 198 [1,1,0,0,1,0,1,1] _ _ _ _
   refine To.seq kr (To.block 1 kr (To.seq kr (To.region kr (Sg.op (some 10) kr (bD (id:=id) (off:=off) (sz:=1) (len:=len) (k:=i) om kr) (Sg.op (some 11) kr (eq (off:=off+i*1) (by rw[Nat.mul_one];exact hrow i _ hx) kr) (Sg.go 1 kr (Sg.done kr ?_)))))))
   show To Tryz.prog 198 [1,0,0,1,1,0,0,1,0,1,1] _ _ _ _
   refine To.region kr (Sg.go 2 kr (Sg.op (some 14) kr (b_ kr (mj out l[i] ho hx8 H n) kr) (Sg.go 1 kr (Sg.done kr ?_))))
   show To Tryz.prog 198 [1,1,1,0,0,1,0,1,1] _ _ _ _
   refine To.region kr (Sg.op (some 15) kr (au (iP .i64 i 1 ((i+1:Nat):Int) (eJ om om)) kr) (Sg.go 1 kr (Sg.done kr (aC.only [3,6,7,8] [(3,vb (gm out l[i])),(6,vf (.sl id off 1 len cap)),(7,vi len),(8,vi (i+1))] kr ?_))))
   exact ih _ _ _ om (lJ ho) (fun A hA=>hK A (by rw[hA,hd];rfl))
  ·exact absurd (kL h0) om
theorem EC{H:Heap}{n id off len:Nat}{cap:Option Nat}(l:List Nat)(hl:len=l.length)(hrow:∀(i:Nat) (x:Nat),l[i]?=some x→cn H id (off+i) (.int .u8 (x:Int)))(hb:B8 l)(hlt:len<9223372036854775808):
 ∀(k i:Nat) (out:Nat) (K:Ko),k+i=len→out<256→(∀A,A 3=some (vb (iX out (l.drop i)))→K (.exit 0) A H n)→
 aC Tryz.prog 92 [0,0,1,0,1,1] (tl [(3,vb out),(6,vf (.sl id off 1 len cap)),(7,vi len),(8,vi i)]) H n K:=by
 intro k
 induction k with
 |zero=>
  intro i out K hk ho hK
  refine aC.round (To.seq kr (To.region kr (Sg.go 1 kr (Sg.done kr ?_))))
  show To Tryz.prog 92 [1,0,0,1,0,1,1] _ _ _ _
  refine To.seq kr (To.ifB (cV (i:Int) (len:Int)) kr kr (fun h0=>?_) (fun h0=>?_))
  ·exact absurd (jJ h0) om
  ·refine To.exit 0 kr ?_
   exact hK _ (by rw[List.drop_of_length_le om];kernel_rfl)
 |succ k ih=>
  intro i out K hk ho hK
  have hi:i<l.length:=by omega
  have hx:l[i]?=some l[i]:=List.getElem?_eq_getElem hi
  have hx8:l[i]<256:=hb _ (List.getElem_mem hi)
  have hd:l.drop i=l[i]::l.drop (i+1):=List.drop_eq_getElem_cons hi
  refine aC.round (To.seq kr (To.region kr (Sg.go 1 kr (Sg.done kr ?_))))
  show To Tryz.prog 92 [1,0,0,1,0,1,1] _ _ _ _
  refine To.seq kr (To.ifB (cV (i:Int) (len:Int)) kr kr (fun h0=>?_) (fun h0=>?_))
  ·refine To.skip kr ?_
   show To Tryz.prog 92 [1,1,0,0,1,0,1,1] _ _ _ _
   refine To.seq kr (To.block 1 kr (To.seq kr (To.region kr (Sg.op (some 10) kr (bD (id:=id) (off:=off) (sz:=1) (len:=len) (k:=i) om kr) (Sg.op (some 11) kr (eq (off:=off+i*1) (by rw[Nat.mul_one];exact hrow i _ hx) kr) (Sg.go 1 kr (Sg.done kr ?_)))))))
   show To Tryz.prog 92 [1,0,0,1,1,0,0,1,0,1,1] _ _ _ _
   refine To.region kr (Sg.go 2 kr (Sg.op (some 14) kr (au (iQ .u8 out l[i] (show out≤255 by omega) (show l[i]≤255 by omega) (pw ho hx8)) kr) (Sg.go 1 kr (Sg.done kr ?_))))
   show To Tryz.prog 92 [1,1,1,0,0,1,0,1,1] _ _ _ _
   refine To.region kr (Sg.op (some 15) kr (au (iP .i64 i 1 ((i+1:Nat):Int) (eJ om om)) kr) (Sg.go 1 kr (Sg.done kr (aC.only [3,6,7,8] [(3,vb (out ^^^ l[i])),(6,vf (.sl id off 1 len cap)),(7,vi len),(8,vi (i+1))] kr ?_))))
   exact ih _ _ _ om (gO ho hx8) (fun A hA=>hK A (by rw[hA,hd];rfl))
  ·exact absurd (kL h0) om
theorem xY{H:Heap}(n:Nat){id off len:Nat}{cap:Option Nat}(l:List Nat)(hr:aF H 1 (.sl id off 1 len cap)=some (bs l))(hb:B8 l)(hlt:l.length<9223372036854775808):aS Tryz.prog 198 [vf (.sl id off 1 len cap)] H n (vb (iS 1 l)) H n:=by
 have h:∃v H' n',aS Tryz.prog 198 [vf (.sl id off 1 len cap)] H n v H' n'∧(v=vb (iS 1 l)∧H'=H∧n'=n):=by
  refine aS.of_to kr ?_
  obtain⟨_,hlen,_,hat⟩:=dG hr
  have hl:len=l.length:=by
   rw[bg]at hlen
   omega
  have hrow:∀(i:Nat) (x:Nat),l[i]?=some x→cn H id (off+i) (.int .u8 (x:Int)):=fun i x hx=>hat i _ (gk hx)
  refine To.seq kr (To.region kr (Sg.go 1 kr (Sg.done kr ?_)))
  show To Tryz.prog 198 [1] _ _ _ _
  refine To.seq kr (To.region kr (Sg.go 1 kr (Sg.done kr ?_)))
  show To Tryz.prog 198 [1,1] _ _ _ _
  refine To.seq kr (To.seq kr (To.region kr (Sg.go 1 kr (Sg.op (some 7) kr (fC (l:=len) kr) (Sg.go 1 kr (Sg.done kr ?_))))))
  show To Tryz.prog 198 [1,0,1,1] _ _ _ _
  refine To.block 0 kr (To.loop kr (aC.only [3,6,7,8] [(3,vb 1),(6,vf (.sl id off 1 len cap)),(7,vi len),(8,vi 0)] kr (ET l hl hrow hb om len 0 1 _ om om (fun A hA=>?_))))
  show To Tryz.prog 198 [1,1,1] _ _ _ _
  refine To.only [3] [(3,vb (iS 1 l))] (by simp only[fU,hA,List.drop_zero]) (To.seq kr (To.region kr (Sg.go 2 kr (Sg.done kr ?_))))
  show To Tryz.prog 198 [1,1,1,1] _ _ _ _
  refine To.ret kr ?_
  exact⟨.inr rfl,_,kr,rfl,rfl,rfl⟩
 obtain⟨v,H',n',h1,rfl,rfl,rfl⟩:=h
 exact h1
theorem yc{H:Heap}(n:Nat){id off len:Nat}{cap:Option Nat}(l:List Nat)(hr:aF H 1 (.sl id off 1 len cap)=some (bs l))(hb:B8 l)(hlt:l.length<9223372036854775808):aS Tryz.prog 92 [vf (.sl id off 1 len cap)] H n (vb (iX 0 l)) H n:=by
 have h:∃v H' n',aS Tryz.prog 92 [vf (.sl id off 1 len cap)] H n v H' n'∧(v=vb (iX 0 l)∧H'=H∧n'=n):=by
  refine aS.of_to kr ?_
  obtain⟨_,hlen,_,hat⟩:=dG hr
  have hl:len=l.length:=by
   rw[bg]at hlen
   omega
  have hrow:∀(i:Nat) (x:Nat),l[i]?=some x→cn H id (off+i) (.int .u8 (x:Int)):=fun i x hx=>hat i _ (gk hx)
  refine To.seq kr (To.region kr (Sg.go 1 kr (Sg.done kr ?_)))
  show To Tryz.prog 92 [1] _ _ _ _
  refine To.seq kr (To.region kr (Sg.go 1 kr (Sg.done kr ?_)))
  show To Tryz.prog 92 [1,1] _ _ _ _
  refine To.seq kr (To.seq kr (To.region kr (Sg.go 1 kr (Sg.op (some 7) kr (fC (l:=len) kr) (Sg.go 1 kr (Sg.done kr ?_))))))
  show To Tryz.prog 92 [1,0,1,1] _ _ _ _
  refine To.block 0 kr (To.loop kr (aC.only [3,6,7,8] [(3,vb 0),(6,vf (.sl id off 1 len cap)),(7,vi len),(8,vi 0)] kr (EC l hl hrow hb om len 0 0 _ om om (fun A hA=>?_))))
  show To Tryz.prog 92 [1,1,1] _ _ _ _
  refine To.only [3] [(3,vb (iX 0 l))] (by simp only[fU,hA,List.drop_zero]) (To.seq kr (To.region kr (Sg.go 2 kr (Sg.done kr ?_))))
  show To Tryz.prog 92 [1,1,1,1] _ _ _ _
  refine To.ret kr ?_
  exact⟨.inr rfl,_,kr,rfl,rfl,rfl⟩
 obtain⟨v,H',n',h1,rfl,rfl,rfl⟩:=h
 exact h1
theorem BP{H:Heap}{n:Nat}:∀(k a e out:Nat) (K:Ko),a<256→out<256→e<2 ^ k→k≤8→(∀A,A 5=some (vb (gC k a e out))→K (.exit 0) A H n)→
 aC Tryz.prog 197 [0,0,0,1,1] (tl [(0,vb a),(1,vi e),(5,vb out)]) H n K:=by
 intro k
 induction k with
 |zero=>
  intro a e out K ha ho h h8 hK
  have he:e=0:=by omega
  subst he
  refine aC.round (To.seq kr (To.seq kr (To.region kr (Sg.go 2 kr (Sg.done kr ?_)))))
  show To Tryz.prog 197 [1,0,0,0,0,1,1] _ _ _ _
  refine To.ifF kr kr (To.exit 0 kr ?_)
  exact hK _ (by simp only[gC];kernel_rfl)
 |succ k ih=>
  intro a e out K ha ho h h8 hK
  rw[Nat.pow_succ]at h
  have h4:2 ^ k≤2 ^ 8:=Nat.pow_le_pow_right om om
  have hb1:e &&& 1=e%2:=Nat.and_one_is_mod e
  refine aC.round (To.seq kr (To.seq kr (To.region kr (Sg.go 2 kr (Sg.done kr ?_)))))
  show To Tryz.prog 197 [1,0,0,0,0,1,1] _ _ _ _
  refine To.ifB (cV 0 (e:Int)) kr kr (fun h0=>?_) (fun h0=>?_)
  ·have h2:¬e=0:=by have:=jJ h0;omega
   refine To.skip kr ?_
   show To Tryz.prog 197 [1,0,0,0,1,1] _ _ _ _
   refine To.seq kr (To.block 1 kr (To.seq kr (To.seq kr (To.region kr (Sg.go 1 kr (Sg.op (some 11) kr (au (pK .i64 e 1 (show e≤9223372036854775807 by omega) (show 1≤9223372036854775807 by omega)) kr) (Sg.go 1 kr (Sg.done kr ?_))))))))
   show To Tryz.prog 197 [1,0,0,0,1,0,0,0,1,1] _ _ _ _
   refine To.ifB (c6 ((e &&& 1:Nat):Int) 1) kr kr (fun h1=>?_) (fun h1=>?_)
   ·have h3:e%2=1:=by have:=wU h1;omega
    refine To.region kr (Sg.go 2 kr (Sg.op (some 15) kr (b_ kr (mj out a ho ha H n) kr) (Sg.go 1 kr (Sg.done kr ?_))))
    show To Tryz.prog 197 [1,0,0,1,0,0,0,1,1] _ _ _ _
    refine To.region kr (Sg.go 2 kr (Sg.op (some 18) kr (b_ kr (mj a a ha ha H n) kr) (Sg.go 1 kr (Sg.done kr ?_))))
    show To Tryz.prog 197 [1,1,0,0,0,1,1] _ _ _ _
    refine To.region kr (Sg.go 1 kr (Sg.op (some 9) kr (au (gq .i64 .u64 e 1) kr) (Sg.go 1 kr (Sg.done kr (aC.only [0,1,5] [(0,vb (gm a a)),(1,vi (e/2)),(5,vb (gm out a))] kr ?_)))))
    exact ih _ _ _ _ (lJ ha) (lJ ho) om om (fun A hA=>hK A (by rw[hA];simp only[gC,h2,h3,if_true,if_false]))
   ·have h3:¬e%2=1:=by have:=wi h1;omega
    refine To.skip kr ?_
    show To Tryz.prog 197 [1,0,0,1,0,0,0,1,1] _ _ _ _
    refine To.region kr (Sg.go 2 kr (Sg.op (some 18) kr (b_ kr (mj a a ha ha H n) kr) (Sg.go 1 kr (Sg.done kr ?_))))
    show To Tryz.prog 197 [1,1,0,0,0,1,1] _ _ _ _
    refine To.region kr (Sg.go 1 kr (Sg.op (some 9) kr (au (gq .i64 .u64 e 1) kr) (Sg.go 1 kr (Sg.done kr (aC.only [0,1,5] [(0,vb (gm a a)),(1,vi (e/2)),(5,vb (out))] kr ?_)))))
    exact ih _ _ _ _ (lJ ha) ho om om (fun A hA=>hK A (by rw[hA];simp only[gC,h2,h3,if_true,if_false]))
  ·refine To.exit 0 kr ?_
   have h2:e=0:=by have:=kL h0;omega
   subst h2
   exact hK _ (by simp only[gC,if_true];kernel_rfl)
theorem v_(a e:Nat)(ha:a<256)(he:e<256)(H:Heap)(n:Nat):aS Tryz.prog 197 [vb a,vi e] H n (vb (gC 8 a e 1)) H n:=by
 have h:∃v H' n',aS Tryz.prog 197 [vb a,vi e] H n v H' n'∧(v=vb (gC 8 a e 1)∧H'=H∧n'=n):=by
  refine aS.of_to kr (To.seq kr (To.region kr (Sg.go 1 kr (Sg.done kr ?_))))
  show To Tryz.prog 197 [1] _ _ _ _
  refine To.seq kr (To.region kr (Sg.go 1 kr (Sg.done kr ?_)))
  show To Tryz.prog 197 [1,1] _ _ _ _
  refine To.seq kr (To.block 0 kr (To.loop kr (aC.only [0,1,5] [(0,vb a),(1,vi e),(5,vb 1)] kr (BP 8 a e 1 _ ha om om om (fun A hA=>?_)))))
  show To Tryz.prog 197 [1,1,1] _ _ _ _
  refine To.only [5] [(5,vb (gC 8 a e 1))] (by simp only[fU,hA]) (To.seq kr (To.region kr (Sg.go 2 kr (Sg.done kr ?_))))
  show To Tryz.prog 197 [1,1,1,1] _ _ _ _
  refine To.ret kr ?_
  exact⟨.inr rfl,_,kr,rfl,rfl,rfl⟩
 obtain⟨v,H',n',h1,rfl,rfl,rfl⟩:=h
 exact h1
theorem yl(a:Nat)(ha:a<256)(H:Heap)(n:Nat):aS Tryz.prog 140 [vb a] H n (vb (iv a)) H n:=by
 have h:∃v H' n',aS Tryz.prog 140 [vb a] H n v H' n'∧(v=vb (iv a)∧H'=H∧n'=n):=by
  refine aS.of_to kr (To.seq kr (To.region kr (Sg.go 1 kr (Sg.done kr ?_))))
  show To Tryz.prog 140 [1] _ _ _ _
  refine To.seq kr (To.region kr (Sg.go 1 kr (Sg.op (some 4) kr (b_ kr (v_ a 254 ha om H n) kr) (Sg.go 1 kr (Sg.done kr ?_)))))
  show To Tryz.prog 140 [1,1] _ _ _ _
  refine To.ret kr ?_
  exact⟨.inr rfl,_,kr,rfl,rfl,rfl⟩
 obtain⟨v,H',n',h1,rfl,rfl,rfl⟩:=h
 exact h1
def stirN(x:Nat):Nat:=
 let a:=x ^^^ (x/65536)
 let b:=(a*2146121005)%4294967296
 let c:=b ^^^ (b/32768)
 let d:=(c*2221713035)%4294967296
 d ^^^ (d/65536)
theorem lC{a b:Nat}(ha:a<4294967296)(hb:b<4294967296):a ^^^ b<4294967296:=Nat.xor_lt_two_pow (n:=32) ha hb
theorem pu{z:Nat}(x:Int)(h:x%4294967296=z):IntKind.u32.wrap x=(z:Int):=by
 simp only[IntKind.wrap,IntKind.bits,IntKind.signed]
 simpa using h
theorem wY{x:Nat}:stirN x<4294967296:=by
 unfold stirN
 exact lC (Nat.mod_lt _ om) (Nat.lt_of_le_of_lt (Nat.div_le_self _ _) (Nat.mod_lt _ om))
theorem ow(x:Nat)(hx:x<4294967296)(H:Heap)(n:Nat):aS Tryz.prog 50 [vw x] H n (vw (stirN x)) H n:=by
 have h:∃v H' n',aS Tryz.prog 50 [vw x] H n v H' n'∧(v=vw (stirN x)∧H'=H∧n'=n):=by
  obtain⟨a,ha⟩:∃a,a=x ^^^ (x/65536):=⟨_,rfl⟩
  obtain⟨b,hb⟩:∃b,b=(a*2146121005)%4294967296:=⟨_,rfl⟩
  obtain⟨c,hc⟩:∃c,c=b ^^^ (b/32768):=⟨_,rfl⟩
  obtain⟨d,hd⟩:∃d,d=(c*2221713035)%4294967296:=⟨_,rfl⟩
  have hs:stirN x=d ^^^ (d/65536):=by rw[hd,hc,hb,ha];rfl
  have h1:x/65536<4294967296:=by omega
  have h2:a<4294967296:=by rw[ha];exact lC hx h1
  have h3:b<4294967296:=by omega
  have h4:b/32768<4294967296:=by omega
  have h5:c<4294967296:=by rw[hc];exact lC h3 h4
  have h6:d<4294967296:=by omega
  have h7:d/65536<4294967296:=by omega
  have h8:=lC h6 h7
  refine aS.of_to kr (To.seq kr (To.region kr (Sg.go 1 kr (Sg.done kr ?_))))
  show To Tryz.prog 50 [1] _ _ _ _
  refine To.seq kr (To.region kr (Sg.go 2 kr (Sg.op (some 5) kr (au (gq .u32 .u64 x 16) kr) (Sg.op (some 6) kr (au (iQ .u32 x (x/65536) (show x≤4294967295 by omega) (show(x/65536)≤4294967295 by omega) (show _≤4294967295 by have:=lC hx h1;omega)) kr) (Sg.go 1 kr (Sg.done kr ?_))))))
  show To Tryz.prog 50 [1,1] _ _ _ _
  refine To.only [0] [(0,vw a)] (by rw[ha];kernel_rfl) (To.seq kr (To.region kr (Sg.go 1 kr (Sg.op (some 8) kr (au (p7 .u32 a 2146121005 b (pu _ om)) kr) (Sg.go 1 kr (Sg.done kr ?_))))))
  show To Tryz.prog 50 [1,1,1] _ _ _ _
  refine To.seq kr (To.region kr (Sg.go 2 kr (Sg.op (some 11) kr (au (gq .u32 .u64 b 15) kr) (Sg.op (some 12) kr (au (iQ .u32 b (b/32768) (show b≤4294967295 by omega) (show(b/32768)≤4294967295 by omega) (show _≤4294967295 by have:=lC h3 h4;omega)) kr) (Sg.go 1 kr (Sg.done kr ?_))))))
  show To Tryz.prog 50 [1,1,1,1] _ _ _ _
  refine To.only [0] [(0,vw c)] (by rw[hc];kernel_rfl) (To.seq kr (To.region kr (Sg.go 1 kr (Sg.op (some 14) kr (au (p7 .u32 c 2221713035 d (pu _ om)) kr) (Sg.go 1 kr (Sg.done kr ?_))))))
  show To Tryz.prog 50 [1,1,1,1,1] _ _ _ _
  refine To.seq kr (To.region kr (Sg.go 2 kr (Sg.op (some 17) kr (au (gq .u32 .u64 d 16) kr) (Sg.op (some 18) kr (au (iQ .u32 d (d/65536) (show d≤4294967295 by omega) (show(d/65536)≤4294967295 by omega) (show _≤4294967295 by have:=h8;omega)) kr) (Sg.go 1 kr (Sg.done kr ?_))))))
  show To Tryz.prog 50 [1,1,1,1,1,1] _ _ _ _
  refine To.ret kr ?_
  exact⟨.inr rfl,_,kr,by rw[hs],rfl,rfl⟩
 obtain⟨v,H',n',h1,rfl,rfl,rfl⟩:=h
 exact h1
def fS(y i m:Nat):Nat:=stirN ((stirN y+(i*2654435769)%4294967296)%4294967296)%m
theorem xm(y i m:Nat)(hy:y<4294967296)(hi:i<4294967296)(hm:1≤m)(hm2:m<9223372036854775808)(H:Heap)(n:Nat):aS Tryz.prog 30 [vw y,vw i,vi m] H n (vi (fS y i m)) H n:=by
 have h:∃v H' n',aS Tryz.prog 30 [vw y,vw i,vi m] H n v H' n'∧(v=vi (fS y i m)∧H'=H∧n'=n):=by
  obtain⟨a,ha⟩:∃a,a=(i*2654435769)%4294967296:=⟨_,rfl⟩
  obtain⟨b,hb⟩:∃b,b=(stirN y+a)%4294967296:=⟨_,rfl⟩
  have hs:fS y i m=stirN b%m:=by rw[hb,ha];rfl
  have h1:b<4294967296:=by omega
  have h2:=wY (x:=b)
  have hw:IntKind.i64.wrap (stirN b:Int)=(stirN b:Int):=eJ rfl (Nat.lt_trans h2 (by decide))
  refine aS.of_to kr (To.seq kr (To.region kr (Sg.go 1 kr (Sg.done kr ?_))))
  show To Tryz.prog 30 [1] _ _ _ _
  refine To.seq kr (To.seq kr (To.region kr (Sg.go 2 kr (Sg.done kr ?_))))
  show To Tryz.prog 30 [1,0,1] _ _ _ _
  refine To.ifB (cV (m:Int) 1) kr kr (fun h0=>?_) (fun h0=>?_)
  ·exact absurd (jJ h0) om
  ·refine To.skip kr ?_
   show To Tryz.prog 30 [1,1] _ _ _ _
   refine To.seq kr (To.region kr (Sg.go 1 kr (Sg.op (some 10) kr (b_ kr (ow y hy H n) kr) (Sg.go 1 kr (Sg.op (some 12) kr (au (p7 .u32 i 2654435769 a (pu _ om)) kr) (Sg.op (some 13) kr (au (iP .u32 (stirN y) a b (pu _ om)) kr) (Sg.op (some 14) kr (b_ kr (ow b h1 H n) kr) (Sg.op (some 15) kr (eR (k:=.i64) (x:=(stirN b:Int)) (z:=(stirN b:Int)) hw kr) (Sg.go 1 kr (Sg.op (some 17) kr (au (fun t=>(zp .i64 (stirN b:Int) (m:Int) om t).trans (by rw[show((stirN b:Int).tmod (m:Int))=((stirN b%m:Nat):Int)from rfl])) (op:=.rem) (a:=vi (stirN b)) (b:=vi m) (z:=.int .i64 ((stirN b%m:Nat):Int)) kr) (Sg.go 1 kr (Sg.done kr ?_))))))))))))
   show To Tryz.prog 30 [1,1,1] _ _ _ _
   refine To.ret kr ?_
   exact⟨.inr rfl,_,kr,by rw[hs],rfl,rfl⟩
 obtain⟨v,H',n',h1,rfl,rfl,rfl⟩:=h
 exact h1
end Go.Proofs.YtkimkgbppegkhaaGreat.Cm

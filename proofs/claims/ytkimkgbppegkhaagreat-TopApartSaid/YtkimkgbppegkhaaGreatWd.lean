/- The clean machine, begun: a world's blocks under their own numbers; slices that came in. -/
import Derived.Test.YtkimkgbppegkhaaGreatUl
import Derived.ChangeShapes
import Derived.Below
import Derived.WideShapes
set_option linter.unusedVariables false
set_option linter.unusedSimpArgs false
namespace Go.Proofs.YtkimkgbppegkhaaGreat.Cm
open Go Go.RowKit Go.ChangeShapes Go.WideShapes Go.Proofs.YtkimkgbppegkhaaGreat.Gf
noncomputable def eP(w:World):Heap:=fun id=>match w.heap[id]? with | some (.cells rcs elem fz)=>some (.whole rcs elem fz) | _=>none
noncomputable def gB(w:World):Env:=fun id=>match w.heap[id]? with | some (.cells rcs _ _)=>some (id,rcs.size) | _=>if id=w.heap.size then some (0,0)else none
theorem kH{w:World}{id:Nat}{o:O}(h:eP w id=some o):∃rcs elem fz,w.heap[id]?=some (.cells rcs elem fz)∧o=.whole rcs elem fz∧gB w id=some (id,rcs.size):=by
 unfold eP at h
 split at h
 ·rename_i rcs elem fz e
  cases h
  refine⟨rcs,elem,fz,e,rfl,?_⟩
  unfold gB
  rw[e]
 ·cases h
theorem Ek{w:World}{id:Nat}{rcs:Array Value}{elem:TypeId}{fz:Nat×Nat}(h:w.heap[id]?=some (.cells rcs elem fz)):eP w id=some (.whole rcs elem fz):=by
 unfold eP
 rw[h]
theorem DO(w:World):ap (eP w) (w.heap.size+1):=by
 intro k hk
 cases h:eP w k with
 |none=>rfl
 |some o=>
  obtain⟨_,_,_,h1,_⟩:=kH h
  have:=mJ h1
  omega
theorem DU(w:World)(n':Nat):cI (gB w) (w.heap.size+1) n':=by
 intro id h1 _
 unfold gB
 rw[Array.getElem?_eq_none om]
 show(if id=w.heap.size then some (0,0)else none)=none
 rw[if_neg om]
theorem HD(w:World):bh (gB w) (eP w) w:=by
 refine⟨fun id o h=>?_,fun i j b K K' hi hj h1 h2=>?_⟩
 ·obtain⟨rcs,elem,fz,h1,rfl,h3⟩:=kH h
  exact⟨id,rcs.size,h3,h1,rfl⟩
 ·cases e1:eP w i with
  |none=>exact absurd e1 hi
  |some o=>
   cases e2:eP w j with
   |none=>exact absurd e2 hj
   |some o'=>
    obtain⟨_,_,_,_,_,g1⟩:=kH e1
    obtain⟨_,_,_,_,_,g2⟩:=kH e2
    rw[g1]at h1
    rw[g2]at h2
    cases h1
    cases h2
    rfl
theorem Eg{f:Nat}{args:List V}{rargs:List Value}{w:World}{x:F}{rx:Value}(hrx:∀ε r,ba ε (vf x) r→r=rx)(hp:af f args (eP w) (w.heap.size+1) fun v _=>v=vf x)(ha:aw (ba (gB w)) args rargs):
 Calls Tryz.prog f rargs.toArray w fun e w'=>e=.returned rx∧Below w.heap.size w w':=by
 obtain⟨v,X',n',hc,hm,ht,rfl⟩:=hp
 refine Calls.mono (hc.2 (gB w) w rargs (HD w) (DU w n') ha) fun e w' h=>?_
 obtain⟨rv,ε',rfl,h2,S⟩:=h
 refine⟨by rw[hrx _ _ h2],S.keeps.os,S.keeps.tape,S.keeps.output,S.keeps.size,fun k hk=>?_⟩
 cases e:eP w k with
 |none=>
  refine S.keeps.block k hk ?_
  rintro ⟨id,K,h3,h4⟩
  cases e2:eP w id with
  |none=>exact h3 e2
  |some o=>
   obtain⟨_,_,_,_,_,g⟩:=kH e2
   rw[g]at h4
   cases h4
   rw[e]at e2
   cases e2
 |some o=>
  obtain⟨rcs,elem,fz,h3,rfl,h4⟩:=kH e
  obtain⟨b,K,h5,h6,_⟩:=S.rel.obj k _ (hm k _ e)
  have:=S.ext _ _ h4
  rw[this]at h5
  cases h5
  rw[h3]
  exact h6
theorem wA{k:IntKind}:∀(zs:List Int),cY (zs.map fun z=>Value.int k z)=some (zs.map fun z=>F.int k z)
 |[]=>rfl
 |z::zs=>by
  show(match cY (zs.map fun z=>Value.int k z)with | some l=>some (F.int k z::l) | none=>none)=_
  rw[wA zs]
  rfl
/-- a slice of numbers that came in -/
def IsRowW(k:IntKind)(w:World)(a:Option Addr)(len cap:Nat)(zs:List Int):Prop:=
 (a=none∧len=0∧cap=0∧zs=[])∨
 ∃x,a=some x∧len≤cap∧cap≤maxLen∧zs.length=cap∧(∀i,i<zs.length→w.cell? (x.add i)=some (.int k (zs.getD i 0)))∧∀n∈zs,(Lit.int k n).wf=true
theorem IsRowW.rel{k:IntKind}{w:World}{a:Option Addr}{len cap:Nat}{zs:List Int}(h:IsRowW k w a len cap zs):
 ∃f,ba (gB w) (vf f) (.slice a len cap)∧Cm.cd f=some (zs.take len).length∧eO f∧(0<(zs.take len).length→aF (eP w) 1 f=some ((zs.take len).map fun z=>.int k z))∧∀n∈zs.take len,(Lit.int k n).wf=true:=by
 rcases h with⟨rfl,rfl,rfl,rfl⟩|⟨x,rfl,hl,hm,hz,hcell,hw⟩
 ·exact⟨.sl0,rfl,rfl,trivial,fun h=>absurd h sm,fun _ h=>by simp at h⟩
 ·have hlen:(zs.take len).length=len:=by rw[List.length_take];omega
  have hw2:∀n∈zs.take len,(Lit.int k n).wf=true:=fun n hn=>hw n (List.mem_of_mem_take hn)
  rcases Nat.eq_zero_or_pos cap with h0 | h0
  ·subst h0
   have:len=0:=by omega
   subst this
   refine⟨.sl w.heap.size 0 1 0 (some 0),⟨0,0,x,0,?_,rfl,fun h=>absurd h om,Nat.le_refl _,rfl⟩,by rw[hlen];rfl,Nat.le_refl 0,fun h=>absurd h (by rw[hlen];omega),hw2⟩
   unfold gB
   rw[Array.getElem?_eq_none (Nat.le_refl _)]
   show(if w.heap.size=w.heap.size then some (0,0)else none)=some (0,0)
   rw[if_pos rfl]
  ·obtain⟨b,off,spot⟩:=x
   have g0:=hcell 0 om
   have hspot:spot=none:=by simpa[Addr.add]using World.cell?_spot g0
   subst hspot
   have hblk:∀i,i<zs.length→∃rcs elem fz,w.heap[b]?=some (.cells rcs elem fz)∧rcs[off+i]?=some (.int k (zs.getD i 0)):=by
    intro i hi
    have g:=hcell i hi
    rw[add_plain]at g
    unfold World.cell? at g
    split at g
    ·rename_i c el fz e
     have e:w.heap[b]?=some (.cells c el fz):=e
     refine⟨c,el,fz,e,?_⟩
     simpa[Addr.add]using g
    ·cases g
   obtain⟨rcs,elem,fz,hb,_⟩:=hblk 0 om
   have hcs:∀i,i<zs.length→rcs[off+i]?=some (.int k (zs.getD i 0)):=by
    intro i hi
    obtain⟨rcs',elem',fz',hb',h2⟩:=hblk i hi
    rw[hb]at hb'
    cases hb'
    exact h2
   have hsz:off+zs.length≤rcs.size:=by
    have:=hcs (zs.length-1) om
    have:=(Array.getElem?_eq_some_iff.1 this).1
    omega
   refine⟨.sl b off 1 len (some cap),⟨b,rcs.size,_,cap,?_,rfl,fun _=>rfl,hl,rfl⟩,by rw[hlen];rfl,hl,fun _=>?_,hw2⟩
   ·unfold gB
    rw[hb]
   ·have hrow:(rcs.toList.drop off).take (len*1)=(zs.take len).map fun z=>Value.int k z:=by
     rw[Nat.mul_one]
     apply List.ext_getElem?
     intro i
     rw[List.getElem?_take,List.getElem?_map,List.getElem?_take]
     by_cases hi:i<len
     ·rw[if_pos hi,if_pos hi,List.getElem?_drop,Array.getElem?_toList,hcs i om,List.getElem?_eq_getElem om,List.getD_eq_getElem?_getD,List.getElem?_eq_getElem om]
      rfl
     ·rw[if_neg hi,if_neg hi]
      rfl
    simp only[aF,if_true,Ek hb]
    rw[if_pos om,hrow,wA]
theorem IsRowW.bytes{w:World}{a:Option Addr}{len cap:Nat}{zs:List Int}(h:IsRowW .u8 w a len cap zs):
 ∃(f:F) (data:List Nat),ba (gB w) (vf f) (.slice a len cap)∧Cm.cd f=some data.length∧eO f∧(0<data.length→data.length≤60→aB (eP w) f data):=by
 obtain⟨f,h1,h2,h3,h4,h5⟩:=h.rel
 have hb:∀n∈zs.take len,0≤n∧n<256:=by
  intro n hn
  have:=h5 n hn
  simp only[Lit.wf,Bool.and_eq_true,decide_eq_true_eq]at this
  have e1:IntKind.u8.min=0:=rfl
  have e2:IntKind.u8.max=255:=rfl
  omega
 have hl:((zs.take len).map Int.toNat).length=(zs.take len).length:=List.length_map _
 refine⟨f,(zs.take len).map Int.toNat,h1,by rw[hl];exact h2,h3,fun h0 h6=>⟨?_,fun x hx=>?_,om⟩⟩
 ·rw[h4 om]
  congr 1
  unfold bs
  rw[List.map_map]
  refine List.map_congr_left fun z hz=>?_
  have:=hb z hz
  show F.int .u8 z=F.int .u8 ((z.toNat:Nat):Int)
  rw[Int.toNat_of_nonneg this.1]
 ·obtain⟨z,hz,rfl⟩:=List.mem_map.1 hx
  have:=hb z hz
  omega
end Go.Proofs.YtkimkgbppegkhaaGreat.Cm

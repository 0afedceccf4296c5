/- The clean machine's steps on the true world: new blocks, writes, loads, stores. No program is walked here. -/
import Derived.Test.YtkimkgbppegkhaaGreatCmB
import Derived.Laws.IdiomCopy
import Derived.Laws.StructEq
import Derived.ChangeKeysEq
import Derived.WalkKit
set_option linter.unusedVariables false
set_option linter.unusedSimpArgs false
namespace Go.Proofs.YtkimkgbppegkhaaGreat.Cm
open Go Go.RowKit
def fG(ε:Env)(n:Nat)(p:Nat×Nat):Env:=fun id=>if id=n then some p else ε id
def upd(H:Heap)(id:Nat)(o:Option O):Heap:=fun i=>if i=id then o else H i
theorem cJ(ε:Env)(n:Nat)(p:Nat×Nat):fG ε n p n=some p:=by simp[fG]
theorem fv(ε:Env){n id:Nat}(p:Nat×Nat)(h:id≠n):fG ε n p id=ε id:=by simp[fG,h]
theorem bG(H:Heap)(id:Nat)(o:Option O):upd H id o id=o:=by simp[upd]
theorem br(H:Heap){id i:Nat}(o:Option O)(h:i≠id):upd H id o i=H i:=by simp[upd,h]
theorem le_ins{ε:Env}{n:Nat}(h:ε n=none)(p:Nat×Nat):Le ε (fG ε n p):=fun id q hq=>by
 rw[fv];exact hq;rintro rfl;rw[h]at hq;cases hq
theorem bh.name{ε:Env}{H:Heap}{w:World}(R:bh ε H w){n:Nat}(h:ε n=none):H n=none:=by
 cases ho:H n with
 |none=>rfl
 |some o=>obtain⟨b,K,ob,h1,_⟩:=(R.obj n o ho).env;rw[h]at h1;cases h1
theorem aT.one{ε:Env}{x:F}{v:Value}(h:aT ε x v):v.oneCell'=true:=by
 cases x<;>simp only[aT]at h<;>first
  |(subst h;rfl)
  |(obtain⟨b,K,_,rfl⟩:=h;rfl)
  |(obtain⟨b,K,ad,c,_,rfl,_⟩:=h;rfl)
structure gv(w:World)(ob:Obj)(w':World):Prop where
 os:w'.os=w.os
 tape:w'.tape=w.tape
 output:w'.output=w.output
 heap:w'.heap=w.heap.push ob
structure fZ(w:World)(b:Nat)(w':World):Prop where
 os:w'.os=w.os
 tape:w'.tape=w.tape
 output:w'.output=w.output
 size:w'.heap.size=w.heap.size
 block:∀k,k≠b→w'.heap[k]?=w.heap[k]?
theorem gv.old{w w':World}{ob:Obj}(h:gv w ob w'){k:Nat}(hk:k<w.heap.size):w'.heap[k]?=w.heap[k]?:=by
 rw[h.heap,Array.getElem?_push_lt hk,Array.getElem?_eq_getElem hk]
theorem gv.new{w w':World}{ob:Obj}(h:gv w ob w'):w'.heap[w.heap.size]?=some ob:=by
 rw[h.heap];simp
theorem bh.lt{ε:Env}{H:Heap}{w:World}(R:bh ε H w){id b K:Nat}(h:H id≠none)(he:ε id=some (b,K)):b<w.heap.size:=gh.lt R ⟨id,K,h,he⟩
theorem ou{ε:Env}{H:Heap}{n:Nat}{w w':World}(R:bh ε H w)(hf:ε n=none){o:O}{ob:Obj}{K:Nat}(hw:gv w ob w')
 (ho:fA (fG ε n (w.heap.size,K)) w' n o):bt ε H n w (fG ε n (w.heap.size,K)) (upd H n (some o)) (n+1) w' where
 le:=by omega
 ext:=le_ins hf _
 names:=fun id h h'=>by
  by_cases e:id=n
  ·subst e;omega
  ·rw[fv _ _ e]at h';exact absurd h h'
 new:=fun id b K' h h'=>by
  by_cases e:id=n
  ·subst e;rw[cJ]at h;injection h with h;injection h with h _;exact .inl om
  ·rw[fv _ _ e,h']at h;cases h
 dom:=fun id h=>by
  by_cases e:id=n
  ·subst e;exact .inr ⟨om,om,hf⟩
  ·rw[br _ _ e]at h;exact .inl h
 keeps:=⟨hw.os,hw.tape,hw.output,by rw[hw.heap];simp,fun k hk _=>hw.old hk⟩
 rel:=by
  refine⟨fun id x h=>?_,fun i j b K1 K2 hi hj h1 h2=>?_⟩
  ·by_cases e:id=n
   ·subst e;rw[bG]at h;cases h;exact ho
   ·rw[br _ _ e]at h
    exact(R.obj id x h).mono (le_ins hf _) fun b K hb=>hw.old (R.lt (by simp[h]) hb)
  ·by_cases ei:i=n<;>by_cases ej:j=n
   ·rw[ei,ej]
   ·subst ei
    rw[cJ]at h1;injection h1 with h1;injection h1 with h1 _
    rw[br _ _ ej]at hj;rw[fv _ _ ej]at h2
    have:=R.lt hj h2;omega
   ·subst ej
    rw[cJ]at h2;injection h2 with h2;injection h2 with h2 _
    rw[br _ _ ei]at hi;rw[fv _ _ ei]at h1
    have:=R.lt hi h1;omega
   ·rw[br _ _ ei]at hi;rw[br _ _ ej]at hj;rw[fv _ _ ei]at h1;rw[fv _ _ ej]at h2
    exact R.inj i j b K1 K2 hi hj h1 h2
theorem nP{ε:Env}{H:Heap}{n:Nat}{w w':World}(R:bh ε H w){id b K:Nat}{o':O}(hid:H id≠none)(he:ε id=some (b,K))(hw:fZ w b w')
 (ho:fA ε w' id o'):bt ε H n w ε (upd H id (some o')) n w' where
 le:=Nat.le_refl _
 ext:=Le.refl _
 names:=fun _ h h'=>absurd h h'
 new:=fun _ _ _ h h'=>by rw[h']at h;cases h
 dom:=fun i h=>by
  by_cases e:i=id
  ·subst e;exact .inl hid
  ·rw[br _ _ e]at h;exact .inl h
 keeps:=⟨hw.os,hw.tape,hw.output,by rw[hw.size];omega,fun k _ hF=>hw.block k fun e=>by subst e;exact hF ⟨id,K,hid,he⟩⟩
 rel:=by
  refine⟨fun i x h=>?_,fun i j b K1 K2 hi hj h1 h2=>?_⟩
  ·by_cases e:i=id
   ·subst e;rw[bG]at h;cases h;exact ho
   ·rw[br _ _ e]at h
    refine(R.obj i x h).mono (Le.refl _) fun b' K' hb=>hw.block b' fun e'=>e ?_
    subst e'
    exact R.inj i id b' K' K (by simp[h]) hid hb he
  ·have hh:∀i,upd H id (some o') i≠none→H i≠none:=fun i h=>by
    by_cases e:i=id
    ·subst e;exact hid
    ·rw[br _ _ e]at h;exact h
   exact R.inj i j b K1 K2 (hh i hi) (hh j hj) h1 h2
theorem up{ε:Env}{H:Heap}{n:Nat}{w w':World}(R:bh ε H w)(hf:ε n=none){id b K:Nat}{o':O}(hid:H id≠none)(he:ε id=some (b,K))(hw:fZ w b w')
 (ho:fA (fG ε n (b,K)) w' n o'):bt ε H n w (fG ε n (b,K)) (upd (upd H id none) n (some o')) (n+1) w' where
 le:=by omega
 ext:=le_ins hf _
 names:=fun id h h'=>by
  by_cases e:id=n
  ·subst e;omega
  ·rw[fv _ _ e]at h';exact absurd h h'
 new:=fun i b' K' h h'=>by
  by_cases e:i=n
  ·subst e;rw[cJ]at h;injection h with h;injection h with h _;subst h;exact .inr ⟨id,K,hid,he⟩
  ·rw[fv _ _ e,h']at h;cases h
 dom:=fun i h=>by
  by_cases e:i=n
  ·subst e;exact .inr ⟨om,om,hf⟩
  ·rw[br _ _ e]at h
   by_cases e':i=id
   ·subst e';exact .inl hid
   ·rw[br _ _ e']at h;exact .inl h
 keeps:=⟨hw.os,hw.tape,hw.output,by rw[hw.size];omega,fun k _ hF=>hw.block k fun e=>by subst e;exact hF ⟨id,K,hid,he⟩⟩
 rel:=by
  refine⟨fun i x h=>?_,fun i j b' K1 K2 hi hj h1 h2=>?_⟩
  ·by_cases e:i=n
   ·subst e;rw[bG]at h;cases h;exact ho
   ·rw[br _ _ e]at h
    by_cases e':i=id
    ·subst e';rw[bG]at h;cases h
    ·rw[br _ _ e']at h
     refine(R.obj i x h).mono (le_ins hf _) fun b' K' hb=>hw.block b' fun e''=>e' ?_
     subst e''
     exact R.inj i id b' K' K (by simp[h]) hid hb he
  ·have hh:∀i,i≠n→upd (upd H id none) n (some o') i≠none→H i≠none∧i≠id:=fun i hn h=>by
    rw[br _ _ hn]at h
    by_cases e:i=id
    ·subst e;rw[bG]at h;exact absurd rfl h
    ·rw[br _ _ e]at h;exact⟨h,e⟩
   by_cases ei:i=n<;>by_cases ej:j=n
   ·rw[ei,ej]
   ·subst ei
    rw[cJ]at h1;injection h1 with h1;injection h1 with h1 _;subst h1
    obtain⟨h3,h4⟩:=hh j ej hj
    rw[fv _ _ ej]at h2
    exact absurd (R.inj j id b K2 K h3 hid h2 he) h4
   ·subst ej
    rw[cJ]at h2;injection h2 with h2;injection h2 with h2 _;subst h2
    obtain⟨h3,h4⟩:=hh i ei hi
    rw[fv _ _ ei]at h1
    exact absurd (R.inj i id b K1 K h3 hid h1 he) h4
   ·obtain⟨h3,_⟩:=hh i ei hi
    obtain⟨h4,_⟩:=hh j ej hj
    rw[fv _ _ ei]at h1;rw[fv _ _ ej]at h2
    exact R.inj i j b' K1 K2 h3 h4 h1 h2
theorem we{ε ε':Env}{H H':Heap}{n n':Nat}{w w':World}(S:bt ε H n w ε' H' n' w')(id:Nat)(h:ε id≠none):bt ε H n w ε' (upd H' id none) n' w':=
 S.sub fun i o hi=>by
  by_cases e:i=id
  ·subst e;rw[bG]at hi;cases hi
  ·rw[br _ _ e]at hi;exact hi
theorem iy(b o i:Nat):(⟨b,o,none⟩:Addr).add i=⟨b,o+i,none⟩:=by unfold Addr.add; split<;>simp_all
theorem gN{w:World}{b:Nat}{rcs:Array Value}{elem:TypeId}{fz:Nat×Nat}(h:w.heap[b]?=some (.cells rcs elem fz))(o:Nat):w.cell? ⟨b,o,none⟩=rcs[o]?:=by
 simp[World.cell?,h]
theorem ya{ε:Env}{cs:List F}{rcs:Array Value}(h:aw (aT ε) cs (rcs.toList.take cs.length)){o:Nat}{x:F}(hx:cs[o]?=some x):∃v,rcs[o]?=some v∧aT ε x v:=by
 obtain⟨v,h1,h2⟩:=h.get o x hx
 refine⟨v,?_,h2⟩
 have ho:o<cs.length:=by
  rcases Nat.lt_or_ge o cs.length with h' | h'
  ·exact h'
  ·simp[List.getElem?_eq_none h']at hx
 rw[List.getElem?_take_of_lt ho]at h1
 simpa using h1
theorem i9{ε:Env}{cs:List F}{rcs:Array Value}(h:aw (aT ε) cs (rcs.toList.take cs.length)):cs.length≤rcs.size:=by
 have:=h.length
 simp at this
 omega
theorem nF{P:Program}{w:World}{b off sz:Nat}{rcs:Array Value}{elem:TypeId}{fz:Nat×Nat}(h:w.heap[b]?=some (.cells rcs elem fz))(hl:off+sz≤rcs.size):
 (loadCells ⟨b,off,none⟩ sz).run P w=.ok ((rcs.toList.drop off).take sz).toArray w:=by
 have hlen:((rcs.toList.drop off).take sz).length=sz:=by simp;omega
 have:=run_loadCells_list (P:=P) w ⟨b,off,none⟩ ((rcs.toList.drop off).take sz) (fun j v hj=>by
  rw[iy,gN h]
  have hj':j<sz:=by
   rcases Nat.lt_or_ge j sz with h' | h'
   ·exact h'
   ·rw[List.getElem?_eq_none (by simp;omega)]at hj;cases hj
  rw[List.getElem?_take_of_lt hj',List.getElem?_drop]at hj
  simpa using hj)
 rw[hlen]at this
 exact this
theorem AM{w:World}{b o:Nat}{rcs:Array Value}{elem:TypeId}{fz:Nat×Nat}(h:w.heap[b]?=some (.cells rcs elem fz))(v:Value):(w.setCell ⟨b,o,none⟩ v).heap[b]?=some (.cells (rcs.setIfInBounds o v) elem fz):=by
 simp[World.setCell,Array.getElem?_modify,h]
theorem jD{P:Program}{b:Nat}{elem:TypeId}{fz:Nat×Nat}(off:Nat):∀(vs:List Value) (i:Nat) (rcs:Array Value) (w:World),w.heap[b]?=some (.cells rcs elem fz)→
 (fz.1=fz.2∨rcs.size≤fz.1)→off+i+vs.length≤rcs.size→(∀v∈vs,v.oneCell'=true)→
 ∃w',(storeCells ⟨b,off,none⟩ vs i).run P w=.ok () w'∧fZ w b w'∧w'.heap[b]?=some (.cells (rcs.toList.take (off+i)++vs++rcs.toList.drop (off+i+vs.length)).toArray elem fz)
 |[],i,rcs,w,h,_,hl,_=>⟨w,rfl,⟨rfl,rfl,rfl,rfl,fun _ _=>rfl⟩,by simp[h]⟩
 |v::r,i,rcs,w,h,hz,hl,h1=>by
  simp only[List.length_cons]at hl
  have hi:off+i<rcs.size:=by omega
  have hst:(store ((⟨b,off,none⟩:Addr).add i) v).run P w=.ok () (w.setCell ⟨b,off+i,none⟩ v):=by
   rw[iy,run_store P w _ v _ (h1 v sm),gN h]
   have hfz:¬(fz.1≤off+i∧off+i<fz.2):=by omega
   simp only[Array.getElem?_eq_getElem hi,World.frozen?,h]
   obtain⟨lo,hi2⟩:=fz
   rw[if_neg (by simpa using hfz)]
  obtain⟨w',g1,g2,g3⟩:=jD (P:=P) off r (i+1) (rcs.setIfInBounds (off+i) v) (w.setCell ⟨b,off+i,none⟩ v) (AM h v) (by simpa using hz) (by simp;omega) (fun x hx=>h1 x (by simp[hx]))
  refine⟨w',by simp only[storeCells,Sem.run_bind,hst,Result.andThen_ok,g1],⟨g2.os,g2.tape,g2.output,by rw[g2.size];simp[World.setCell],fun k hk=>by rw[g2.block k hk];exact Below.heap_setCell w _ v k hk⟩,?_⟩
  rw[g3]
  congr 2
  apply Array.ext'
  simp only[Array.toList_setIfInBounds]
  apply List.ext_getElem?
  intro j
  simp only[List.getElem?_append,List.length_append,List.length_take,List.length_set,List.length_cons,Array.length_toList,List.getElem?_take,List.getElem?_drop,List.getElem?_set]
  grind
end Go.Proofs.YtkimkgbppegkhaaGreat.Cm
namespace Go.Proofs.YtkimkgbppegkhaaGreat.Cm
open Go Go.RowKit
def bL(H:Heap):List (Nat×Option O)→Heap
 |[]=>H
 |(i,o)::r=>bL (upd H i o) r
/-- the true operation does what the abstract one says -/
def Ok(P:Program)(o:Oper)(ρ:Operand→Value)(ε:Env)(H:Heap)(n:Nat)(w:World)(ef:Ef):Prop:=
 ∃rv w' ε',((execOp ρ o).run P w=.ok (.value rv) w'∨((execOp ρ o).run P w=.ok .skip w'∧rv=undef))∧ba ε' ef.1 rv∧bt ε H n w ε' (bL H ef.2.1) (n+ef.2.2) w'
section
variable {P:Program} {o:Oper} {ρ:Operand→Value} {ε:Env} {H:Heap} {n:Nat} {w:World}
theorem Ok.pure{v:V}{rv:Value}(R:bh ε H w)(h:(execOp ρ o).run P w=.ok (.value rv) w)(hv:ba ε v rv):Ok P o ρ ε H n w (v,[],0):=
 ⟨rv,w,ε,.inl h,hv,by simpa[bL]using bt.refl R⟩
theorem ub{v:Value}{x:F}(h:oz v=some x)(ε:Env):aT ε x v:=by
 unfold oz at h
 split at h<;>first
  |(cases h;rfl)
  |(cases h;simp[aT];done)
  |cases h
theorem qE:∀{l:List Value} {xs:List F},kK l=some xs→∀ε,aw (aT ε) xs l
 |[],xs,h,ε=>by simp[kK]at h;subst h;trivial
 |v::r,xs,h,ε=>by
  simp only[kK]at h
  split at h
  ·rename_i x l h1 h2
   cases h
   exact⟨ub h1 ε,qE h2 ε⟩
  ·cases h
theorem uI{v:Value}{x:V}(h:oK v=some x)(ε:Env):ba ε x v:=by
 unfold oK at h
 split at h
 ·rename_i cs
  simp only[Option.map_eq_some_iff]at h
  obtain⟨l,h1,rfl⟩:=h
  exact⟨cs.toList,sm,qE h1 ε⟩
 ·simp only[Option.map_eq_some_iff]at h
  obtain⟨l,h1,rfl⟩:=h
  exact ub h1 ε
theorem kQ{t:TypeId}{ti:TI}(h:dz P t=some ti):∃i z,P.info? t=some i∧i.zero=some z∧i.size=ti.size∧i.bytes=ti.bytes∧∀ε,aw (aT ε) ti.zero z.cells.toList:=by
 unfold dz at h
 split at h
 ·rename_i i hi
  split at h
  ·rename_i z hz
   split at h
   ·rename_i l hl
    cases h
    exact⟨i,z,hi,hz,rfl,rfl,qE hl⟩
   ·cases h
  ·cases h
 ·cases h
theorem kU{t:TypeId}{i:TypeInfo}(h:P.info? t=some i)(w:World):(typeInfo t).run P w=.ok i w:=by simp[typeInfo,h]
theorem db{t:TypeId}{i:TypeInfo}(h:P.info? t=some i)(w:World):(sizeOf t).run P w=.ok i.size w:=by simp[sizeOf,kU h]
theorem fN{t:TypeId}{i:TypeInfo}{z:Value}(h:P.info? t=some i)(hz:i.zero=some z)(w:World):(zeroValue t).run P w=.ok z w:=by simp[zeroValue,kU h,hz]
theorem be{t:TypeId}{d:TypeDesc}(h:P.underlying t=some d)(w:World):(underlying t).run P w=.ok d w:=run_underlying h w
theorem f_{t:TypeId}{s:Nat}(h:cj P t=some s):∃i,P.info? t=some i∧i.size=s:=by
 unfold cj at h
 split at h
 ·rename_i i hi;cases h;exact⟨i,hi,rfl⟩
 ·cases h
theorem mb{t e:TypeId}(h:eN P t=some e):P.underlying t=some (.slice e):=by
 unfold eN at h
 split at h
 ·rename_i e' he;cases h;exact he
 ·cases h
theorem kZ{t:TypeId}{b:Bool}(h:h_ P t=some b)(w:World):(isAgg t).run P w=.ok b w:=by
 unfold h_ at h
 split at h<;>rename_i hu
 ·cases h;simp[isAgg,be hu]
 ·cases h;simp[isAgg,be hu]
 ·rename_i d h1 h2
  cases h
  simp only[isAgg,Sem.run_bind,be hu,Result.andThen_ok]
  rfl
 ·cases h
theorem BS{x:U}{cs:List F}{v:Value}(h:mU x=some cs)(hv:bQ ε x v):aw (aT ε) cs v.cells.toList:=by
 cases x with
 |f y=>
  simp only[mU]at h;cases h
  have h1:=hv.one
  have:v.cells=#[v]:=by cases v<;>first | rfl | (simp[Value.oneCell']at h1)
  rw[this]
  exact⟨hv,trivial⟩
 |agg l=>simp only[mU]at h;cases h;obtain⟨k,rfl,h2⟩:=hv;simpa[Value.cells]using h2
 |fn g c=>simp[mU]at h
theorem qS{x:V}{cs:List F}{v:Value}(h:iG x=some cs)(hv:ba ε x v):aw (aT ε) cs v.cells.toList:=by
 cases x with
 |u y=>exact BS h hv
 |tup l=>simp[iG]at h
theorem oC{cs:List F}{l:List Value}(h:aw (aT ε) cs l):∀v∈l,v.oneCell'=true:=by
 intro v hv
 obtain⟨i,hi,rfl⟩:=List.getElem_of_mem hv
 have hl:=h.length
 have hi':i<cs.length:=by omega
 obtain⟨b,h1,h2⟩:=h.get i cs[i] (List.getElem?_eq_getElem hi')
 rw[List.getElem?_eq_getElem hi]at h1
 cases h1
 exact h2.one
theorem jI{cs:List F}{vs:List Value}(R:bh ε H w)(hf:ε n=none)(h:aw (aT ε) cs vs)(ex:Bool)(rest:List Value)(hex:ex=true→rest=[])(elem:TypeId)(fz:Nat×Nat){w':World}
 (hz:fz.1=fz.2∨(ex=false∧vs.length+rest.length≤fz.1)) (hw:gv w (.cells (vs++rest).toArray elem fz) w'):
 bt ε H n w (fG ε n (w.heap.size,vs.length+rest.length)) (upd H n (some (.cells cs ex))) (n+1) w':=by
 refine ou R hf hw ?_
 refine⟨w.heap.size,vs.length+rest.length,(vs++rest).toArray,elem,fz,cJ _ _ _,hw.new,sm,?_,?_,hz⟩
 ·have:=h.length
  have e:(vs++rest).take cs.length=vs:=by rw[←this];simp
  show aw _ cs (List.take cs.length (vs++rest))
  rw[e]
  exact h.mono fun _ _ k=>aT.mono (le_ins hf _) k
 ·intro he;have:=h.length;rw[hex he];simp;omega
theorem gI(w:World)(ob:Obj):gv w ob (w.alloc ob):=⟨rfl,rfl,rfl,rfl⟩
theorem FQ{e:TypeId}{ef:Ef}{r:Operand→Option V}(R:bh ε H w)(hf:cI ε n (n+ef.2.2))(ho:o.op=.alloc e)(h:stepOp P o.op r H n=some ef):Ok P o ρ ε H n w ef:=by
 rw[ho]at h
 simp only[stepOp]at h
 split at h
 ·rename_i ti hti
  cases h
  obtain⟨i,z,h1,h2,h3,h4,h5⟩:=kQ hti
  have S:=jI (n:=n) R (hf n om sm) (h5 ε) true [] (fun _=>rfl) e (0,0) (w':=w.alloc (.cells z.cells e)) sm (by simpa using gI w _)
  refine⟨.pointer (some ⟨w.heap.size,0,none⟩),_,_,.inl ?_,?_,by simpa[bL]using S⟩
  ·simp[execOp,ho,Instr.alloc,fN h1 h2,newVar,newRow]
  ·exact⟨w.heap.size,_,cJ _ _ _,rfl⟩
 ·cases h
theorem G9{e:TypeId}{x:Operand}{ef:Ef}{r:Operand→Option V}(hr:∀x u,r x=some u→ba ε u (ρ x))(R:bh ε H w)(hf:cI ε n (n+ef.2.2))(ho:o.op=.box e x)(h:stepOp P o.op r H n=some ef):Ok P o ρ ε H n w ef:=by
 rw[ho]at h
 simp only[stepOp]at h
 split at h
 ·rename_i v hv
  split at h
  ·rename_i cs hcs
   cases h
   have hc:=qS hcs (hr x v hv)
   have S:=jI (n:=n) R (hf n om sm) hc true [] (fun _=>rfl) e (0,0) (w':=w.alloc (.cells (ρ x).cells e)) sm (by simpa using gI w _)
   refine⟨.pointer (some ⟨w.heap.size,0,none⟩),_,_,.inl ?_,?_,by simpa[bL]using S⟩
   ·simp[execOp,ho,Instr.box,newVar,newRow]
   ·exact⟨w.heap.size,_,cJ _ _ _,rfl⟩
  ·cases h
 ·cases h
theorem GR{t:TypeId}{a:Operand}{ef:Ef}{r:Operand→Option V}(hr:∀x u,r x=some u→ba ε u (ρ x))(R:bh ε H w)(ho:o.op=.load t a)(h:stepOp P o.op r H n=some ef):Ok P o ρ ε H n w ef:=by
 rw[ho]at h
 simp only[stepOp]at h
 split at h
 ·rename_i id off hv
  obtain⟨b,K,he,ha⟩:=hr a _ hv
  split at h
  ·rename_i cs ex sz hc hag hsz
   obtain⟨i,hi,rfl⟩:=f_ hsz
   obtain⟨b',K',rcs,elem,fz,h1,h2,h3,h4,h5,h6⟩:=R.obj id _ hc
   rw[he]at h1;cases h1
   split at h
   ·rename_i hle
    cases h
    have hl:=i9 h4
    refine Ok.pure R ?_ ⟨_,rfl,?_⟩ (rv:=.agg ((rcs.toList.drop off).take i.size).toArray)
    ·simp only[execOp,ho,Instr.loadAt,ha,Instr.sureAddr,Sem.run_bind,Sem.run_pure,Result.andThen_ok,loadVar,kZ hag,if_true,db hi,nF h2 (show off+i.size≤rcs.size by omega)]
    ·have:=(h4.drop off).take i.size
     rw[List.drop_take,List.take_take,Nat.min_eq_left om]at this
     exact this
   ·cases h
  ·rename_i cs ex sz hc hag hsz
   obtain⟨b',K',rcs,elem,fz,h1,h2,h3,h4,h5,h6⟩:=R.obj id _ hc
   rw[he]at h1;cases h1
   split at h
   ·rename_i x hx
    cases h
    obtain⟨v,g1,g2⟩:=ya h4 hx
    refine Ok.pure R (rv:=v) ?_ g2
    simp only[execOp,ho,Instr.loadAt,ha,Instr.sureAddr,Sem.run_bind,Sem.run_pure,Result.andThen_ok,loadVar,kZ hag,if_false,Bool.false_eq_true,run_load,gN h2,g1]
   ·cases h
  ·rename_i rcs elem fz sz hc hag hsz
   obtain⟨b',K',h1,h2,h3⟩:=R.obj id _ hc
   rw[he]at h1;cases h1
   split at h
   ·rename_i k nn hx
    cases h
    refine Ok.pure R (rv:=.int k nn) ?_ rfl
    simp only[execOp,ho,Instr.loadAt,ha,Instr.sureAddr,Sem.run_bind,Sem.run_pure,Result.andThen_ok,loadVar,kZ hag,if_false,Bool.false_eq_true,run_load,gN h2,hx]
   ·cases h
  ·cases h
 ·cases h
theorem B_{cs new:List F}{rcs:Array Value}{vs:List Value}(off:Nat)(h:aw (aT ε) cs (rcs.toList.take cs.length))(hn:aw (aT ε) new vs)(hl:off+new.length≤cs.length):
 (aJ cs off new).length=cs.length∧aw (aT ε) (aJ cs off new) ((rcs.toList.take off++vs++rcs.toList.drop (off+vs.length)).take (aJ cs off new).length):=by
 have hlen:(aJ cs off new).length=cs.length:=by simp[aJ];omega
 refine⟨hlen,?_⟩
 have hc:=i9 h
 have hv:=hn.length
 have e:(rcs.toList.take off++vs++rcs.toList.drop (off+vs.length)).take cs.length=rcs.toList.take off++vs++(rcs.toList.take cs.length).drop (off+vs.length):=by
  rw[List.take_append,List.take_of_length_le (by simp;omega),List.drop_take]
  congr 2
  simp
  omega
 rw[hlen,e,aJ]
 refine aw.append (aw.append ?_ hn) ?_
 ·have:=h.take off
  rwa [List.take_take,Nat.min_eq_left om]at this
 ·have:=h.drop (off+vs.length)
  rw[hv]at this⊢
  exact this
theorem nK{id off b K:Nat}{cs new:List F}{ex:Bool}{vs:List Value}(R:bh ε H w)(hc:H id=some (.cells cs ex))(he:ε id=some (b,K))(hn:aw (aT ε) new vs)(hl:off+new.length≤cs.length):
 ∃w',(storeCells ⟨b,off,none⟩ vs).run P w=.ok () w'∧bt ε H n w ε (upd H id (some (.cells (aJ cs off new) ex))) n w':=by
 obtain⟨b',K',rcs,elem,fz,h1,h2,h3,h4,h5,h6⟩:=R.obj id _ hc
 rw[he]at h1;cases h1
 have hl2:=i9 h4
 have hv:=hn.length
 obtain⟨w',g1,g2,g3⟩:=jD (P:=P) off vs 0 rcs w h2 (by rw[h3];exact h6.imp (fun h=>h) And.right) (by simp;omega) (oC hn)
 refine⟨w',g1,nP R (by simp[hc]) he g2 ?_⟩
 obtain⟨q1,q2⟩:=B_ off h4 hn hl
 refine⟨b,K,_,elem,fz,he,g3,?_,?_,?_,h6⟩
 ·simp;omega
 ·simpa using q2
 ·intro hx;rw[q1];exact h5 hx
theorem F3{t:TypeId}{a x:Operand}{ef:Ef}{r:Operand→Option V}(hr:∀x u,r x=some u→ba ε u (ρ x))(R:bh ε H w)(ho:o.op=.store t a x)(h:stepOp P o.op r H n=some ef):Ok P o ρ ε H n w ef:=by
 rw[ho]at h
 simp only[stepOp]at h
 split at h
 ·rename_i id off v hv hx
  obtain⟨b,K,he,ha⟩:=hr a _ hv
  split at h
  ·rename_i cs ex new sz hc hcs hsz
   obtain⟨i,hi,rfl⟩:=f_ hsz
   split at h
   ·rename_i hle
    cases h
    have hn:=qS hcs (hr x v hx)
    have hnl:=hn.length
    obtain⟨w',g1,g2⟩:=nK (P:=P) (n:=n) (off:=off) R hc he hn om
    refine⟨undef,w',ε,.inr ⟨?_,rfl⟩,⟨[],rfl,trivial⟩,by simpa[bL]using g2⟩
    have hsz':(ρ x).cells.size=i.size:=by have:=hnl;simp at this;omega
    simp only[execOp,ho,Instr.storeAt,ha,Instr.sureAddr,Sem.run_bind,Sem.run_pure,Result.andThen_ok,storeVar,db hi,hsz',ne_eq,not_true_eq_false,if_false,g1]
   ·cases h
  ·cases h
 ·cases h
end
end Go.Proofs.YtkimkgbppegkhaaGreat.Cm
namespace Go.Proofs.YtkimkgbppegkhaaGreat.Cm
open Go Go.RowKit
theorem aw.of_get{α β:Type}{R:α→β→Prop}:∀{l:List α} {k:List β},k.length=l.length→(∀(i:Nat) (a:α) (b:β),l[i]?=some a→k[i]?=some b→R a b)→aw R l k
 |[],[],_,_=>trivial
 |a::asx,b::bs,hl,h=>⟨h 0 a b sm sm,aw.of_get (by simpa using hl) fun i x y hx hy=>h (i+1) x y (by simpa using hx) (by simpa using hy)⟩
 |[],_::_,hl,_=>by simp at hl
 |_::_,[],hl,_=>by simp at hl
section
variable {P:Program} {o:Oper} {ρ:Operand→Value} {ε:Env} {H:Heap} {n:Nat} {w:World}
theorem wN(off:Nat):∀(l:List Value) (k:Nat) (cells:Array Value),off+k+l.length≤cells.size→
 ((l.zipIdx k).foldl (fun cs (c:Value×Nat)=>cs.setIfInBounds (off+c.2) c.1) cells).toList=cells.toList.take (off+k)++l++cells.toList.drop (off+k+l.length)
 |[],k,cells,_=>by simp
 |v::r,k,cells,h=>by
  simp only[List.length_cons]at h
  simp only[List.zipIdx_cons,List.foldl_cons]
  rw[wN off r (k+1) _ (by simp;omega)]
  simp only[Array.toList_setIfInBounds]
  apply List.ext_getElem?
  intro j
  simp only[List.getElem?_append,List.length_append,List.length_take,List.length_set,List.length_cons,Array.length_toList,List.getElem?_take,List.getElem?_drop,List.getElem?_set]
  grind
theorem ot(place:Nat→Option (Nat×Nat)):∀(ps:List (Nat×List F)) (qs:List (Nat×Value)) (cells:List F) (rc:Array Value) (res:List F),
 aw (fun(p:Nat×List F) (q:Nat×Value)=>p.1=q.1∧aw (aT ε) p.2 q.2.cells.toList) ps qs→aw (aT ε) cells rc.toList→dJ place cells ps=some res→
 ∃rr,Instr.fill place rc qs=some rr∧aw (aT ε) res rr.toList
 |[],[],cells,rc,res,_,hc,h=>by simp[dJ]at h;subst h;exact⟨rc,rfl,hc⟩
 |(i,p)::ps,(j,q)::qs,cells,rc,res,⟨⟨h1,h2⟩,h3⟩,hc,h=>by
  simp only at h1 h2
  subst h1
  simp only[dJ]at h
  split at h
  ·cases h
  ·rename_i off size hp
   split at h
   ·rename_i hs
    obtain⟨hs1,hs2⟩:=hs
    have hl:=h2.length
    have hcl:=hc.length
    simp only[Array.length_toList]at hl hcl
    obtain⟨rr,g1,g2⟩:=ot place ps qs (aJ cells off p) (q.cells.zipIdx.foldl (fun cs (c:Value×Nat)=>cs.setIfInBounds (off+c.2) c.1) rc) res h3 (by
     have:=wN off q.cells.toList 0 rc (by simp;omega)
     simp only[Nat.add_zero]at this
     have e:(q.cells.zipIdx.foldl (fun cs (c:Value×Nat)=>cs.setIfInBounds (off+c.2) c.1) rc).toList=((q.cells.toList.zipIdx 0).foldl (fun cs (c:Value×Nat)=>cs.setIfInBounds (off+c.2) c.1) rc).toList:=by
      rw[←Array.foldl_toList];simp
     rw[e,this,aJ]
     refine aw.append (aw.append (hc.take off) h2) ?_
     have:=hc.drop (off+p.length)
     rw[show p.length=q.cells.size from by omega]at this⊢
     simpa using this) h
    refine⟨rr,?_,g2⟩
    simp only[Instr.fill,hp]
    have hq:¬(q.cells.size≠size∨off+q.cells.size>rc.size):=by omega
    rw[if_neg (by simpa using hq)]
    exact g1
   ·cases h
 |[],_::_,_,_,_,H,_,_=>H.elim
 |_::_,[],_,_,_,H,_,_=>H.elim
theorem rh{r:Operand→Option V}(hr:∀x u,r x=some u→ba ε u (ρ x)):∀(l:List (Nat×Operand)) (ps:List (Nat×List F)),fj r l=some ps→
 aw (fun(p:Nat×List F) (q:Nat×Value)=>p.1=q.1∧aw (aT ε) p.2 q.2.cells.toList) ps (l.map fun p=>(p.1,ρ p.2))
 |[],ps,h=>by simp[fj]at h;subst h;trivial
 |(i,x)::rest,ps,h=>by
  simp only[fj]at h
  split at h
  ·rename_i v l hv hl
   split at h
   ·rename_i cs hcs
    cases h
    exact⟨⟨rfl,qS hcs (hr x v hv)⟩,rh hr rest l hl⟩
   ·cases h
  ·cases h
theorem oA{r:Operand→Option V}(hr:∀x u,r x=some u→ba ε u (ρ x)):∀(l:List Operand) (vs:List V),ct r l=some vs→aw (ba ε) vs (l.map ρ)
 |[],vs,h=>by simp[ct]at h;subst h;trivial
 |x::rest,vs,h=>by
  simp only[ct]at h
  split at h
  ·rename_i v l hv hl
   cases h
   exact⟨hr x v hv,oA hr rest l hl⟩
  ·cases h
theorem uL(z:List F):∀(k j:Nat),j<k*z.length→(ci z k)[j]?=z[j%z.length]?
 |0,j,h=>by omega
 |k+1,j,h=>by
  have hz:0<z.length:=by
   rcases Nat.eq_zero_or_pos z.length with h' | h'
   ·rw[h']at h;omega
   ·exact h'
  rw[Nat.add_mul]at h
  simp only[ci]
  by_cases hj:j<z.length
  ·rw[List.getElem?_append_left hj,Nat.mod_eq_of_lt hj]
  ·rw[List.getElem?_append_right om,uL z k (j-z.length) om,Nat.mod_eq_sub_mod (a:=j) om]
theorem iu(z:List F):∀k,(ci z k).length=k*z.length
 |0=>by simp[ci]
 |k+1=>by simp[ci,iu z k,Nat.add_mul];omega
theorem oa{z:List F}{rz:Array Value}(h:aw (aT ε) z rz.toList)(k sz:Nat)(hz:z.length=sz):aw (aT ε) (ci z k) ((Array.range (k*sz)).map (fun i=>rz[i%rz.size]!)).toList:=by
 have hl:=h.length
 simp only[Array.length_toList]at hl
 refine aw.of_get (by simp[iu,hz]) fun i a b ha hb=>?_
 have hi:i<k*sz:=by
  rcases Nat.lt_or_ge i (k*sz)with h' | h'
  ·exact h'
  ·rw[List.getElem?_eq_none (by rw[iu,hz];exact h')]at ha;cases ha
 rw[uL z k i (by rw[hz];exact hi)]at ha
 obtain⟨v,h1,h2⟩:=h.get _ a ha
 have hsz:0<rz.size:=by
  rcases Nat.eq_zero_or_pos sz with h' | h'
  ·rw[h']at hi;omega
  ·omega
 have hm:i%rz.size<rz.size:=Nat.mod_lt _ hsz
 rw[hl]at*
 simp only[Array.getElem?_toList]at h1
 have e:rz[i%z.length]! = v:=by
  rw[getElem!_def,h1]
 simp only[Array.toList_map,Array.toList_range,List.getElem?_map]at hb
 rw[List.getElem?_range hi]at hb
 simp only[Option.map_some,Option.some.injEq]at hb
 rw[←hb,e]
 exact h2
theorem u4:∀(fs:List Field) (pl:List (Nat×Nat)),jN P fs=some pl→∀w:World,(fs.mapM (fun f=>do pure (f.offset,←sizeOf f.type):Field→Sem (Nat×Nat))).run P w=.ok pl w
 |[],pl,h,w=>by simp[jN]at h;subst h;simp
 |f::r,pl,h,w=>by
  simp only[jN]at h
  split at h
  ·rename_i i l hi hl
   cases h
   simp only[List.mapM_cons,Sem.run_bind,db hi,Result.andThen_ok,Sem.run_pure,u4 r l hl]
  ·cases h
theorem F1{t:TypeId}{parts:Array (Nat×Operand)}{ef:Ef}{r:Operand→Option V}(hr:∀x u,r x=some u→ba ε u (ρ x))(R:bh ε H w)(ho:o.op=.build t parts)(h:stepOp P o.op r H n=some ef):Ok P o ρ ε H n w ef:=by
 rw[ho]at h
 simp only[stepOp]at h
 split at h
 ·rename_i ti ps hti hps
  obtain⟨i,z,h1,h2,h3,h4,h5⟩:=kQ hti
  have hp:=rh hr _ _ hps
  split at h
  ·rename_i fs hu
   split at h
   ·rename_i pl hpl
    simp only[Option.map_eq_some_iff]at h
    obtain⟨cs,hcs,rfl⟩:=h
    obtain⟨rr,g1,g2⟩:=ot _ _ _ _ _ _ hp (h5 ε) hcs
    refine Ok.pure R (rv:=.agg rr) ?_ ⟨rr.toList,sm,g2⟩
    have e:(fun(x:Nat)=>(pl.toArray)[x]?)=fun(x:Nat)=>pl[x]?:=by funext x;simp
    simp only[execOp,ho,Instr.build,Sem.run_bind,fN h1 h2,Result.andThen_ok,be hu,Array.mapM_eq_mapM_toList,Sem.run_map,u4 _ _ hpl,e,Array.toList_map,g1,Sem.run_pure]
   ·cases h
  ·rename_i k e hu
   split at h
   ·rename_i sz hsz
    obtain⟨ie,hie,rfl⟩:=f_ hsz
    simp only[Option.map_eq_some_iff]at h
    obtain⟨cs,hcs,rfl⟩:=h
    obtain⟨rr,g1,g2⟩:=ot _ _ _ _ _ _ hp (h5 ε) hcs
    refine Ok.pure R (rv:=.agg rr) ?_ ⟨rr.toList,sm,g2⟩
    simp only[execOp,ho,Instr.build,Sem.run_bind,fN h1 h2,Result.andThen_ok,be hu,db hie,Array.toList_map,g1,Sem.run_pure]
   ·cases h
  ·cases h
 ·cases h
theorem AC{t:TypeId}{len:Nat}{parts:Array (Nat×Operand)}{ef:Ef}{r:Operand→Option V}(hr:∀x u,r x=some u→ba ε u (ρ x))(R:bh ε H w)(hf:cI ε n (n+ef.2.2))(ho:o.op=.buildSlice t len parts)(h:stepOp P o.op r H n=some ef):Ok P o ρ ε H n w ef:=by
 rw[ho]at h
 simp only[stepOp]at h
 split at h
 ·rename_i e ps he hps
  have hu:=mb he
  have hp:=rh hr _ _ hps
  split at h
  ·rename_i ti hti
   obtain⟨i,z,h1,h2,h3,h4,h5⟩:=kQ hti
   split at h
   ·rename_i hc
    obtain⟨c1,c2,c3⟩:=hc
    simp only[Option.map_eq_some_iff]at h
    obtain⟨cs,hcs,rfl⟩:=h
    have hz:=oa (h5 ε) len ti.size c2
    obtain⟨rr,g1,g2⟩:=ot _ _ _ _ _ _ hp hz hcs
    have hrl:rr.size=len*ti.size:=by
     have a1:=g2.length
     have:∀(ps:List (Nat×List F)) (cells res:List F),dJ (fun i=>some (i*ti.size,ti.size)) cells ps=some res→res.length=cells.length:=by
      intro ps
      induction ps with
      |nil=>intro cells res h;simp[dJ]at h;rw[h]
      |cons p ps ih=>
       intro cells res h
       obtain⟨i,p⟩:=p
       simp only[dJ]at h
       split at h
       ·rename_i hs
        rw[ih _ _ h]
        simp[aJ];omega
       ·cases h
     have a2:=this _ _ _ hcs
     rw[iu,c2]at a2
     simp at a1
     omega
    have S:=jI (n:=n) R (hf n om sm) g2 true [] (fun _=>rfl) e (0,0) (w':=w.alloc (.cells rr e)) sm (by simpa using gI w _)
    refine⟨.slice (some ⟨w.heap.size,0,none⟩) len len,_,_,.inl ?_,?_,by simpa[bL]using S⟩
    ·have h0:(if len*ti.size=0 then #[]else(Array.range (len*ti.size)).map (fun i=>z.cells[i%z.cells.size]!))=(Array.range (len*ti.size)).map (fun i=>z.cells[i%z.cells.size]!):=by
      split
      ·rename_i h0;simp[h0]
      ·rfl
     simp only[execOp,ho,Instr.buildSlice,Sem.run_bind,be hu,Result.andThen_ok,db h1,h3,Array.toList_map]
     rw[if_neg om]
     have har:(Array.range 0).map (fun x=>(#[]:Array Value)[x%(#[]:Array Value).size]!)=#[]:=by simp
     by_cases hq:len*ti.size=0
     ·rw[if_pos hq]at h0
      rw[←h0]at g1
      simp only[if_pos hq,Sem.run_bind,Sem.run_pure,Result.andThen_ok]
      simp only[hq,har,g1,newRow,Sem.run_bind,run_newObj_alloc,Result.andThen_ok,Sem.run_pure]
     ·simp only[if_neg hq,Sem.run_bind,fN h1 h2,Result.andThen_ok,Sem.run_pure,g1,newRow,run_newObj_alloc]
    ·refine⟨w.heap.size,_,_,len,cJ _ _ _,rfl,fun _=>rfl,Nat.le_refl _,?_⟩
     simp[hrl]
   ·cases h
  ·cases h
 ·cases h
theorem Bk{t:TypeId}{l c:Operand}{ef:Ef}{r:Operand→Option V}(hr:∀x u,r x=some u→ba ε u (ρ x))(R:bh ε H w)(hf:cI ε n (n+ef.2.2))(ho:o.op=.makeSlice t l c)(h:stepOp P o.op r H n=some ef):Ok P o ρ ε H n w ef:=by
 rw[ho]at h
 simp only[stepOp]at h
 split at h
 ·rename_i e vl vc he hvl hvc
  have hu:=mb he
  split at h
  ·rename_i ti a b hti ha hb
   obtain⟨i,z,h1,h2,h3,h4,h5⟩:=kQ hti
   split at h
   ·rename_i hc
    obtain⟨rfl,c1,c2,c3,c4⟩:=hc
    cases h
    have nat:∀{v:V} {a:Nat},dP v=some a→∀{x:Value},ba ε v x→∃k,x=.int k a:=by
     intro v a hv x hx
     unfold dP at hv
     split at hv
     ·rename_i k m
      cases hv
      exact⟨k,hx⟩
     ·cases hv
    obtain⟨k1,e1⟩:=nat ha (hr l vl hvl)
    obtain⟨k2,e2⟩:=nat hb (hr c vc hvc)
    have hz:=oa (h5 ε) a ti.size c3
    have hal:a≤140737488355328:=Nat.le_trans (Nat.le_mul_of_pos_right a c2) c4
    have hwr:IntKind.i64.wrap (a:Int)=a:=by unfold IntKind.wrap IntKind.bits;simp[IntKind.signed];omega
    have S:=jI (n:=n) R (hf n om sm) hz true [] (fun _=>rfl) e (0,0) (w':=w.alloc (.cells ((Array.range (a*ti.size)).map (fun i=>z.cells[i%z.cells.size]!)) e)) sm (by rw[List.append_nil,Array.toArray_toList];exact gI w _)
    refine⟨.slice (some ⟨w.heap.size,0,none⟩) a a,_,_,.inl ?_,?_,by simpa[bL]using S⟩
    ·have hb1:¬((i.bytes:Int)*(a:Int)>2 ^ 48):=by
      rw[h4]
      have:((ti.bytes*a:Nat):Int)≤((140737488355328:Nat):Int):=Int.ofNat_le.2 (by rw[Nat.mul_comm];exact c4)
      rw[Int.natCast_mul]at this
      omega
     simp only[execOp,ho,Instr.makeSlice,Sem.run_bind,be hu,Result.andThen_ok,e1,e2,asInt,asIntOf,Sem.run_pure,kU h1,hwr]
     have hb2:(decide ((a:Int)<0) || decide ((i.bytes:Int)*(a:Int)>2 ^ 48))=false:=by
      rw[Bool.or_eq_false_iff]
      exact⟨decide_eq_false om,decide_eq_false hb1⟩
     have hb3:(decide ((a:Int)<0) || decide ((a:Int)>a))=false:=by
      rw[Bool.or_eq_false_iff]
      exact⟨decide_eq_false om,decide_eq_false om⟩
     rw[if_neg (by rw[hb2,Bool.false_or,hb3];exact Bool.false_ne_true)]
     simp only[Sem.run_bind,run_askRoom,Result.andThen_ok,db h1,Int.toNat_natCast,h3]
     have har:(Array.range 0).map (fun x=>(#[]:Array Value)[x%(#[]:Array Value).size]!)=#[]:=by simp
     have hae:(Array.range 0).map (fun i=>z.cells[i%z.cells.size]!)=#[]:=by simp
     by_cases hq:a*ti.size=0
     ·simp only[if_pos hq,Sem.run_bind,Sem.run_pure,Result.andThen_ok]
      simp only[hq,har,hae,newRow,Sem.run_bind,run_newObj_alloc,Result.andThen_ok,Sem.run_pure]
     ·simp only[if_neg hq,Sem.run_bind,fN h1 h2,Result.andThen_ok,Sem.run_pure,newRow,run_newObj_alloc]
    ·refine⟨w.heap.size,_,_,a,cJ _ _ _,rfl,fun _=>rfl,Nat.le_refl _,?_⟩
     simp
   ·cases h
  ·cases h
 ·cases h
end
end Go.Proofs.YtkimkgbppegkhaaGreat.Cm

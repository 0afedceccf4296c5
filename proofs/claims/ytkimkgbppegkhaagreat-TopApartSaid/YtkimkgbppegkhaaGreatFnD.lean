/- The clean machine, walked by hand: a region that draws its order. No program is walked here. · The clean machine's walks of rows: multiples and sums. -/
import Derived.Test.YtkimkgbppegkhaaGreatCmY
import Derived.Test.YtkimkgbppegkhaaGreatFnC
import Derived.Test.YtkimkgbppegkhaaGreatFnP
set_option linter.unusedVariables false
set_option linter.unusedSimpArgs false
namespace Go.Proofs.YtkimkgbppegkhaaGreat.Cm
open Go Go.RowKit
structure da where
 i:Nat
 o:Oper
 want:Bool
 A:Tm
 H:Heap
 lo:Nat
 H':Heap
 hi:Nat
def ic(b:Nat→Nat)(i j:Nat):Bool:=Nat.testBit (b i) j || Nat.testBit (b j) i
section
variable {P:Program} {m:Nat} {ops:Array Oper} {b:Nat→Nat}
def kw(P:Program)(x:da):Prop:=x.want=true∧bY P x.o.op≠.quiet
def nC(P:Program)(q:da):Prop:=q.want=true∧bY P q.o.op=.quiet∧jW q.o.op=true
noncomputable def jr(q:da):Nat:=cw (aZ q.A) q.o.op
/-- what an operation yields, by the one object that it reads -/
noncomputable def iZ(P:Program)(o:Oper)(A:Tm)(ob:Option O):Option V:=(stepOp P o.op (aZ A) (fun _=>ob) 0).map (·.1)
abbrev Rd:=Nat×Nat×(Option O→Option V)
def zF(P:Program)(b:Nat→Nat)(x q:da):Prop:=kw P x→nC P q→ic b x.i q.i=true∨iZ P q.o q.A (x.H (jr q))=iZ P q.o q.A (x.H' (jr q))
inductive jn(P:Program)(m:Nat)(ops:Array Oper):List da→List Nat→Tm→Heap→Nat→Tm→Heap→Nat→Prop where
 |nil (A:Tm) (H:Heap) (n:Nat):jn P m ops [] [] A H n A H n
 |skip (i:Nat) (o:Oper) (rs:List da) (L:List Nat) (A:Tm) (H:Heap) (n:Nat) (A':Tm) (H':Heap) (n':Nat) (ho:ops[i]?=some o) (hd:∀d,o.dst=some d→d<m) (hw:cF ops A o=some false)
  (h:jn P m ops rs L (bR A o.dst cy) H n A' H' n'):jn P m ops (⟨i,o,false,A,H,n,H,n⟩::rs) (i::L) A H n A' H' n'
 |op (i:Nat) (o:Oper) (rs:List da) (L:List Nat) (A:Tm) (H:Heap) (n:Nat) (v:V) (H1:Heap) (n1:Nat) (A':Tm) (H':Heap) (n':Nat) (ho:ops[i]?=some o) (hd:∀d,o.dst=some d→d<m) (hw:cF ops A o=some true)
  (J:aE P o (aZ A) H n v H1 n1) (h:jn P m ops rs L (bR A o.dst v) H1 n1 A' H' n'):jn P m ops (⟨i,o,true,A,H,n,H1,n1⟩::rs) (i::L) A H n A' H' n'
noncomputable def kj(P:Program)(q:da)(ob:Option O):Option V:=if q.want=true then(stepOp P q.o.op (aZ q.A) (fun _=>ob) 0).map (·.1)else none
def sZ(P:Program)(D:gt)(q:da):Prop:=D.lo q.i=q.lo∧D.hi q.i=q.hi∧D.rid q.i=jr q∧∀ob,D.fq q.i ob=kj P q ob
noncomputable def pJ(P:Program)(rs:List da):gt where
 lo i:=match rs.find? (fun q=>q.i == i)with | some q=>q.lo | none=>0
 hi i:=match rs.find? (fun q=>q.i == i)with | some q=>q.hi | none=>0
 rid i:=match rs.find? (fun q=>q.i == i)with | some q=>jr q | none=>0
 fq i:=match rs.find? (fun q=>q.i == i)with | some q=>kj P q | none=>fun _=>none
theorem zE:∀{rs:List da},(rs.map (·.i)).Nodup→∀q∈rs,rs.find? (fun x=>x.i == q.i)=some q
 |[],_,q,h=>by cases h
 |x::rs,hn,q,h=>by
  rw[List.map_cons,List.nodup_cons]at hn
  rcases List.mem_cons.1 h with rfl | h
  ·simp
  ·rw[List.find?_cons]
   have hne:(x.i == q.i)=false:=by
    simp only[beq_eq_false_iff_ne]
    intro e
    exact hn.1 (by rw[e];exact List.mem_map_of_mem h)
   rw[hne]
   exact zE hn.2 q h
theorem CD{rs:List da}(hn:(rs.map (·.i)).Nodup)(q:da)(hq:q∈rs):sZ P (pJ P rs) q:=by
 have h:=zE hn q hq
 refine⟨?_,?_,?_,fun ob=>?_⟩<;>simp only[pJ,h]
theorem Cz{rs:List da}{L:List Nat}{A A':Tm}{H H':Heap}{n n':Nat}(J:jn P m ops rs L A H n A' H' n'):
 rs.map (·.i)=L∧cP H n H' n'∧(∀q∈rs,ops[q.i]?=some q.o∧n≤q.lo∧q.lo≤q.hi∧q.hi≤n'∧((q.want=false∨bY P q.o.op=.quiet)→q.H'=q.H))∧rs.Pairwise (fun x y=>x.hi≤y.lo)∧
 ∀(D:gt),(∀q∈rs,sZ P D q)→(∀q∈rs,fT P ops b D q.i q.H q.H')→iR P m ops b D L A H A' H':=by
 induction J with
 |nil A H n=>exact⟨rfl,cP.refl _ _,fun q hq=>(by cases hq),List.Pairwise.nil,fun D _ _=>.nil _ _⟩
 |skip i o rs L A H n A' H' n' ho hd hw h ih=>
  obtain⟨k1,k2,k3,k4,k5⟩:=ih
  refine⟨by simp[k1],k2,fun q hq=>?_,List.pairwise_cons.2 ⟨fun q hq=>(k3 q hq).2.1,k4⟩,fun D hD hC=>?_⟩
  ·rcases List.mem_cons.1 hq with rfl | hq
   ·exact⟨ho,Nat.le_refl _,Nat.le_refl _,k2.1,fun _=>rfl⟩
   ·exact k3 q hq
  ·have t:=hD _ (List.mem_cons_self ..)
   refine .cons i L o _ _ cy _ _ _ ho hd (.skip hw fun ob=>?_) (fun q _ _ _ _=>rfl) (k5 D (fun q hq=>hD q (by simp[hq])) (fun q hq=>hC q (by simp[hq])))
   have:=t.2.2.2 ob
   simpa[kj]using this
 |op i o rs L A H n v H1 n1 A' H' n' ho hd hw J h ih=>
  obtain⟨k1,k2,k3,k4,k5⟩:=ih
  have hJ:=J.good
  refine⟨by simp[k1],hJ.trans k2,fun q hq=>?_,List.pairwise_cons.2 ⟨fun q hq=>(k3 q hq).2.1,k4⟩,fun D hD hC=>?_⟩
  ·rcases List.mem_cons.1 hq with rfl | hq
   ·refine⟨ho,Nat.le_refl _,hJ.1,k2.1,fun hh=>?_⟩
    rcases hh with hh | hh
    ·cases hh
    ·exact(pG (D:=⟨fun _=>n,fun _=>n1,fun _=>cw (aZ A) o.op,fun _ ob=>(stepOp P o.op (aZ A) (fun _=>ob) 0).map (·.1)⟩) (i:=i) hw J rfl rfl rfl fun _=>rfl).2 hh
   ·obtain⟨a1,a2,a3,a4,a5⟩:=k3 q hq
    exact⟨a1,Nat.le_trans hJ.1 a2,a3,a4,a5⟩
  ·have t:=hD _ (List.mem_cons_self ..)
   have hO:=(pG (D:=D) (i:=i) hw J t.1 t.2.1 t.2.2.1 fun ob=>by
    have:=t.2.2.2 ob
    simpa[kj]using this).1
   exact .cons i L o _ _ v _ _ _ ho hd hO (hC _ (List.mem_cons_self ..)) (k5 D (fun q hq=>hD q (by simp[hq])) (fun q hq=>hC q (by simp[hq])))
theorem AZ{id:Nat}(hm:P.follows .mixedOrders=true){L:List Nat}(hok:mG P b ops L=true){rs:List da}{A A':Tm}{H H':Heap}{n n':Nat}(J:jn P m ops rs L A H n A' H' n')(hs:∀x∈rs,∀q∈rs,zF P b x q):
 bw P m (.region id ops true) A H n .normal A' H' n':=by
 obtain⟨h1,h2,h3,h4,h5,h6⟩:=ue hok
 obtain⟨k1,k2,k3,k4,k5⟩:=Cz (b:=b) J
 have hn:(rs.map (·.i)).Nodup:=by rw[k1];exact h2
 have hT:∀q∈rs,sZ P (pJ P rs) q:=fun q hq=>CD hn q hq
 have hall:∀i,i<ops.size→∃q∈rs,q.i=i:=fun i hi=>by
  have:i∈rs.map (·.i):=by rw[k1];exact(h3 i).2 hi
  obtain⟨q,g1,g2⟩:=List.mem_map.1 this
  exact⟨q,g1,g2⟩
 have hC:∀x∈rs,fT P ops b (pJ P rs) x.i x.H x.H':=by
  intro x hx q hne ⟨oq,hoq,hcq⟩ hb1 hb2
  obtain⟨_,_,_,_,g5⟩:=k3 x hx
  obtain⟨y,hy,rfl⟩:=hall q (Array.getElem?_eq_some_iff.1 hoq).1
  obtain⟨y1,_⟩:=k3 y hy
  rw[y1]at hoq
  cases hoq
  obtain⟨t1,t2,t3,t4⟩:=hT y hy
  rw[t4,t4,t3]
  by_cases hw:y.want=true
  ·by_cases hE:kw P x
   ·cases hr:jW y.o.op with
    |false=>
     unfold kj
     rw[od (r:=aZ y.A) (h:=fun _=>x.H (jr y)) (h':=fun _=>x.H' (jr y)) (n:=0) (n':=0) hcq hr]
    |true=>
     rcases hs x hx y hy hE ⟨hw,hcq,hr⟩with h | h
     ·unfold ic at h
      rw[hb1,hb2]at h
      cases h
     ·simp only[kj,hw,if_true];exact h
   ·have:x.H'=x.H:=g5 (by
     unfold kw at hE
     by_cases hxw:x.want=true
     ·exact .inr (Classical.byContradiction fun hc=>hE ⟨hxw,hc⟩)
     ·exact .inl (by simpa using hxw))
    rw[this]
  ·simp only[kj,hw,if_false]
   rfl
 have hat:∀j∈L,∃q∈rs,q.i=j:=fun j hj=>hall j ((h3 j).1 hj)
 refine bw.drawn hm h1 (k5 _ hT hC) ?_ h3 h4 h5 (fun j hj=>?_) k2
 ·have hp:(rs.map (·.i)).Pairwise (lN P ops b):=by rw[k1];exact h6
  have hnn:(rs.map (·.i)).Pairwise (·≠·):=hn
  rw[←k1]
  rw[List.pairwise_map]at hp hnn⊢
  have h7:=(hp.and hnn).and k4
  refine List.Pairwise.imp_of_mem (fun{x y} hx hy h=>?_) h7
  obtain⟨⟨g1,g2⟩,g3⟩:=h
  obtain⟨x1,x2,_⟩:=hT x hx
  obtain⟨y1,y2,_⟩:=hT y hy
  exact⟨g2,.inl (by rw[x2,y1];exact g3),g1⟩
 ·obtain⟨q,hq,rfl⟩:=hat j hj
  obtain⟨t1,t2,_⟩:=hT q hq
  obtain⟨_,a2,a3,a4,_⟩:=k3 q hq
  rw[t1,t2]
  exact⟨a2,a3,a4⟩
end
/-- what an effect owes the readers that were, what a reader owes the effects that were -/
@[reducible] def ku (b:Nat→Nat) (i:Nat) (H H':Heap):List Rd→Prop
 |[]=>True
 |q::r=>(ic b i q.1=true∨q.2.2 (H q.2.1)=q.2.2 (H' q.2.1))∧ku b i H H' r
@[reducible] def kD (b:Nat→Nat) (i id:Nat) (fq:Option O→Option V):List (Nat×Heap×Heap)→Prop
 |[]=>True
 |q::r=>(ic b q.1 i=true∨fq (q.2.1 id)=fq (q.2.2 id))∧kD b i id fq r
theorem ku.mem{b:Nat→Nat}{i:Nat}{H H':Heap}:∀{l:List Rd},ku b i H H' l→∀q∈l,ic b i q.1=true∨q.2.2 (H q.2.1)=q.2.2 (H' q.2.1)
 |[],_,q,h=>by cases h
 |x::r,h,q,hq=>by
  rcases List.mem_cons.1 hq with rfl | hq
  ·exact h.1
  ·exact ku.mem h.2 q hq
theorem kD.mem{b:Nat→Nat}{i id:Nat}{fq:Option O→Option V}:∀{l:List (Nat×Heap×Heap)},kD b i id fq l→∀q∈l,ic b q.1 i=true∨fq (q.2.1 id)=fq (q.2.2 id)
 |[],_,q,h=>by cases h
 |x::r,h,q,hq=>by
  rcases List.mem_cons.1 hq with rfl | hq
  ·exact h.1
  ·exact kD.mem h.2 q hq
section
variable {P:Program} {f:Nat} {p:List Nat} {A:Tm} {H:Heap} {n:Nat} {K:Ko}
noncomputable abbrev io(P:Program)(f:Nat)(p:List Nat):Nat→Nat:=jz (cz (aH P f p))
noncomputable abbrev tS(P:Program)(f:Nat)(p:List Nat):List Nat:=nf P (io P f p) (cz (aH P f p))
/-- operations of a region that draws, in one order; effects and readers that were -/
def Sd(P:Program)(f:Nat)(p:List Nat)(L:List Nat)(es:List (Nat×Heap×Heap))(qs:List Rd)(A:Tm)(H:Heap)(n:Nat)(K:Ko):Prop:=
 ∃rs A' H' n',jn P (fF P f) (cz (aH P f p)) rs L A H n A' H' n'∧(∀x∈rs,∀q∈rs,zF P (io P f p) x q)∧(∀x∈rs,kw P x→∀q∈qs,ic (io P f p) x.i q.1=true∨q.2.2 (x.H q.2.1)=q.2.2 (x.H' q.2.1))∧
  (∀q∈rs,nC P q→∀e∈es,ic (io P f p) e.1 q.i=true∨iZ P q.o q.A (e.2.1 (jr q))=iZ P q.o q.A (e.2.2 (jr q)))∧K .normal A' H' n'
theorem wb(hP:gP P)(f:Nat):∀(p:List Nat),dW P (fF P f) (aH P f p)=true
 |[]=>by
  show dW P (fF P f) (pA P f)=true
  unfold pA fF
  cases hf:P.funcs[f]? with
  |none=>rfl
  |some fn=>
   simp only
   cases hb:fn.body with
   |none=>rfl
   |some c=>exact hP.2 f fn c hf hb
 |i::p=>by
  have ih:=wb hP f p
  show dW P (fF P f) (iV i (aH P f p))=true
  cases hc:aH P f p<;>rw[hc]at ih<;>simp only[iV,dW]at ih⊢
  ·obtain⟨g1,g2⟩:=n_ (x:=true) ih
   cases i<;>assumption
  ·obtain⟨g1,g2⟩:=n_ (x:=true) ih
   cases i<;>assumption
  ·exact ih
  ·exact ih
theorem To.draw(L:List Nat)(hP:gP P)(hk:b0 (aH P f p)=4)(hL:tS P f p=L)(h:Sd P f p L [] [] A H n K):To P f p A H n K:=by
 obtain⟨rs,A',H',n',h1,h2,_,_,h3⟩:=h
 have hok:=wb hP f p
 cases hc:aH P f p<;>rw[hc]at hk<;>first
  |(cases hk;done)
  |skip
 rename_i id ops d
 cases d with
 |false=>cases hk
 |true=>
  have e:cz (aH P f p)=ops:=by rw[hc];rfl
  rw[hc]at hok
  simp only[dW]at hok
  split at hok
  ·have eL:L=nf P (jz ops) ops:=by rw[←hL];unfold tS io;rw[e]
   unfold io at h2
   rw[e]at h1 h2
   rw[eL]at h1
   exact⟨.normal,A',H',n',by rw[hc];exact AZ hP.1 hok h1 h2,h3⟩
  ·cases hok
theorem Sd.done{es:List (Nat×Heap×Heap)}{qs:List Rd}(h:K .normal A H n):Sd P f p [] es qs A H n K:=
 ⟨[],A,H,n,.nil _ _ _,fun x hx=>(by cases hx),fun x hx=>(by cases hx),fun x hx=>(by cases hx),h⟩
theorem Sd.skip{i:Nat}{L:List Nat}{es:List (Nat×Heap×Heap)}{qs:List Rd}{l:List (Nat×V)}(d:Option Tmp)(h:eu P f p i (tl l)=some (false,d))(k:Sd P f p L es qs (tl (ey l d cy)) H n K):Sd P f p (i::L) es qs (tl l) H n K:=by
 obtain⟨h1,h2,h3,h4⟩:=kI h
 obtain⟨rs,A',H',n',g1,g2,g3,g4,g5⟩:=k
 rw[k9,←h4]at g1
 have nE:¬kw P (⟨i,bH P f p i,false,tl l,H,n,H,n⟩:da):=fun h=>by cases h.1
 have nR:¬nC P (⟨i,bH P f p i,false,tl l,H,n,H,n⟩:da):=fun h=>by cases h.1
 refine⟨_,A',H',n',.skip i _ rs L _ _ _ _ _ _ h1 h2 h3 g1,fun x hx q hq hE hR=>?_,fun x hx hE=>?_,fun q hq hR=>?_,g5⟩
 ·rcases List.mem_cons.1 hx with rfl | hx
  ·exact absurd hE nE
  ·rcases List.mem_cons.1 hq with rfl | hq
   ·exact absurd hR nR
   ·exact g2 x hx q hq hE hR
 ·rcases List.mem_cons.1 hx with rfl | hx
  ·exact absurd hE nE
  ·exact g3 x hx hE
 ·rcases List.mem_cons.1 hq with rfl | hq
  ·exact absurd hR nR
  ·exact g4 q hq hR
theorem Sd.still{i:Nat}{L:List Nat}{es:List (Nat×Heap×Heap)}{qs:List Rd}{l:List (Nat×V)}{v:V}{H1:Heap}{n1:Nat}(d:Option Tmp)(h:eu P f p i (tl l)=some (true,d))(hc:dx P (bH P f p i).op=0)(hr:jW (bH P f p i).op=false)
 (J:aE P (bH P f p i) (aZ (tl l)) H n v H1 n1) (k:Sd P f p L es qs (tl (ey l d v)) H1 n1 K):Sd P f p (i::L) es qs (tl l) H n K:=by
 obtain⟨h1,h2,h3,h4⟩:=kI h
 obtain⟨rs,A',H',n',g1,g2,g3,g4,g5⟩:=k
 rw[k9,←h4]at g1
 have hq:bY P (bH P f p i).op=.quiet:=by
  unfold dx at hc
  split at hc
  ·assumption
  ·cases hc
  ·cases hc
 have nE:¬kw P (⟨i,bH P f p i,true,tl l,H,n,H1,n1⟩:da):=fun h=>h.2 hq
 have nR:¬nC P (⟨i,bH P f p i,true,tl l,H,n,H1,n1⟩:da):=fun h=>by have:=h.2.2;rw[hr]at this;cases this
 refine⟨_,A',H',n',.op i _ rs L _ _ _ v H1 n1 _ _ _ h1 h2 h3 J g1,fun x hx q hq hE hR=>?_,fun x hx hE=>?_,fun q hq hR=>?_,g5⟩
 ·rcases List.mem_cons.1 hx with rfl | hx
  ·exact absurd hE nE
  ·rcases List.mem_cons.1 hq with rfl | hq
   ·exact absurd hR nR
   ·exact g2 x hx q hq hE hR
 ·rcases List.mem_cons.1 hx with rfl | hx
  ·exact absurd hE nE
  ·exact g3 x hx hE
 ·rcases List.mem_cons.1 hq with rfl | hq
  ·exact absurd hR nR
  ·exact g4 q hq hR
theorem Sd.read{i:Nat}{L:List Nat}{es:List (Nat×Heap×Heap)}{qs:List Rd}{l:List (Nat×V)}{v:V}{H1:Heap}{n1:Nat}(d:Option Tmp)(id:Nat)(h:eu P f p i (tl l)=some (true,d))(hc:dx P (bH P f p i).op=0)(hid:cw (aZ (tl l)) (bH P f p i).op=id)
 (hob:kD (io P f p) i id (iZ P (bH P f p i) (tl l)) es) (J:aE P (bH P f p i) (aZ (tl l)) H n v H1 n1) (k:Sd P f p L es ((i,id,iZ P (bH P f p i) (tl l))::qs) (tl (ey l d v)) H1 n1 K):Sd P f p (i::L) es qs (tl l) H n K:=by
 obtain⟨h1,h2,h3,h4⟩:=kI h
 obtain⟨rs,A',H',n',g1,g2,g3,g4,g5⟩:=k
 rw[k9,←h4]at g1
 have hq:bY P (bH P f p i).op=.quiet:=by
  unfold dx at hc
  split at hc
  ·assumption
  ·cases hc
  ·cases hc
 have nE:¬kw P (⟨i,bH P f p i,true,tl l,H,n,H1,n1⟩:da):=fun h=>h.2 hq
 refine⟨_,A',H',n',.op i _ rs L _ _ _ v H1 n1 _ _ _ h1 h2 h3 J g1,fun x hx q hq hE hR=>?_,fun x hx hE q hq=>?_,fun q hq hR e he=>?_,g5⟩
 ·rcases List.mem_cons.1 hx with rfl | hx
  ·exact absurd hE nE
  ·rcases List.mem_cons.1 hq with rfl | hq
   ·have:=g3 x hx hE (i,id,iZ P (bH P f p i) (tl l)) (List.mem_cons_self ..)
    rw[←hid]at this
    exact this
   ·exact g2 x hx q hq hE hR
 ·rcases List.mem_cons.1 hx with rfl | hx
  ·exact absurd hE nE
  ·exact g3 x hx hE q (by simp[hq])
 ·rcases List.mem_cons.1 hq with rfl | hq
  ·have:=hob.mem e he
   rw[←hid]at this
   exact this
  ·exact g4 q hq hR e he
theorem Sd.eff{i:Nat}{L:List Nat}{es:List (Nat×Heap×Heap)}{qs:List Rd}{l:List (Nat×V)}{v:V}{H1:Heap}{n1:Nat}(d:Option Tmp)(h:eu P f p i (tl l)=some (true,d))(hc:Nat.beq (dx P (bH P f p i).op) 0=false)
 (J:aE P (bH P f p i) (aZ (tl l)) H n v H1 n1) (hob:ku (io P f p) i H H1 qs) (k:Sd P f p L ((i,H,H1)::es) qs (tl (ey l d v)) H1 n1 K):Sd P f p (i::L) es qs (tl l) H n K:=by
 obtain⟨h1,h2,h3,h4⟩:=kI h
 obtain⟨rs,A',H',n',g1,g2,g3,g4,g5⟩:=k
 rw[k9,←h4]at g1
 have hq:bY P (bH P f p i).op≠.quiet:=fun e=>by
  unfold dx at hc
  rw[e]at hc
  cases hc
 have nR:¬nC P (⟨i,bH P f p i,true,tl l,H,n,H1,n1⟩:da):=fun h=>hq h.2.1
 refine⟨_,A',H',n',.op i _ rs L _ _ _ v H1 n1 _ _ _ h1 h2 h3 J g1,fun x hx q hq hE hR=>?_,fun x hx hE q hq=>?_,fun q hq hR e he=>?_,g5⟩
 ·rcases List.mem_cons.1 hq with rfl | hq
  ·exact absurd hR nR
  ·rcases List.mem_cons.1 hx with rfl | hx
   ·exact g4 q hq hR (i,H,H1) (List.mem_cons_self ..)
   ·exact g2 x hx q hq hE hR
 ·rcases List.mem_cons.1 hx with rfl | hx
  ·exact hob.mem q hq
  ·exact g3 x hx hE q hq
 ·rcases List.mem_cons.1 hq with rfl | hq
  ·exact absurd hR nR
  ·exact g4 q hq hR e (by simp[he])
/-- operations that come to a value by themselves -/
noncomputable def ni(P:Program)(f:Nat)(p:List Nat):List Nat→List (Nat×V)→Option (List (Nat×V))
 |[],l=>some l
 |i::L,l=>match jU P f p i l with
  |some l'=>ni P f p L l'
  |none=>none
noncomputable def sJ(P:Program)(f:Nat)(p:List Nat)(L:List Nat)(l:List (Nat×V)):List (Nat×V):=match ni P f p L l with | some l'=>l' | none=>[]
theorem Sd.self1{i:Nat}{L:List Nat}{es:List (Nat×Heap×Heap)}{qs:List Rd}{l l':List (Nat×V)}(h:jU P f p i l=some l')(k:Sd P f p L es qs (tl l') H n K):Sd P f p (i::L) es qs (tl l) H n K:=by
 unfold jU at h
 split at h
 ·rename_i d hs
  split at h
  ·rename_i hc hr
   split at h
   ·rename_i ef hst
    cases h
    have hq:bY P (bH P f p i).op=.quiet:=by
     unfold dx at hc
     split at hc
     ·assumption
     ·cases hc
     ·cases hc
    obtain⟨g1,g2⟩:=mi hq hst
    have hst':stepOp P (bH P f p i).op (aZ (tl l)) H n=some ef:=by rw[←hst];exact od hq hr
    have J:=aE.prim (P:=P) (o:=bH P f p i) ef hst'
    rw[g1,g2]at J
    exact Sd.still d hs hc hr J k
   ·cases h
  ·cases h
 ·rename_i d hs
  cases h
  exact Sd.skip d hs k
 ·cases h
theorem Sd.go{L:List Nat}{es:List (Nat×Heap×Heap)}{qs:List Rd}:∀(M:List Nat) {l:List (Nat×V)},(ni P f p M l).isSome=true→Sd P f p L es qs (tl (sJ P f p M l)) H n K→Sd P f p (M++L) es qs (tl l) H n K
 |[],l,_,h=>h
 |i::M,l,hs,h=>by
  unfold sJ at h
  simp only[ni]at hs h
  cases h1:jU P f p i l with
  |none=>rw[h1]at hs;cases hs
  |some l'=>
   rw[h1]at hs h
   exact Sd.self1 h1 (Sd.go M hs h)
end
end Go.Proofs.YtkimkgbppegkhaaGreat.Cm
namespace Go.Proofs.YtkimkgbppegkhaaGreat.Cm
open Go Go.RowKit Go.Proofs.YtkimkgbppegkhaaGreat.Gf
theorem ap.new{H:Heap}{n:Nat}(h:ap H n)(ob:O):ap (upd H n (some ob)) (n+1):=fun k hk=>by rw[br _ _ om];exact h k om
theorem ap.set{H:Heap}{n o:Nat}(h:ap H n)(ho:o<n)(ob:O):ap (upd H o (some ob)) n:=fun k hk=>by rw[br _ _ om];exact h k hk
theorem ap.lt{H:Heap}{n k:Nat}(h:ap H n){ob:O}(hk:H k=some ob):k<n:=by
 rcases Nat.lt_or_ge k n with h' | h'
 ·exact h'
 ·rw[h k h']at hk;cases hk
theorem vO{pre post:List Nat}{x y i:Nat}(hi:pre.length=i):aJ (bs (pre++x::post)) (0+i*1) [.int .u8 (y:Int)]=bs (pre++y::post):=by
 subst hi
 unfold aJ bs
 rw[show 0+pre.length*1=pre.length by omega,List.map_append,List.map_append,List.map_cons,List.map_cons]
 rw[show(List.map (fun(x:Nat)=>F.int .u8 (x:Int)) pre++F.int .u8 (x:Int)::List.map (fun(x:Nat)=>F.int .u8 (x:Int)) post).take pre.length=List.map (fun(x:Nat)=>F.int .u8 (x:Int)) pre by rw[List.take_append_of_le_length (by rw[List.length_map];exact Nat.le_refl _),List.take_of_length_le (by rw[List.length_map];exact Nat.le_refl _)]]
 rw[show(List.map (fun(x:Nat)=>F.int .u8 (x:Int)) pre++F.int .u8 (x:Int)::List.map (fun(x:Nat)=>F.int .u8 (x:Int)) post).drop (pre.length+[F.int .u8 (y:Int)].length)=List.map (fun(x:Nat)=>F.int .u8 (x:Int)) post by
  rw[show pre.length+[F.int .u8 (y:Int)].length=(List.map (fun(x:Nat)=>F.int .u8 (x:Int)) pre).length+1 by simp,List.drop_append]
  simp]
 simp
theorem mR{a:Nat}(ha:a<256):gm 1 a=a:=by
 have h:=Db
 rw[List.all_eq_true]at h
 exact Nat.eq_of_beq_eq_true (h a (List.mem_range.mpr ha))
theorem mz(k:Nat):ci [.int .u8 0] k=bs (List.replicate k 0):=by
 induction k with
 |zero=>rfl
 |succ k ih=>rw[ci,ih];rfl
theorem zP{H:Heap}{n a b:Nat}:aF (upd H n (some (.cells [.int .u8 (a:Int),.int .u8 (b:Int)] true))) 1 (.sl n 0 1 2 none)=some (bs [a,b]):=by
 simp only[aF,bG]
 rfl
theorem aS.less{P:Program}{f:Nat}{args:List V}{H H' G:Heap}{n n' n2:Nat}{v:V}(h:aS P f args H n v H' n')(hG:∀id o,G id=some o→H' id=some o)(hn:n'≤n2):aS P f args H n v G n2:=by
 obtain⟨⟨h1,h2⟩,h3⟩:=h
 refine⟨⟨Nat.le_trans h1 hn,fun k hk=>?_⟩,fun ε w rargs R hf ha=>Calls.mono (h3 ε w rargs R (hf.sub (Nat.le_refl _) hn) ha) fun x w' hp=>?_⟩
 ·rcases h2 k (by cases hq:G k with | none=>exact absurd hq hk | some o=>rw[hG k o hq];simp)with h | h
  ·exact .inl h
  ·exact .inr om
 ·obtain⟨rv,ε',g1,g2,S⟩:=hp
  exact⟨rv,ε',g1,g2,(S.sub hG).wide (Nat.le_refl _) hn⟩
theorem CG{o id off len c:Nat}{cap:Option Nat}(l:List Nat)(hl:len=l.length)(hb:B8 l)(hlt:len<9223372036854775808)(hc:c<256)(hne:id≠o):
 ∀(k i:Nat) (pre:List Nat) (H:Heap) (n:Nat) (K:Ko),k+i=len→pre.length=i→H o=some (.cells (bs (pre++List.replicate k 0)) true)→(∀(i:Nat) (x:Nat),l[i]?=some x→cn H id (off+i) (.int .u8 (x:Int)))→ap H n→
 (∀A H',A 5=some (vf (.sl o 0 1 len none))→H' o=some (.cells (bs (pre++(l.drop i).map (gm c))) true)→(∀j ob,j≠o→H j=some ob→H' j=some ob)→ap H' (n+k)→K (.exit 0) A H' (n+k))→
 aC Tryz.prog 141 [0,0,1,0,1,1] (tl [(0,vb c),(5,vf (.sl o 0 1 len none)),(11,vf (.sl id off 1 len cap)),(12,vi len),(13,vi i)]) H n K:=by
 intro k
 induction k with
 |zero=>
  intro i pre H n K hk hp ho hh ht hK
  refine aC.round (To.seq kr (To.region kr (Sg.go 1 kr (Sg.done kr ?_))))
  show To Tryz.prog 141 [1,0,0,1,0,1,1] _ _ _ _
  refine To.seq kr (To.ifB (cV (i:Int) (len:Int)) kr kr (fun h0=>?_) (fun h0=>?_))
  ·exact absurd (jJ h0) om
  ·refine To.exit 0 kr ?_
   exact hK _ H kr (by rw[ho,List.drop_of_length_le om];rfl) (fun j ob _ h=>h) ht
 |succ k ih=>
  intro i pre H n K hk hp ho hh ht hK
  have hi:i<l.length:=by omega
  have hx:l[i]?=some l[i]:=List.getElem?_eq_getElem hi
  have hx8:l[i]<256:=hb _ (List.getElem_mem hi)
  have hd:l.drop i=l[i]::l.drop (i+1):=List.drop_eq_getElem_cons hi
  have hon:o≠n:=by have:=ht.lt ho;omega
  refine aC.round (To.seq kr (To.region kr (Sg.go 1 kr (Sg.done kr ?_))))
  show To Tryz.prog 141 [1,0,0,1,0,1,1] _ _ _ _
  refine To.seq kr (To.ifB (cV (i:Int) (len:Int)) kr kr (fun h0=>?_) (fun h0=>?_))
  ·refine To.skip kr ?_
   show To Tryz.prog 141 [1,1,0,0,1,0,1,1] _ _ _ _
   refine To.seq kr (To.block 1 kr (To.seq kr (To.region kr (Sg.go 1 kr (Sg.op (some 16) kr (bD (id:=id) (off:=off) (sz:=1) (len:=len) (k:=i) om kr) (Sg.op (some 17) kr (eq (off:=off+i*1) (by rw[Nat.mul_one];exact hh i _ hx) kr) (Sg.go 2 kr (Sg.done kr ?_))))))))
   show To Tryz.prog 141 [1,0,0,1,1,0,0,1,0,1,1] _ _ _ _
   refine To.region kr (Sg.go 4 kr (Sg.op (some 22) kr (mS (v:=vf (.sl n 0 1 2 none)) (ob:=.cells [.int .u8 (c:Int),.int .u8 (l[i]:Int)] true) kr) (Sg.op (some 23) kr (b_ kr (xY (n+1) [c,l[i]] zP (by intro x hx; simp at hx; rcases hx with rfl | rfl<;>assumption) sm) kr) (Sg.op (some 24) kr (bD (id:=o) (off:=0) (sz:=1) (len:=len) (k:=i) om kr) (Sg.op none kr (sV (id:=o) (off:=0+i*1) (new:=[.int .u8 ((iS 1 [c,l[i]]:Nat):Int)]) (cs:=bs (pre++0::List.replicate k 0)) (ex:=true) (by rw[br _ _ hon];exact ho) (by rw[bg];simp;omega) kr) (Sg.done kr ?_))))))
   show To Tryz.prog 141 [1,1,1,0,0,1,0,1,1] _ _ _ _
   refine To.region kr (Sg.op (some 25) kr (au (iP .i64 i 1 ((i+1:Nat):Int) (eJ om om)) kr) (Sg.go 1 kr (Sg.done kr (aC.only [0,5,11,12,13] [(0,vb c),(5,vf (.sl o 0 1 len none)),(11,vf (.sl id off 1 len cap)),(12,vi len),(13,vi (i+1))] kr (ih (i+1) (pre++[gm c l[i]]) _ (n+1) K om (by simp;omega) ?_ ?_ ?_ (fun A H' h1 h2 h3 h4=>?_))))))
   ·rw[bG,vO hp,List.append_assoc,List.singleton_append,show iS 1 [c,l[i]]=gm c l[i]by simp only[iS,mR hc]]
   ·exact fun j y hj=>(hh j y hj).mono fun ob hob=>by rw[br _ _ hne,br _ _ (by have:=ht.lt hob;omega)];exact hob
   ·exact(ht.new _).set (by have:=ht.lt ho;omega) _
   ·have hn:n+(k+1)=n+1+k:=by omega
    rw[hn]at hK
    refine hK A H' h1 ?_ (fun j ob hj hob=>h3 j ob hj ?_) h4
    ·rw[h2,hd,List.map_cons,List.append_assoc,List.singleton_append]
    ·rw[br _ _ hj,br _ _ (by have:=ht.lt hob;omega)];exact hob
  ·exact absurd (kL h0) om
theorem wB{H:Heap}{n id off len c:Nat}{cap:Option Nat}(l:List Nat)(hr:aF H 1 (.sl id off 1 len cap)=some (bs l))(hb:B8 l)(hc:c<256)(hlt:l.length≤140737488355328)(ht:ap H n):
 aS Tryz.prog 141 [vb c,vf (.sl id off 1 len cap)] H n (vf (.sl n 0 1 l.length none)) (upd H n (some (.cells (bs (l.map (gm c))) true))) (n+1+l.length):=by
 have h:∃v H' n',aS Tryz.prog 141 [vb c,vf (.sl id off 1 len cap)] H n v H' n'∧(v=vf (.sl n 0 1 l.length none)∧H' n=some (.cells (bs (l.map (gm c))) true)∧(∀j ob,j≠n→H j=some ob→H' j=some ob)∧n'=n+1+l.length):=by
  refine aS.of_to kr ?_
  obtain⟨_,hlen,⟨ob0,hob0⟩,hat⟩:=dG hr
  have hl:len=l.length:=by
   rw[bg]at hlen
   omega
  have hrow:∀(i:Nat) (x:Nat),l[i]?=some x→cn H id (off+i) (.int .u8 (x:Int)):=fun i x hx=>hat i _ (gk hx)
  have hne:id≠n:=by have:=ht.lt hob0;omega
  rw[←hl]
  refine To.seq kr (To.region kr (Sg.go 1 kr (Sg.done kr ?_)))
  show To Tryz.prog 141 [1] _ _ _ _
  refine To.seq kr (To.region kr (Sg.go 1 kr (Sg.op (some 9) kr (fC (l:=len) kr) (Sg.op (some 10) kr (pQ (ti:=⟨1,1,[.int .u8 0]⟩) (a:=len) (by simp only;omega) kr) (Sg.go 1 kr (Sg.done kr ?_))))))
  show To Tryz.prog 141 [1,1] _ _ _ _
  refine To.seq kr (To.seq kr (To.region kr (Sg.go 1 kr (Sg.op (some 12) kr (fC (l:=len) kr) (Sg.go 1 kr (Sg.done kr ?_))))))
  show To Tryz.prog 141 [1,0,1,1] _ _ _ _
  refine To.block 0 kr (To.loop kr (aC.only [0,5,11,12,13] [(0,vb c),(5,vf (.sl n 0 1 len none)),(11,vf (.sl id off 1 len cap)),(12,vi len),(13,vi 0)] kr (CG l hl hb om hc hne len 0 [] _ (n+1) _ om rfl (by rw[bG,mz];rfl) (fun j y hj=>(hrow j y hj).mono fun ob hob=>by rw[br _ _ hne];exact hob) (ht.new _) (fun A H' h1 h2 h3 h4=>?_))))
  show To Tryz.prog 141 [1,1,1] _ _ _ _
  refine To.only [5] [(5,vf (.sl n 0 1 len none))] (by simp only[fU,h1]) (To.seq kr (To.region kr (Sg.go 2 kr (Sg.done kr ?_))))
  show To Tryz.prog 141 [1,1,1,1] _ _ _ _
  refine To.ret kr ?_
  exact⟨.inr rfl,_,kr,rfl,h2,fun j ob hj hob=>h3 j ob hj (by rw[br _ _ hj];exact hob),rfl⟩
 obtain⟨v,H',n',h1,rfl,h2,h3,rfl⟩:=h
 refine h1.less (fun j ob hj=>?_) (Nat.le_refl _)
 by_cases e:j=n
 ·subst e;rw[bG]at hj;cases hj;exact h2
 ·rw[br _ _ e]at hj;exact h3 j ob e hj
end Go.Proofs.YtkimkgbppegkhaaGreat.Cm

/- The clean machine, walked by hand: code by its path, with what is wanted behind it. No program is walked here. · The clean machine, walked by hand: operations, one by one. No program is walked here. -/
import Derived.Test.YtkimkgbppegkhaaGreatCmV
set_option linter.unusedVariables false
set_option linter.unusedSimpArgs false
namespace Go.Proofs.YtkimkgbppegkhaaGreat.Cm
open Go Go.RowKit
/-- temporaries, listed -/
noncomputable def tl(l:List (Nat×V)):Tm:=fun t=>@List.rec (Nat×V) (fun _=>Option V) none (fun p _ ih=>@Bool.rec (fun _=>Option V) ih (some p.2) (Nat.beq t p.1)) l
theorem sb(d:Nat)(v:V)(l:List (Nat×V)):tl ((d,v)::l)=bR (tl l) (some d) v:=by
 funext t
 show@Bool.rec (fun _=>Option V) (tl l t) (some v) (Nat.beq t d)=_
 simp only[bR,T.bool_rec]
 by_cases h:t=d
 ·simp[h]
 ·simp[h]
noncomputable def pA(P:Program)(f:Nat):Code:=match P.funcs[f]? with | some fn=>(match fn.body with | some c=>c | none=>.skip) | none=>.skip
noncomputable def fF(P:Program)(f:Nat):Nat:=match P.funcs[f]? with | some fn=>fn.ntmps | none=>0
noncomputable def iV(i:Nat):Code→Code
 |.seq a b=>match i with | 0=>a | _=>b
 |.cond _ a b=>match i with | 0=>a | _=>b
 |.block _ a=>a
 |.loop a=>a
 |_=>.skip
/-- the code at a path, which is read from its end -/
noncomputable def aH(P:Program)(f:Nat):List Nat→Code
 |[]=>pA P f
 |i::p=>iV i (aH P f p)
noncomputable def b0:Code→Nat
 |.skip=>0
 |.exit _=>1
 |.ret=>2
 |.region _ _ d=>match d with | false=>3 | true=>4
 |.seq ..=>5
 |.cond ..=>6
 |.block ..=>7
 |.loop _=>8
 |_=>9
noncomputable def cz:Code→Array Oper
 |.region _ ops _=>ops
 |_=>#[]
noncomputable def tq:Code→Option Nat
 |.exit i=>some i
 |_=>none
noncomputable def rW:Code→Option Nat
 |.block i _=>some i
 |_=>none
noncomputable def l3:Code→Operand
 |.cond x _ _=>x
 |_=>.tmp 0
abbrev Ko:=Exit→Tm→Heap→Nat→Prop
section
variable {P:Program} {f:Nat} {p:List Nat} {A B:Tm} {H:Heap} {n:Nat} {K:Ko}
/-- the code at a path comes to what is wanted -/
def To(P:Program)(f:Nat)(p:List Nat)(A:Tm)(H:Heap)(n:Nat)(K:Ko):Prop:=∃x A' H' n',bw P (fF P f) (aH P f p) A H n x A' H' n'∧K x A' H' n'
/-- a loop's rounds come to what is wanted -/
def aC(P:Program)(f:Nat)(p:List Nat)(A:Tm)(H:Heap)(n:Nat)(K:Ko):Prop:=∃x A' H' n',dH P (fF P f) (aH P f p) A H n x A' H' n'∧K x A' H' n'
theorem To.imp{K':Ko}(h:To P f p A H n K')(hK:∀x A' H' n',K' x A' H' n'→K x A' H' n'):To P f p A H n K:=by
 obtain⟨x,A',H',n',h1,h2⟩:=h
 exact⟨x,A',H',n',h1,hK _ _ _ _ h2⟩
theorem To.keep(B:Tm)(h:To P f p B H n K)(hB:∀t v,B t=some v→A t=some v):To P f p A H n K:=by
 obtain⟨x,A',H',n',h1,h2⟩:=h
 exact⟨x,A',H',n',h1.weak hB (fun _ _ h=>h) (fun _ _ h=>h) (Nat.le_refl _),h2⟩
theorem To.skip(hk:b0 (aH P f p)=0)(h:K .normal A H n):To P f p A H n K:=by
 cases hc:aH P f p<;>rw[hc]at hk<;>first
  |exact⟨_,_,_,_,by rw[hc];exact bw.skip,h⟩
  |(simp only[b0]at hk; split at hk<;>cases hk; done)
  |cases hk
theorem To.exit(i:Nat)(hk:tq (aH P f p)=some i)(h:K (.exit i) A H n):To P f p A H n K:=by
 cases hc:aH P f p<;>rw[hc]at hk<;>first
  |(cases hk;exact⟨_,_,_,_,by rw[hc];exact bw.exit,h⟩)
  |cases hk
theorem To.ret(hk:b0 (aH P f p)=2)(h:K .ret A H n):To P f p A H n K:=by
 cases hc:aH P f p<;>rw[hc]at hk<;>first
  |exact⟨_,_,_,_,by rw[hc];exact bw.ret,h⟩
  |(simp only[b0]at hk; split at hk<;>cases hk; done)
  |cases hk
/-- behind the first of two -/
@[reducible] def er (P:Program) (f:Nat) (p:List Nat) (K:Ko):Ko:=fun x A H n=>match x with
 |.normal=>To P f p A H n K
 |x=>K x A H n
theorem To.seq(hk:b0 (aH P f p)=5)(h:To P f (0::p) A H n (er P f (1::p) K)):To P f p A H n K:=by
 cases hc:aH P f p<;>rw[hc]at hk<;>first
  |(simp only[b0]at hk; split at hk<;>cases hk; done)
  |(cases hk;done)
  |skip
 rename_i a b
 obtain⟨x,A1,H1,n1,h1,h2⟩:=h
 have e0:aH P f (0::p)=a:=by show iV 0 (aH P f p)=a;rw[hc];rfl
 have e1:aH P f (1::p)=b:=by show iV 1 (aH P f p)=b;rw[hc];rfl
 rw[e0]at h1
 by_cases hx:x=.normal
 ·subst hx
  obtain⟨y,A2,H2,n2,h3,h4⟩:=h2
  rw[e1]at h3
  exact⟨y,A2,H2,n2,by rw[hc];exact bw.seq h1 h3,h4⟩
 ·refine⟨x,A1,H1,n1,by rw[hc];exact bw.seq_out h1 hx,?_⟩
  cases x<;>first
   |exact absurd rfl hx
   |exact h2
theorem To.ifT(hk:b0 (aH P f p)=6)(hc:aZ A (l3 (aH P f p))=some (vf (.bool true)))(h:To P f (0::p) A H n K):To P f p A H n K:=by
 cases hd:aH P f p<;>rw[hd]at hk<;>first
  |(simp only[b0]at hk; split at hk<;>cases hk; done)
  |(cases hk;done)
  |skip
 rename_i x a b
 obtain⟨y,A1,H1,n1,h1,h2⟩:=h
 have e0:aH P f (0::p)=a:=by show iV 0 (aH P f p)=a;rw[hd];rfl
 rw[e0]at h1
 rw[hd]at hc
 exact⟨y,A1,H1,n1,by rw[hd];exact bw.cond (b:=true) hc h1,h2⟩
theorem To.ifF(hk:b0 (aH P f p)=6)(hc:aZ A (l3 (aH P f p))=some (vf (.bool false)))(h:To P f (1::p) A H n K):To P f p A H n K:=by
 cases hd:aH P f p<;>rw[hd]at hk<;>first
  |(simp only[b0]at hk; split at hk<;>cases hk; done)
  |(cases hk;done)
  |skip
 rename_i x a b
 obtain⟨y,A1,H1,n1,h1,h2⟩:=h
 have e0:aH P f (1::p)=b:=by show iV 1 (aH P f p)=b;rw[hd];rfl
 rw[e0]at h1
 rw[hd]at hc
 exact⟨y,A1,H1,n1,by rw[hd];exact bw.cond (b:=false) hc (by simpa using h1),h2⟩
theorem To.ifB(b:Bool)(hk:b0 (aH P f p)=6)(hc:aZ A (l3 (aH P f p))=some (vf (.bool b)))(h1:b=true→To P f (0::p) A H n K)(h2:b=false→To P f (1::p) A H n K):To P f p A H n K:=by
 cases b with
 |true=>exact To.ifT hk hc (h1 rfl)
 |false=>exact To.ifF hk hc (h2 rfl)
/-- behind a block -/
@[reducible] noncomputable def pk (id:Nat) (K:Ko):Ko:=fun x A H n=>match x with
 |.exit j=>match Nat.beq j id with
  |true=>K .normal A H n
  |false=>K (.exit j) A H n
 |x=>K x A H n
theorem To.block(id:Nat)(hk:rW (aH P f p)=some id)(h:To P f (0::p) A H n (pk id K)):To P f p A H n K:=by
 cases hc:aH P f p<;>rw[hc]at hk<;>first
  |(cases hk;done)
  |skip
 rename_i id' a
 cases hk
 obtain⟨x,A1,H1,n1,h1,h2⟩:=h
 have e0:aH P f (0::p)=a:=by show iV 0 (aH P f p)=a;rw[hc];rfl
 rw[e0]at h1
 refine⟨mD id x,A1,H1,n1,by rw[hc];exact bw.block h1,?_⟩
 cases x<;>first
  |exact h2
  |skip
 rename_i j
 simp only[pk]at h2
 simp only[mD]
 split at h2
 ·rename_i hj
  rw[if_pos (Nat.eq_of_beq_eq_true hj)]
  exact h2
 ·rename_i hj
  rw[if_neg (Nat.ne_of_beq_eq_false hj)]
  exact h2
theorem To.loop(hk:b0 (aH P f p)=8)(h:aC P f (0::p) A H n K):To P f p A H n K:=by
 cases hc:aH P f p<;>rw[hc]at hk<;>first
  |(simp only[b0]at hk; split at hk<;>cases hk; done)
  |(cases hk;done)
  |skip
 rename_i a
 obtain⟨x,A1,H1,n1,h1,h2⟩:=h
 have e0:aH P f (0::p)=a:=by show iV 0 (aH P f p)=a;rw[hc];rfl
 rw[e0]at h1
 exact⟨x,A1,H1,n1,by rw[hc];exact bw.loop h1,h2⟩
@[reducible] def Gj (P:Program) (f:Nat) (p:List Nat) (K:Ko):Ko:=fun x A H n=>match x with
 |.normal=>aC P f p A H n K
 |x=>K x A H n
theorem aC.round(h:To P f p A H n (Gj P f p K)):aC P f p A H n K:=by
 obtain⟨x,A1,H1,n1,h1,h2⟩:=h
 by_cases hx:x=.normal
 ·subst hx
  obtain⟨y,A2,H2,n2,h3,h4⟩:=h2
  exact⟨y,A2,H2,n2,dH.more h1 h3,h4⟩
 ·refine⟨x,A1,H1,n1,dH.last h1 hx,?_⟩
  cases x<;>first
   |exact absurd rfl hx
   |exact h2
theorem dH.weak_in{m:Nat}{c:Code}{A B A':Tm}{H H':Heap}{n n':Nat}{x:Exit}(h:dH P m c B H n x A' H' n')(hB:∀t v,B t=some v→A t=some v):dH P m c A H n x A' H' n':=by
 obtain⟨h1,k,h2⟩:=h
 exact⟨h1,k,fun ε a w Q RA R hf hQ=>h2 ε a w Q (RA.sub hB) R hf hQ⟩
theorem aC.keep(B:Tm)(h:aC P f p B H n K)(hB:∀t v,B t=some v→A t=some v):aC P f p A H n K:=by
 obtain⟨x,A',H',n',h1,h2⟩:=h
 exact⟨x,A',H',n',h1.weak_in hB,h2⟩
theorem aC.imp{K':Ko}(h:aC P f p A H n K')(hK:∀x A' H' n',K' x A' H' n'→K x A' H' n'):aC P f p A H n K:=by
 obtain⟨x,A',H',n',h1,h2⟩:=h
 exact⟨x,A',H',n',h1,hK _ _ _ _ h2⟩
/-- what is listed is there -/
noncomputable def aL(A:Tm):List (Nat×V)→Prop
 |[]=>True
 |q::r=>A q.1=some q.2∧aL A r
theorem aL.sub{A:Tm}:∀{l:List (Nat×V)},aL A l→∀t v,tl l t=some v→A t=some v
 |[],_,t,v,h=>by cases h
 |(d,u)::l,hl,t,v,h=>by
  rw[sb]at h
  simp only[bR]at h
  by_cases e:t=d
  ·subst e;rw[if_pos rfl]at h;cases h;exact hl.1
  ·rw[if_neg e]at h;exact aL.sub hl.2 t v h
/-- operations of a region, from one on -/
def Sg(P:Program)(f:Nat)(p:List Nat)(i:Nat)(A:Tm)(H:Heap)(n:Nat)(K:Ko):Prop:=
 ∃A' H' n',(cP H n H' n'∧∀ε a w (Q:Exit→Act→World→Prop),cB ε (fF P f) A a→bh ε H w→cI ε n n'→(∀ε' a' w',cB ε' (fF P f) A' a'→bt ε H n w ε' H' n' w'→Q .normal a' w')→
  wpOps P (cz (aH P f p)) Q (List.range' i ((cz (aH P f p)).size-i)) a w)∧K .normal A' H' n'
theorem To.region(hk:b0 (aH P f p)=3)(h:Sg P f p 0 A H n K):To P f p A H n K:=by
 cases hc:aH P f p<;>rw[hc]at hk<;>first
  |(cases hk;done)
  |skip
 rename_i id ops d
 cases d with
 |true=>cases hk
 |false=>
  obtain⟨A',H',n',⟨h1,h2⟩,h3⟩:=h
  refine⟨.normal,A',H',n',⟨h1,fun ε a w Q RA R hf hQ=>?_⟩,h3⟩
  rw[hc]at h2⊢
  have:=h2 ε a w Q RA R hf hQ
  refine wp_region ?_
  rw[List.range_eq_range']
  exact this
theorem Sg.done{i:Nat}(hi:Nat.ble (cz (aH P f p)).size i=true)(h:K .normal A H n):Sg P f p i A H n K:=by
 have hi:=Nat.le_of_ble_eq_true hi
 refine⟨A,H,n,⟨cP.refl _ _,fun ε a w Q RA R hf hQ=>?_⟩,h⟩
 rw[show(cz (aH P f p)).size-i=0 by omega]
 exact hQ ε a w RA (bt.refl R)
theorem Sg.keep{i:Nat}(l:List (Nat×V))(hl:aL A l)(h:Sg P f p i (tl l) H n K):Sg P f p i A H n K:=by
 obtain⟨A',H',n',⟨h1,h2⟩,h3⟩:=h
 exact⟨A',H',n',⟨h1,fun ε a w Q RA R hf hQ=>h2 ε a w Q (RA.sub hl.sub) R hf hQ⟩,h3⟩
/-- the operation -/
noncomputable def bH(P:Program)(f:Nat)(p:List Nat)(i:Nat):Oper:=(cz (aH P f p)).getD i default
/-- it is there, and it is wanted or not; where its value goes -/
noncomputable def eu(P:Program)(f:Nat)(p:List Nat)(i:Nat)(A:Tm):Option (Bool×Option Tmp):=match(cz (aH P f p))[i]? with
 |some o=>match pR (fF P f) o,cF (cz (aH P f p)) A o with
  |true,some b=>some (b,o.dst)
  |_,_=>none
 |none=>none
noncomputable def ey(l:List (Nat×V))(d:Option Tmp)(v:V):List (Nat×V):=match d with | some d=>(d,v)::l | none=>l
theorem k9(l:List (Nat×V))(d:Option Tmp)(v:V):tl (ey l d v)=bR (tl l) d v:=by
 cases d with
 |none=>rfl
 |some d=>exact sb d v l
theorem kI{i:Nat}{b:Bool}{d:Option Tmp}(h:eu P f p i A=some (b,d)):(cz (aH P f p))[i]?=some (bH P f p i)∧(∀e,(bH P f p i).dst=some e→e<fF P f)∧cF (cz (aH P f p)) A (bH P f p i)=some b∧(bH P f p i).dst=d:=by
 unfold eu at h
 split at h
 ·rename_i o ho
  have e:bH P f p i=o:=by
   unfold bH
   rw[Array.getD_eq_getD_getElem?,ho]
   rfl
  rw[e]
  split at h
  ·rename_i h1 h2
   cases h
   refine⟨ho,fun e he=>?_,h2,rfl⟩
   simp only[pR,he,Bool.and_eq_true,decide_eq_true_eq]at h1
   exact h1.1
  ·cases h
 ·cases h
theorem Sg.op{i:Nat}{l:List (Nat×V)}{v:V}{H1:Heap}{n1:Nat}(d:Option Tmp)(h:eu P f p i (tl l)=some (true,d))(J:aE P (bH P f p i) (aZ (tl l)) H n v H1 n1)(k:Sg P f p (i+1) (tl (ey l d v)) H1 n1 K):Sg P f p i (tl l) H n K:=by
 obtain⟨h1,h2,h3,h4⟩:=kI h
 obtain⟨A',H',n',⟨k1,k2⟩,k3⟩:=k
 have hi:i<(cz (aH P f p)).size:=(Array.getElem?_eq_some_iff.1 h1).1
 refine⟨A',H',n',⟨J.good.trans k1,fun ε a w Q RA R hf hQ=>?_⟩,k3⟩
 rw[show(cz (aH P f p)).size-i=((cz (aH P f p)).size-(i+1))+1 by omega,List.range'_succ]
 simp only[wpOps,h1,i7 h3 RA,if_true]
 refine .inl (pB J RA R (hf.sub (Nat.le_refl _) k1.1) fun ε' rv w' g1 S=>?_)
 rw[k9]at k2
 refine k2 ε' _ w' Q ?_ S.rel (S.free (hf.sub J.le (Nat.le_refl _)) (.inl (Nat.le_refl _))) fun ε2 a2 w2 RA2 S2=>hQ ε2 a2 w2 RA2 (S.trans S2)
 rw[←h4]
 exact(RA.mono S.ext).put h2 g1
theorem Sg.skip{i:Nat}{l:List (Nat×V)}(d:Option Tmp)(h:eu P f p i (tl l)=some (false,d))(k:Sg P f p (i+1) (tl (ey l d cy)) H n K):Sg P f p i (tl l) H n K:=by
 obtain⟨h1,h2,h3,h4⟩:=kI h
 obtain⟨A',H',n',⟨k1,k2⟩,k3⟩:=k
 have hi:i<(cz (aH P f p)).size:=(Array.getElem?_eq_some_iff.1 h1).1
 refine⟨A',H',n',⟨k1,fun ε a w Q RA R hf hQ=>?_⟩,k3⟩
 rw[show(cz (aH P f p)).size-i=((cz (aH P f p)).size-(i+1))+1 by omega,List.range'_succ]
 simp only[wpOps,h1,i7 h3 RA,Bool.false_eq_true,if_false]
 rw[k9]at k2
 refine k2 ε _ w Q ?_ R hf hQ
 rw[←h4]
 exact RA.put h2 (ri ε)
/-- operations that come to a value by themselves -/
noncomputable def jU(P:Program)(f:Nat)(p:List Nat)(i:Nat)(l:List (Nat×V)):Option (List (Nat×V)):=match eu P f p i (tl l)with
 |some (true,d)=>match dx P (bH P f p i).op,jW (bH P f p i).op with
  |0,false=>match stepOp P (bH P f p i).op (aZ (tl l)) (fun _=>none) 0 with
   |some ef=>some (ey l d ef.1)
   |none=>none
  |_,_=>none
 |some (false,d)=>some (ey l d cy)
 |none=>none
noncomputable def fi(P:Program)(f:Nat)(p:List Nat):Nat→Nat→List (Nat×V)→Option (List (Nat×V))
 |0,_,l=>some l
 |k+1,i,l=>match jU P f p i l with
  |some l'=>fi P f p k (i+1) l'
  |none=>none
theorem Sg.self1{i:Nat}{l l':List (Nat×V)}(h:jU P f p i l=some l')(k:Sg P f p (i+1) (tl l') H n K):Sg P f p i (tl l) H n K:=by
 unfold jU at h
 split at h
 ·rename_i d hs
  split at h
  ·rename_i hc hr
   split at h
   ·rename_i ef hst
    cases h
    have hq:bY P (bH P f p i).op=.quiet:=by
     unfold dx at hc
     split at hc
     ·assumption
     ·cases hc
     ·cases hc
    obtain⟨g1,g2⟩:=mi hq hst
    have hst':stepOp P (bH P f p i).op (aZ (tl l)) H n=some ef:=by rw[←hst];exact od hq hr
    have J:=aE.prim (P:=P) (o:=bH P f p i) ef hst'
    rw[g1,g2]at J
    exact Sg.op d hs J k
   ·cases h
  ·cases h
 ·rename_i d hs
  cases h
  exact Sg.skip d hs k
 ·cases h
theorem Sg.self{l l':List (Nat×V)}:∀(k:Nat) {i:Nat},fi P f p k i l=some l'→Sg P f p (i+k) (tl l') H n K→Sg P f p i (tl l) H n K:=by
 intro k
 induction k generalizing l with
 |zero=>intro i h hk;cases h;exact hk
 |succ k ih=>
  intro i h hk
  simp only[fi]at h
  split at h
  ·rename_i l1 h1
   exact Sg.self1 h1 (ih h (by rw[show i+1+k=i+(k+1)by omega];exact hk))
  ·cases h
noncomputable def iK(P:Program)(f:Nat)(p:List Nat)(k i:Nat)(l:List (Nat×V)):List (Nat×V):=match fi P f p k i l with | some l'=>l' | none=>[]
theorem Sg.go{l:List (Nat×V)}(k:Nat){i:Nat}(h:(fi P f p k i l).isSome=true)(hk:Sg P f p (i+k) (tl (iK P f p k i l)) H n K):Sg P f p i (tl l) H n K:=by
 cases hs:fi P f p k i l with
 |none=>rw[hs]at h;cases h
 |some l'=>
  refine Sg.self k hs ?_
  unfold iK at hk
  rw[hs]at hk
  exact hk
noncomputable def fU(A:Tm):List Nat→Option (List (Nat×V))
 |[]=>some []
 |t::r=>match A t,fU A r with
  |some v,some l=>some ((t,v)::l)
  |_,_=>none
theorem az{A:Tm}:∀{ts:List Nat} {l:List (Nat×V)},fU A ts=some l→aL A l
 |[],l,h=>by cases h;trivial
 |t::r,l,h=>by
  simp only[fU]at h
  split at h
  ·rename_i v l' h1 h2
   cases h
   exact⟨h1,az h2⟩
  ·cases h
theorem To.only(ts:List Nat)(l:List (Nat×V))(h:fU A ts=some l)(k:To P f p (tl l) H n K):To P f p A H n K:=To.keep _ k (az h).sub
theorem aC.only(ts:List Nat)(l:List (Nat×V))(h:fU A ts=some l)(k:aC P f p (tl l) H n K):aC P f p A H n K:=aC.keep _ k (az h).sub
theorem Sg.only{i:Nat}(ts:List Nat)(l:List (Nat×V))(h:fU A ts=some l)(k:Sg P f p i (tl l) H n K):Sg P f p i A H n K:=Sg.keep _ (az h) k
/-- what a function yields at its end -/
noncomputable def j8(P:Program)(f:Nat)(A:Tm)(H:Heap):Option V:=match P.funcs[f]? with
 |some fn=>match c_ P A H fn.results.toList with
  |some vs=>g_ vs
  |none=>none
 |none=>none
def nj(P:Program)(f:Nat)(Post:V→Heap→Nat→Prop):Ko:=fun x A H n=>(x=.normal∨x=.ret)∧∃v,j8 P f A H=some v∧Post v H n
noncomputable def js:List V→Nat→List (Nat×V)
 |[],_=>[]
 |v::r,k=>(k,v)::js r (k+1)
theorem xz:∀(args:List V) (k:Nat) (t:Nat) (v:V),tl (js args k) t=some v→k≤t∧args[t-k]?=some v
 |[],k,t,v,h=>by cases h
 |u::r,k,t,v,h=>by
  simp only[js]at h
  rw[sb]at h
  simp only[bR]at h
  by_cases e:t=k
  ·subst e;rw[if_pos rfl]at h;cases h;simp
  ·rw[if_neg e]at h
   obtain⟨h1,h2⟩:=xz r (k+1) t v h
   refine⟨om,?_⟩
   rw[show t-k=(t-(k+1))+1 by omega,List.getElem?_cons_succ]
   exact h2
noncomputable def lm(P:Program)(f:Nat)(k:Nat):Bool:=match P.funcs[f]? with | some fn=>(match fn.body with | some _=>Nat.ble k fn.ntmps | none=>false) | none=>false
theorem aS.of_to{args:List V}{Post:V→Heap→Nat→Prop}(hb:lm P f args.length=true)(h:To P f [] (tl (js args 0)) H n (nj P f Post)):∃v H' n',aS P f args H n v H' n'∧Post v H' n':=by
 unfold lm at hb
 split at hb
 ·rename_i fn hf
  split at hb
  ·rename_i c hc
   obtain⟨x,A',H',n',h1,h2,v,h3,h4⟩:=h
   have e1:aH P f []=c:=by simp only[aH,pA,hf,hc]
   have e2:fF P f=fn.ntmps:=by simp only[fF,hf]
   rw[e1,e2]at h1
   simp only[j8,hf]at h3
   split at h3
   ·rename_i vs hvs
    refine⟨v,H',n',aS.of_runs hf hc (Nat.le_of_ble_eq_true hb) (h1.weak (fun t v ht=>?_) (fun _ _ h=>h) (fun _ _ h=>h) (Nat.le_refl _)) h2 hvs h3,h4⟩
    have:=(xz args 0 t v ht).2
    simpa[pO]using this
   ·cases h3
  ·cases hb
 ·cases hb
end
abbrev vi(n:Nat):V:=vf (.int .i64 (n:Int))
abbrev vb(n:Nat):V:=vf (.int .u8 (n:Int))
abbrev vw(n:Nat):V:=vf (.int .u32 (n:Int))
section
variable {P:Program} {H:Heap} {n:Nat} {o:Oper} {r:Operand→Option V}
noncomputable def dZ(o:Oper)(r:Operand→Option V):Option (BinOp×V×V):=match o.op with
 |.binOp op _ x y _=>match r x,r y with
  |some a,some b=>some (op,a,b)
  |_,_=>none
 |_=>none
theorem au{op:BinOp}{a b:V}{z:F}(h:∀t,aU P op t a b=some z)(hk:dZ o r=some (op,a,b):=by kernel_rfl):aE P o r H n (vf z) H n:=by
 unfold dZ at hk
 split at hk
 ·rename_i op' t' x y t'' ho
  split at hk
  ·rename_i a' b' hx hy
   cases hk
   exact .prim (vf z,[],0) (by simp only[ho,stepOp,hx,hy,h,Option.map_some])
  ·cases hk
 ·cases hk
noncomputable def lI(o:Oper)(r:Operand→Option V):Option (Nat×List V):=match o.op with
 |.call {callee:=.value f,args:=xs,..}=>match r f,ct r xs.toList with
  |some (.u (.fn g caps)),some l=>some (g,l++caps.map fun x=>.u (.f x))
  |_,_=>none
 |_=>none
theorem b_{g:Nat}{args:List V}{v:V}{H':Heap}{n':Nat}(hg:bX P g=true)(hc:aS P g args H n v H' n')(hk:lI o r=some (g,args):=by kernel_rfl):aE P o r H n v H' n':=by
 unfold lI at hk
 split at hk
 ·rename_i f xs ats ho
  split at hk
  ·rename_i g' caps l hf hl
   cases hk
   exact .call f xs ats g caps l v H' n' ho hf hl hg hc
  ·cases hk
 ·cases hk
noncomputable def zx(P:Program)(o:Oper)(r:Operand→Option V):Option (IntKind×Int):=match o.op with
 |.convert s d x=>match P.underlying s,P.underlying d,r x with
  |some _,some (.int k),some (.u (.f (.int _ n)))=>some (k,n)
  |_,_,_=>none
 |_=>none
theorem eR{k:IntKind}{x z:Int}(h:k.wrap x=z)(hk:zx P o r=some (k,x):=by kernel_rfl):aE P o r H n (vf (.int k z)) H n:=by
 unfold zx at hk
 split at hk
 ·rename_i s d y ho
  split at hk
  ·rename_i h1 h2 h3
   cases hk
   exact .prim (vf (.int k z),[],0) (by simp only[ho,stepOp,h1,h2,h3,h])
  ·cases hk
 ·cases hk
section
theorem yi{k:IntKind}{x:Int}(h0:0≤x)(h:x≤cp k):k.wrap x=x:=by
 rw[←fM]
 cases x with
 |negSucc n=>omega
 |ofNat n=>
  show@Bool.rec (fun _=>Int) (k.wrap (.ofNat n)) (.ofNat n) (Nat.ble n (cp k))=_
  have:Nat.ble n (cp k)=true:=by rw[Nat.ble_eq];simpa using h
  rw[this]
theorem iP(k:IntKind)(x y z:Int)(h:k.wrap (x+y)=z)(t:TypeId):aU P .add t (vf (.int k x)) (vf (.int k y))=some (.int k z):=by
 simp only[aU,(eI k k).2 rfl,eB,fM,xR,h]
theorem zj(k:IntKind)(x y z:Int)(h:k.wrap (x-y)=z)(t:TypeId):aU P .sub t (vf (.int k x)) (vf (.int k y))=some (.int k z):=by
 simp only[aU,(eI k k).2 rfl,eB,fM,xV,h]
theorem p7(k:IntKind)(x y z:Int)(h:k.wrap (x*y)=z)(t:TypeId):aU P .mul t (vf (.int k x)) (vf (.int k y))=some (.int k z):=by
 simp only[aU,(eI k k).2 rfl,eB,fM,oI,h]
theorem G8(k:IntKind)(x y z:Int)(h0:y≠0)(h:k.wrap (x.tdiv y)=z)(t:TypeId):aU P .quo t (vf (.int k x)) (vf (.int k y))=some (.int k z):=by
 have:c6 y 0=false:=by rw[ft];simpa using h0
 simp only[aU,(eI k k).2 rfl,eB,this,fM,xG,h]
theorem zp(k:IntKind)(x y:Int)(h0:y≠0)(t:TypeId):aU P .rem t (vf (.int k x)) (vf (.int k y))=some (.int k (x.tmod y)):=by
 have:c6 y 0=false:=by rw[ft];simpa using h0
 simp only[aU,(eI k k).2 rfl,eB,this,xZ]
theorem zB(k:IntKind)(x y:Int)(t:TypeId):aU P .lss t (vf (.int k x)) (vf (.int k y))=some (.bool (decide (x<y))):=by
 simp only[aU,(eI k k).2 rfl,eB,jV]
theorem zC(k:IntKind)(x y:Int)(t:TypeId):aU P .gtr t (vf (.int k x)) (vf (.int k y))=some (.bool (decide (y<x))):=by
 simp only[aU,(eI k k).2 rfl,eB,jV]
theorem zm(k:IntKind)(x y:Int)(t:TypeId):aU P .leq t (vf (.int k x)) (vf (.int k y))=some (.bool (decide (x≤y))):=by
 simp only[aU,(eI k k).2 rfl,eB,jV]
 congr 2
 rw[Bool.eq_iff_iff];simp
theorem zu(k:IntKind)(x y:Int)(t:TypeId):aU P .geq t (vf (.int k x)) (vf (.int k y))=some (.bool (decide (y≤x))):=by
 simp only[aU,(eI k k).2 rfl,eB,jV]
 congr 2
 rw[Bool.eq_iff_iff];simp
theorem zk(k:IntKind)(x y:Int)(t:TypeId):aU P .eql t (vf (.int k x)) (vf (.int k y))=some (.bool (decide (x=y))):=by
 simp only[aU,(eI k k).2 rfl,eB,ft]
 congr 2
theorem pI(k:IntKind)(x y:Int)(t:TypeId):aU P .neq t (vf (.int k x)) (vf (.int k y))=some (.bool (decide (x≠y))):=by
 simp only[aU,(eI k k).2 rfl,eB,ft]
 congr 2
 rw[Bool.eq_iff_iff];simp
theorem sX{k:IntKind}{op:BinOp}{x y z:Int}(hop:op=.and∨op=.or∨op=.xor∨op=.andNot)(h:pS op k x y=some z)(t:TypeId):aU P op t (vf (.int k x)) (vf (.int k y))=some (.int k z):=by
 rcases hop with rfl | rfl | rfl | rfl<;>simp only[aU,(eI k k).2 rfl,eB,h]
theorem pK(k:IntKind)(a b:Nat)(ha:a≤cp k)(hb:b≤cp k)(t:TypeId):aU P .and t (vf (.int k a)) (vf (.int k b))=some (.int k ((a &&& b:Nat):Int)):=by
 refine sX (.inl rfl) ?_ t
 show(match Nat.ble a (cp k),Nat.ble b (cp k)with | true,true=>nd .and k a b | _,_=>gp .and k a b)=_
 rw[Nat.ble_eq_true_of_le ha,Nat.ble_eq_true_of_le hb]
 rfl
theorem iQ(k:IntKind)(a b:Nat)(ha:a≤cp k)(hb:b≤cp k)(hz:a ^^^ b≤cp k)(t:TypeId):aU P .xor t (vf (.int k a)) (vf (.int k b))=some (.int k ((a ^^^ b:Nat):Int)):=by
 refine sX (.inr (.inr (.inl rfl))) ?_ t
 show(match Nat.ble a (cp k),Nat.ble b (cp k)with | true,true=>nd .xor k a b | _,_=>gp .xor k a b)=_
 rw[Nat.ble_eq_true_of_le ha,Nat.ble_eq_true_of_le hb]
 show some (ew k ((a ^^^ b:Nat):Int))=_
 rw[fM,yi om om]
theorem tu(k j:IntKind)(a s z:Nat)(h:k.wrap ((a*2 ^ (min s k.bits):Nat):Int)=(z:Int))(t:TypeId):aU P .shl t (vf (.int k a)) (vf (.int j s))=some (.int k (z:Int)):=by
 show py .shl k a s=_
 show some (F.int k (ew k (nl (a:Int) (.ofNat (Nat.pow 2 (min s k.bits))))))=_
 rw[fM,oI]
 congr 2
theorem gq(k j:IntKind)(a s:Nat)(t:TypeId):aU P .shr t (vf (.int k a)) (vf (.int j s))=some (.int k ((a/2 ^ (min s k.bits):Nat):Int)):=rfl
end
end
end Go.Proofs.YtkimkgbppegkhaaGreat.Cm
namespace Go.Proofs.YtkimkgbppegkhaaGreat.Cm
section
variable {P:Program} {H:Heap} {n:Nat} {o:Oper} {r:Operand→Option V}
noncomputable def cL{α:Type}(b:Bool)(x:Option α):Option α:=match b with | true=>x | false=>none
theorem cD{α:Type}{b:Bool}{x:Option α}{y:α}(h:cL b x=some y):b=true∧x=some y:=by cases b<;>simp_all [cL]
noncomputable def tx(P:Program)(o:Oper)(r:Operand→Option V):Option (Nat×Nat×Nat×Nat×Nat):=match o.op with
 |.indexAddr t x i=>match r x,r i with
  |some (.u (.f (.sl id off sz len _))),some iv=>match dP iv,P.underlying t with
   |some k,some (.slice e)=>match cj P e with
    |some sz'=>cL (Nat.beq sz' sz) (some (id,off,sz,len,k))
    |none=>none
   |_,_=>none
  |_,_=>none
 |_=>none
theorem bD{id off sz len k:Nat}(hi:k<len)(hk:tx P o r=some (id,off,sz,len,k):=by kernel_rfl):aE P o r H n (vf (.ptr id (off+k*sz))) H n:=by
 unfold tx at hk
 split at hk
 ·rename_i t x i ho
  split at hk
  ·rename_i id' off' sz' len' cap iv hx hiv
   split at hk
   ·rename_i k' e h1 h2
    split at hk
    ·rename_i s hs
     obtain⟨g1,g2⟩:=cD hk
     have g1:=Nat.eq_of_beq_eq_true g1
     subst g1
     cases g2
     exact .prim (vf (.ptr id (off+k*sz)),[],0) (by simp only[ho,stepOp,hx,hiv,h1,h2,hs,hi,and_self,if_true])
    ·cases hk
   ·cases hk
  ·cases hk
 ·cases hk
noncomputable def zt(P:Program)(o:Oper)(r:Operand→Option V):Option (Nat×Nat×Nat×Nat×Nat):=match o.op with
 |.indexAddr t x i=>match r x,r i with
  |some (.u (.f (.ptr id off))),some iv=>match dP iv,P.underlying t with
   |some k,some (.array len e)=>match cj P e with
    |some sz=>some (id,off,sz,len,k)
    |none=>none
   |_,_=>none
  |_,_=>none
 |_=>none
theorem jk{id off sz len k:Nat}(hi:k<len)(hk:zt P o r=some (id,off,sz,len,k):=by kernel_rfl):aE P o r H n (vf (.ptr id (off+k*sz))) H n:=by
 unfold zt at hk
 split at hk
 ·rename_i t x i ho
  split at hk
  ·rename_i id' off' iv hx hiv
   split at hk
   ·rename_i k' e h1 h2 h3
    split at hk
    ·rename_i s hs
     cases hk
     exact .prim (vf (.ptr id (off+k*sz)),[],0) (by simp only[ho,stepOp,hx,hiv,h2,h3,hs,hi,if_true])
    ·cases hk
   ·cases hk
  ·cases hk
 ·cases hk
/-- a load: which cells, and how many of them if it is of an aggregate -/
noncomputable def l8(P:Program)(o:Oper)(r:Operand→Option V):Option (Nat×Nat):=match o.op with
 |.load t a=>match r a with
  |some (.u (.f (.ptr id off)))=>match h_ P t,cj P t with
   |some false,some _=>some (id,off)
   |_,_=>none
  |_=>none
 |_=>none
theorem am{id off:Nat}{cs:List F}{ex:Bool}{x:F}(hh:H id=some (.cells cs ex))(hx:cs[off]?=some x)(hk:l8 P o r=some (id,off):=by kernel_rfl):aE P o r H n (vf x) H n:=by
 unfold l8 at hk
 split at hk
 ·rename_i t a ho
  split at hk
  ·rename_i id' off' ha
   split at hk
   ·rename_i s h1 h2
    cases hk
    exact .prim (vf x,[],0) (by simp only[ho,stepOp,ha,hh,h1,h2,hx])
   ·cases hk
  ·cases hk
 ·cases hk
noncomputable def qe(P:Program)(o:Oper)(r:Operand→Option V):Option (Nat×Nat×Nat):=match o.op with
 |.load t a=>match r a with
  |some (.u (.f (.ptr id off)))=>match h_ P t,cj P t with
   |some true,some sz=>some (id,off,sz)
   |_,_=>none
  |_=>none
 |_=>none
theorem Gs{id off sz:Nat}{cs:List F}{ex:Bool}(hh:H id=some (.cells cs ex))(hx:off+sz≤cs.length)(hk:qe P o r=some (id,off,sz):=by kernel_rfl):aE P o r H n (.u (.agg ((cs.drop off).take sz))) H n:=by
 unfold qe at hk
 split at hk
 ·rename_i t a ho
  split at hk
  ·rename_i id' off' ha
   split at hk
   ·rename_i s h1 h2
    cases hk
    exact .prim (.u (.agg ((cs.drop off).take sz)),[],0) (by simp only[ho,stepOp,ha,hh,h1,h2,hx,if_true])
   ·cases hk
  ·cases hk
 ·cases hk
noncomputable def tC(P:Program)(o:Oper)(r:Operand→Option V):Option Nat:=match o.op with
 |.call {callee:=.builtin .len,args:=xs,argTypes:=ats}=>match ct r xs.toList,ats[0]? with
  |some [.u (.f x)],some t=>match P.underlying t with
   |some (.slice _)=>cd x
   |_=>none
  |_,_=>none
 |_=>none
theorem fC{l:Nat}(hk:tC P o r=some l:=by kernel_rfl):aE P o r H n (vi l) H n:=by
 unfold tC at hk
 split at hk
 ·rename_i xs ats ho
  split at hk
  ·rename_i x t h1 h2
   split at hk
   ·rename_i e h3
    exact .prim (vi l,[],0) (by simp only[ho,stepOp,h1,cK,h2,gy,h3,hk])
   ·cases hk
  ·cases hk
 ·cases hk
noncomputable def kp(P:Program)(o:Oper)(r:Operand→Option V):Option (Nat×Nat×List F):=match o.op with
 |.store t a x=>match r a,r x with
  |some (.u (.f (.ptr id off))),some v=>match iG v,cj P t with
   |some new,some sz=>cL (Nat.beq new.length sz) (some (id,off,new))
   |_,_=>none
  |_,_=>none
 |_=>none
theorem sV{id off:Nat}{new cs:List F}{ex:Bool}(hh:H id=some (.cells cs ex))(hle:off+new.length≤cs.length)(hk:kp P o r=some (id,off,new):=by kernel_rfl):aE P o r H n cy (upd H id (some (.cells (aJ cs off new) ex))) n:=by
 unfold kp at hk
 split at hk
 ·rename_i t a x ho
  split at hk
  ·rename_i id' off' v ha hx
   split at hk
   ·rename_i new' sz h1 h2
    obtain⟨g1,g2⟩:=cD hk
    have g1:=Nat.eq_of_beq_eq_true g1
    cases g2
    exact .prim (cy,[(id,some (.cells (aJ cs off new) ex))],0) (by simp only[ho,stepOp,ha,hx,hh,h1,h2,g1,true_and];rw[g1]at hle;rw[if_pos hle])
   ·cases hk
  ·cases hk
 ·cases hk
noncomputable def qB(P:Program)(o:Oper)(r:Operand→Option V):Option (TI×Nat):=match o.op with
 |.makeSlice t l c=>match eN P t,r l,r c with
  |some e,some vl,some vc=>match dz P e,dP vl,dP vc with
   |some ti,some a,some b=>cL (match l,c with | .tmp i,.tmp j=>Nat.beq i j | _,_=>Nat.beq a b) (cL (Nat.ble 1 ti.size) (cL (Nat.ble 1 ti.bytes) (cL (Nat.beq ti.zero.length ti.size) (some (ti,a)))))
   |_,_,_=>none
  |_,_,_=>none
 |_=>none
theorem pQ{ti:TI}{a:Nat}(ha:a*ti.bytes≤140737488355328)(hk:qB P o r=some (ti,a):=by kernel_rfl):aE P o r H n (vf (.sl n 0 ti.size a none)) (upd H n (some (.cells (ci ti.zero a) true))) (n+1):=by
 unfold qB at hk
 split at hk
 ·rename_i t l c ho
  split at hk
  ·rename_i e vl vc h1 h2 h3
   split at hk
   ·rename_i ti' a' b' h4 h5 h6
    obtain⟨g1,hk⟩:=cD hk
    obtain⟨g2,hk⟩:=cD hk
    obtain⟨g3,hk⟩:=cD hk
    obtain⟨g4,hk⟩:=cD hk
    cases hk
    have e:l=c→a=b':=by rintro rfl;rw[h2]at h3;cases h3;rw[h5]at h6;cases h6;rfl
    have e2:a=b':=by
     split at g1
     ·exact e (by rw[Nat.eq_of_beq_eq_true g1])
     ·exact Nat.eq_of_beq_eq_true g1
    subst e2
    have g2:=Nat.le_of_ble_eq_true g2
    have g3:=Nat.le_of_ble_eq_true g3
    have g4:=Nat.eq_of_beq_eq_true g4
    exact .prim (vf (.sl n 0 ti.size a none),[(n,some (.cells (ci ti.zero a) true))],1) (by simp only[ho,stepOp,h1,h2,h3,h4,h5,h6];exact if_pos ⟨trivial,g2,g3,g4,ha⟩)
   ·cases hk
  ·cases hk
 ·cases hk
/-- what makes memory, of all that is known -/
noncomputable def mN(P:Program)(o:Oper)(r:Operand→Option V)(n:Nat):Option (V×O):=match dx P o.op with
 |1=>match stepOp P o.op r (fun _=>none) n with
  |some (v,[(_,some ob)],_)=>some (v,ob)
  |_=>none
 |_=>none
theorem mS{v:V}{ob:O}(hk:mN P o r n=some (v,ob):=by kernel_rfl):aE P o r H n v (upd H n (some ob)) (n+1):=by
 unfold mN at hk
 split at hk
 ·rename_i hc
  have hc:bY P o.op=.fresh:=by
   unfold dx at hc
   split at hc
   ·cases hc
   ·assumption
   ·cases hc
  split at hk
  ·rename_i v' k ob' j hs
   cases hk
   obtain⟨ob2,h1,h2⟩:=qQ hc hs
   cases h1
   cases h2
   rw[rp hc (h':=H)]at hs
   exact .prim _ hs
  ·cases hk
 ·cases hk
noncomputable def jA(P:Program)(o:Oper)(r:Operand→Option V):Option (Nat×Nat×F×F):=match o.op with
 |.call {callee:=.builtin .append,args:=xs,argTypes:=ats}=>match ct r xs.toList,ats[0]?,ats[1]? with
  |some [.u (.f s),.u (.f x)],some t,some t'=>match eN P t,P.underlying t' with
   |some e,some (.slice _)=>match dz P e with
    |some ti=>cL (Nat.ble 1 ti.size) (cL (Nat.ble 1 ti.bytes) (cL (Nat.beq ti.zero.length ti.size) (some (ti.size,ti.bytes,s,x))))
    |none=>none
   |_,_=>none
  |_,_,_=>none
 |_=>none
theorem fB{sz bytes m:Nat}{s x:F}{new:List F}{ef:Ef}(hx:aF H sz x=some new)(hm:cd x=some m)(ha:df H n sz bytes s new m=some ef)(hk:jA P o r=some (sz,bytes,s,x):=by kernel_rfl):aE P o r H n ef.1 (bL H ef.2.1) (n+ef.2.2):=by
 unfold jA at hk
 split at hk
 ·rename_i xs ats ho
  split at hk
  ·rename_i s' x' t t' h1 h2 h3
   split at hk
   ·rename_i e e' h4 h5
    split at hk
    ·rename_i ti h6
     obtain⟨g2,hk⟩:=cD hk
     obtain⟨g3,hk⟩:=cD hk
     obtain⟨g4,hk⟩:=cD hk
     cases hk
     have g2:=Nat.le_of_ble_eq_true g2
     have g3:=Nat.le_of_ble_eq_true g3
     have g4:=Nat.eq_of_beq_eq_true g4
     exact .prim ef (by simp only[ho,stepOp,h1,cK,h2,h3,jL,h4,h6,ij,h5,hx,hm];rw[if_pos ⟨g2,g3,g4⟩];exact ha)
    ·cases hk
   ·cases hk
  ·cases hk
 ·cases hk
end
end Go.Proofs.YtkimkgbppegkhaaGreat.Cm

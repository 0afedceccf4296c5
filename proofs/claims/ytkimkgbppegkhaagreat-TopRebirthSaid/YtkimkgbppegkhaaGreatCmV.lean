/- The clean machine, reckoned: a region that draws its order; code; calls. What a reckoning tells holds. No program is walked here. -/
import Derived.Test.YtkimkgbppegkhaaGreatCmT
namespace Go.Proofs.YtkimkgbppegkhaaGreat.Cm
open Go Go.RowKit
theorem still_dep {P : Program} {r : Operand → Option V} {h h' : Heap} {n n' : Nat} {op : Op} (hc : cls P op = .quiet) (hr : reads op = false) : stepOp P op r h n = stepOp P op r h' n' := by
  cases op <;> simp only [cls] at hc <;> first
    | (cases hc; done)
    | rfl
    | (cases hr; done)
    | skip
  case makeMap t x => cases x <;> simp only at hc <;> cases hc
  case unOp op t x => cases op <;> rfl
  case makeFunc fn a b => cases fn <;> rfl
  case call c =>
    obtain ⟨callee, args, ats⟩ := c
    cases callee with
    | builtin b =>
      simp only [stepOp]
      cases b <;> simp only at hc <;> first
        | (cases hc; done)
        | (cases hr; done)
        | skip
      all_goals split <;> rfl
    | value f => cases hc
    | invoke a b => cases hc
theorem beqF_eq {a b : F} (h : beqF a b = true) : a = b := by
  cases a <;> cases b <;> simp_all [beqF]
theorem beqL_eq {α : Type} {f : α → α → Bool} (hf : ∀ a b, f a b = true → a = b) : ∀ {l k : List α}, beqL f l k = true → l = k
  | [], [], _ => rfl
  | a :: l, b :: k, h => by
    simp only [beqL, Bool.and_eq_true] at h
    rw [hf _ _ h.1, beqL_eq hf h.2]
  | [], _ :: _, h => by cases h
  | _ :: _, [], h => by cases h
theorem beqU_eq {a b : U} (h : beqU a b = true) : a = b := by
  cases a <;> cases b <;> simp only [beqU, Bool.and_eq_true, beq_iff_eq] at h <;> first
    | (cases h; done)
    | (rw [beqF_eq h])
    | (rw [beqL_eq (fun _ _ => beqF_eq) h])
    | (rw [h.1, beqL_eq (fun _ _ => beqF_eq) h.2])
theorem beqV_eq {a b : V} (h : beqV a b = true) : a = b := by
  cases a <;> cases b <;> simp only [beqV] at h <;> first
    | (cases h; done)
    | (rw [beqU_eq h])
    | (rw [beqL_eq (fun _ _ => beqU_eq) h])
theorem beqO_eq {a b : Option V} (h : beqO a b = true) : a = b := by
  cases a <;> cases b <;> simp only [beqO] at h <;> first
    | rfl
    | (cases h; done)
    | (rw [beqV_eq h])
section
variable {P : Program} {m : Nat} {ops : Array Oper} {b : Nat → Nat} {call : CallF} {D : Plan}
/-- what a quiet operation reads of an object -/
noncomputable def fqOf (P : Program) (q : Rec) (ob : Option O) : Option V := if q.want = true then (stepOp P q.o.op (evA q.A.get) (fun _ => ob) 0).map (·.1) else none
/-- the plan is what was done -/
def Told (P : Program) (D : Plan) (q : Rec) : Prop := D.lo q.i = q.lo ∧ D.hi q.i = q.hi ∧ D.rid q.i = rdId (evA q.A.get) q.o.op ∧ ∀ ob, D.fq q.i ob = fqOf P q ob
noncomputable def planOf (P : Program) (rs : List Rec) : Plan where
  lo i := match rs.find? (fun q => q.i == i) with | some q => q.lo | none => 0
  hi i := match rs.find? (fun q => q.i == i) with | some q => q.hi | none => 0
  rid i := match rs.find? (fun q => q.i == i) with | some q => rdId (evA q.A.get) q.o.op | none => 0
  fq i := match rs.find? (fun q => q.i == i) with | some q => fqOf P q | none => fun _ => none
theorem find_nodup : ∀ {rs : List Rec}, (rs.map (·.i)).Nodup → ∀ q ∈ rs, rs.find? (fun x => x.i == q.i) = some q
  | [], _, q, h => by cases h
  | x :: rs, hn, q, h => by
    rw [List.map_cons, List.nodup_cons] at hn
    rcases List.mem_cons.1 h with rfl | h
    · simp
    · rw [List.find?_cons]
      have hne : (x.i == q.i) = false := by
        simp only [beq_eq_false_iff_ne]
        intro e
        exact hn.1 (by rw [e]; exact List.mem_map_of_mem h)
      rw [hne]
      exact find_nodup hn.2 q h
theorem planOf_told {rs : List Rec} (hn : (rs.map (·.i)).Nodup) (q : Rec) (hq : q ∈ rs) : Told P (planOf P rs) q := by
  have h := find_nodup hn q hq
  refine ⟨?_, ?_, ?_, fun ob => ?_⟩ <;> simp only [planOf, h]
theorem opD_of {i : Nat} {o : Oper} {A : Tm} {H H1 : Heap} {n n1 : Nat} {v : V} (hw : wantA ops A o = some true) (J : OpJ P o (evA A) H n v H1 n1) (h1 : D.lo i = n) (h2 : D.hi i = n1) (h3 : D.rid i = rdId (evA A) o.op)
    (h4 : ∀ ob, D.fq i ob = (stepOp P o.op (evA A) (fun _ => ob) 0).map (·.1)) : OpD P ops D i o A H v H1 ∧ (cls P o.op = .quiet → H1 = H) := by
  have prim : cls P o.op ≠ .eff → ∃ ef, stepOp P o.op (evA A) H n = some ef ∧ v = ef.1 ∧ H1 = app H ef.2.1 ∧ n1 = n + ef.2.2 := by
    intro hne
    cases J with
    | prim ef h => exact ⟨ef, h, rfl, rfl, rfl⟩
    | call f xs ats g caps args v H' n' ho hf ha hg hc => exact absurd (by rw [ho]; rfl) hne
  cases hc : cls P o.op with
  | quiet =>
    obtain ⟨ef, g1, g2, g3, g4⟩ := prim (by rw [hc]; simp)
    obtain ⟨g5, g6⟩ := quiet_form hc g1
    rw [g5] at g3
    have e : H1 = H := g3
    subst e
    refine ⟨.quiet v hw hc h3 h4 ?_, fun _ => rfl⟩
    rw [h4, h3]
    have e := quiet_dep (P := P) (r := evA A) (h := fun _ => H1 (rdId (evA A) o.op)) (h' := H1) (n := 0) (n' := n) hc rfl
    rw [e, g1, g2]
    rfl
  | fresh =>
    obtain ⟨ef, g1, g2, g3, g4⟩ := prim (by rw [hc]; simp)
    obtain ⟨ob, g5, g6⟩ := fresh_form hc g1
    rw [g5] at g3
    rw [← h1] at g3
    have e : H1 = upd H (D.lo i) (some ob) := g3
    subst e
    refine ⟨.fresh v ob hw hc ?_ (by rw [h2, h1, g4, g6]), fun hh => by cases hh⟩
    rw [h1, g1, g2]
    obtain ⟨a, b, c⟩ := ef
    simp only at g5 g6
    rw [g5, g6]
  | eff => exact ⟨.eff v H1 hw hc (by rw [h1, h2]; exact J), fun hh => by cases hh⟩
theorem good_app {H H1 : Heap} {n n1 : Nat} {o : Oper} {A : Tm} {v : V} (J : OpJ P o (evA A) H n v H1 n1) : Good H n H1 n1 := J.good
/-- what is known of what was done -/
theorem evRec_spec (hc : CallF.Ok P call) (hd : ∀ (i : Nat) (o : Oper), ops[i]? = some o → ∀ d, o.dst = some d → d < m ∧ d < lim) : ∀ (L : List Nat) (s : St) (rs : List Rec) (s' : St), Top s.H.get s.n → evRec P call ops L s = some (rs, s') →
    rs.map (·.i) = L ∧ Good s.H.get s.n s'.H.get s'.n ∧ (∀ q ∈ rs, ops[q.i]? = some q.o ∧ s.n ≤ q.lo ∧ q.lo ≤ q.hi ∧ q.hi ≤ s'.n ∧ ((q.want = false ∨ cls P q.o.op = .quiet) → q.H'.get = q.H.get)) ∧ rs.Pairwise (fun x y => x.hi ≤ y.lo) ∧
    ∀ (D : Plan), (∀ q ∈ rs, Told P D q) → (∀ q ∈ rs, CondD P ops b D q.i q.H.get q.H'.get) → RunsD P m ops b D L s.A.get s.H.get s'.A.get s'.H.get
  | [], s, rs, s', ht, h => by
    cases h
    exact ⟨rfl, Good.refl _ _, fun q hq => (by cases hq), List.Pairwise.nil, fun D _ _ => .nil _ _⟩
  | i :: L, s, rs, s', ht, h => by
    simp only [evRec] at h
    split at h
    · rename_i o ho
      split at h
      · rename_i s1 h1
        split at h
        · rename_i rs1 s2 h2
          split at h
          · rename_i w hw
            cases h
            have hwA := wantO_spec hw
            have hdo := hd i o ho
            have hms := mkS_spec hc (fun d hd' => (hdo d hd').2) ht h1
            have ht1 : Top s1.H.get s1.n := by
              rcases hms with ⟨g1, g2, g3, g4⟩ | ⟨g1, v, g2, g3⟩
              · rw [g3, g4]; exact ht
              · exact g2.good.top ht
            obtain ⟨k1, k2, k3, k4, k5⟩ := evRec_spec hc hd L s1 rs1 s' ht1 h2
            rcases hms with ⟨g1, g2, g3, g4⟩ | ⟨g1, v, g2, g3⟩
            · rw [hwA] at g1
              cases g1
              refine ⟨by simp [k1], by rw [← g3, ← g4]; exact k2, fun q hq => ?_, List.pairwise_cons.2 ⟨fun q hq => (k3 q hq).2.1, k4⟩, fun D hD hC => ?_⟩
              · rcases List.mem_cons.1 hq with rfl | hq
                · exact ⟨ho, Nat.le_refl _, by simp only; omega, k2.1, fun _ => by simp only; rw [g3]⟩
                · obtain ⟨a1, a2, a3, a4, a5⟩ := k3 q hq
                  exact ⟨a1, by omega, a3, a4, a5⟩
              · have t := hD _ (List.mem_cons_self ..)
                have r := k5 D (fun q hq => hD q (by simp [hq])) (fun q hq => hC q (by simp [hq]))
                rw [g2, g3] at r
                refine .cons i L o _ _ undefV _ _ _ ho (fun d hd' => (hdo d hd').1) (.skip hwA fun ob => ?_) (fun q _ _ _ _ => rfl) r
                have := t.2.2.2 ob
                simpa [fqOf] using this
            · rw [hwA] at g1
              cases g1
              have hJ := g2.good
              refine ⟨by simp [k1], hJ.trans k2, fun q hq => ?_, List.pairwise_cons.2 ⟨fun q hq => (k3 q hq).2.1, k4⟩, fun D hD hC => ?_⟩
              · rcases List.mem_cons.1 hq with rfl | hq
                · refine ⟨ho, Nat.le_refl _, hJ.1, k2.1, fun hh => ?_⟩
                  rcases hh with hh | hh
                  · cases hh
                  · exact (opD_of (D := ⟨fun _ => s.n, fun _ => s1.n, fun _ => rdId (evA s.A.get) o.op, fun _ ob => (stepOp P o.op (evA s.A.get) (fun _ => ob) 0).map (·.1)⟩) (i := i) hwA g2 rfl rfl rfl fun _ => rfl).2 hh
                · obtain ⟨a1, a2, a3, a4, a5⟩ := k3 q hq
                  exact ⟨a1, Nat.le_trans hJ.1 a2, a3, a4, a5⟩
              · have t := hD _ (List.mem_cons_self ..)
                have r := k5 D (fun q hq => hD q (by simp [hq])) (fun q hq => hC q (by simp [hq]))
                rw [g3] at r
                have hO := (opD_of (D := D) (i := i) hwA g2 t.1 t.2.1 t.2.2.1 fun ob => by
                  have := t.2.2.2 ob
                  simpa [fqOf] using this).1
                exact .cons i L o _ _ v _ _ _ ho (fun d hd' => (hdo d hd').1) hO (hC _ (List.mem_cons_self ..)) r
          · cases h
        · cases h
      · cases h
    · cases h
theorem stable_spec {rs : List Rec} (hs : stableB P b rs = true) (hq : ∀ q ∈ rs, ops[q.i]? = some q.o ∧ ((q.want = false ∨ cls P q.o.op = .quiet) → q.H'.get = q.H.get)) (hall : ∀ i, i < ops.size → ∃ q ∈ rs, q.i = i) (hD : ∀ q ∈ rs, Told P D q) :
    ∀ x ∈ rs, CondD P ops b D x.i x.H.get x.H'.get := by
  intro x hx q hne ⟨oq, hoq, hcq⟩ hb1 hb2
  obtain ⟨h1, h2⟩ := hq x hx
  simp only [stableB, List.all_eq_true] at hs
  have hs := hs x hx
  rw [Bool.or_eq_true, Bool.or_eq_true] at hs
  rcases hs with (hs | hs) | hs
  · rw [h2 (.inl (by simpa using hs))]
  · rw [h2 (.inr ?_)]
    simp only [clsB, beq_iff_eq] at hs
    split at hs
    · assumption
    · cases hs
    · cases hs
  · obtain ⟨y, hy, rfl⟩ := hall q (Array.getElem?_eq_some_iff.1 hoq).1
    rw [List.all_eq_true] at hs
    have hs := hs y hy
    obtain ⟨g1, g2⟩ := hq y hy
    rw [g1] at hoq
    cases hoq
    obtain ⟨t1, t2, t3, t4⟩ := hD y hy
    rw [t4, t4, t3]
    simp only [hb1, hb2, Bool.or_false, Bool.or_eq_true, beq_iff_eq, Bool.not_eq_true', bne_iff_ne, ne_eq] at hs
    rcases hs with (((hs | hs) | hs) | hs) | hs
    · exact absurd hs hne
    · simp [fqOf, hs]
    · exact absurd (by simp [clsB, hcq]) hs
    · unfold fqOf
      rw [still_dep (h := fun _ => x.H.get (rdId (evA y.A.get) y.o.op)) (h' := fun _ => x.H'.get (rdId (evA y.A.get) y.o.op)) (n := 0) (n' := 0) hcq hs]
    · have he := beqO_eq hs
      unfold fqOf
      rw [quiet_dep (r := evA y.A.get) (h := fun _ => x.H.get (rdId (evA y.A.get) y.o.op)) (h' := x.H.get) (n := 0) (n' := 0) hcq rfl, quiet_dep (r := evA y.A.get) (h := fun _ => x.H'.get (rdId (evA y.A.get) y.o.op)) (h' := x.H'.get) (n := 0) (n' := 0) hcq rfl]
      have e : ∀ H : T O, (stepOp P y.o.op (evA y.A.get) H.get 0).map (·.1) = quietAt P y H := fun H => by
        unfold quietAt
        cases stepOp P y.o.op (evA y.A.get) H.get 0 <;> rfl
      rw [e, e, he]
theorem drawn_spec {id : Nat} (hm : P.follows .mixedOrders = true) (hc : CallF.Ok P call) (hd : ∀ (i : Nat) (o : Oper), ops[i]? = some o → ∀ d, o.dst = some d → d < m ∧ d < lim) {L : List Nat} (hok : drawnOk P b ops L = true) {s s' : St} (ht : Top s.H.get s.n) {rs : List Rec} (h : evRec P call ops L s = some (rs, s')) (hs : stableB P b rs = true) :
    Runs P m (.region id ops true) s.A.get s.H.get s.n .normal s'.A.get s'.H.get s'.n := by
  obtain ⟨h1, h2, h3, h4, h5, h6⟩ := drawnOk_spec hok
  obtain ⟨k1, k2, k3, k4, k5⟩ := evRec_spec (b := b) hc hd L s rs s' ht h
  have hn : (rs.map (·.i)).Nodup := by rw [k1]; exact h2
  have hT : ∀ q ∈ rs, Told P (planOf P rs) q := fun q hq => planOf_told hn q hq
  have hall : ∀ i, i < ops.size → ∃ q ∈ rs, q.i = i := fun i hi => by
    have : i ∈ rs.map (·.i) := by rw [k1]; exact (h3 i).2 hi
    obtain ⟨q, g1, g2⟩ := List.mem_map.1 this
    exact ⟨q, g1, g2⟩
  have hC := stable_spec (D := planOf P rs) hs (fun q hq => ⟨(k3 q hq).1, (k3 q hq).2.2.2.2⟩) hall hT
  have hat : ∀ j ∈ L, ∃ q ∈ rs, q.i = j := fun j hj => hall j ((h3 j).1 hj)
  refine Runs.drawn hm h1 (k5 _ hT hC) ?_ h3 h4 h5 (fun j hj => ?_) k2
  · -- pairs
    have hp : (rs.map (·.i)).Pairwise (PairS P ops b) := by rw [k1]; exact h6
    have hnn : (rs.map (·.i)).Pairwise (· ≠ ·) := hn
    rw [← k1]
    rw [List.pairwise_map] at hp hnn ⊢
    have h12 := (hp.and hnn).and k4
    refine List.Pairwise.imp_of_mem (fun {x y} hx hy h => ?_) h12
    obtain ⟨⟨g1, g2⟩, g3⟩ := h
    obtain ⟨x1, x2, _⟩ := hT x hx
    obtain ⟨y1, y2, _⟩ := hT y hy
    exact ⟨g2, .inl (by rw [x2, y1]; exact g3), g1⟩
  · obtain ⟨q, hq, rfl⟩ := hat j hj
    obtain ⟨t1, t2, _⟩ := hT q hq
    obtain ⟨_, a2, a3, a4, _⟩ := k3 q hq
    rw [t1, t2]
    exact ⟨a2, a3, a4⟩
end
end Go.Proofs.YtkimkgbppegkhaaGreat.Cm
/- The clean machine, reckoned: code and calls. What a reckoning tells holds. No program is walked here. -/
namespace Go.Proofs.YtkimkgbppegkhaaGreat.Cm
open Go Go.RowKit
noncomputable def dstsB (m : Nat) : List Oper → Bool
  | [] => true
  | o :: r => match dstOk m o with | true => dstsB m r | false => false
theorem dstsB_spec {m : Nat} : ∀ {l : List Oper}, dstsB m l = true → ∀ o ∈ l, ∀ d, o.dst = some d → d < m ∧ d < lim
  | [], _, o, h, _, _ => by cases h
  | x :: r, h, o, ho, d, hd => by
    simp only [dstsB] at h
    split at h
    · rename_i h1
      rcases List.mem_cons.1 ho with rfl | ho
      · simp only [dstOk, hd, Bool.and_eq_true, decide_eq_true_eq] at h1
        exact h1
      · exact dstsB_spec h o ho d hd
    · cases h
/-- what is seen of code, once for all -/
noncomputable def codeOk (P : Program) (m : Nat) : Code → Bool
  | .region _ ops d => match dstsB m ops.toList with
    | true => match d with
      | false => true
      | true => drawnOk P (bOf ops) ops (canon P (bOf ops) ops)
    | false => false
  | .seq a b => match codeOk P m a with | true => codeOk P m b | false => false
  | .cond _ a b => match codeOk P m a with | true => codeOk P m b | false => false
  | .block _ a => codeOk P m a
  | .loop a => codeOk P m a
  | _ => true
def ProgOk (P : Program) : Prop := P.follows .mixedOrders = true ∧ ∀ (f : Nat) fn c, P.funcs[f]? = some fn → fn.body = some c → codeOk P fn.ntmps c = true
noncomputable def funcOk (P : Program) (fn : Func) : Bool := match fn.body with | some c => codeOk P fn.ntmps c | none => true
noncomputable def funcsOk (P : Program) : List Func → Bool
  | [] => true
  | fn :: r => match funcOk P fn with | true => funcsOk P r | false => false
theorem funcsOk_spec {P : Program} : ∀ {l : List Func}, funcsOk P l = true → ∀ fn ∈ l, funcOk P fn = true
  | [], _, _, h => by cases h
  | x :: r, h, fn, hf => by
    simp only [funcsOk] at h
    split at h
    · rename_i h1
      rcases List.mem_cons.1 hf with rfl | hf
      · exact h1
      · exact funcsOk_spec h fn hf
    · cases h
theorem ProgOk.of {P : Program} (hm : P.follows .mixedOrders = true) (h : funcsOk P P.funcs.toList = true) : ProgOk P := by
  refine ⟨hm, fun f fn c hf hb => ?_⟩
  have hmem : fn ∈ P.funcs.toList := by
    rw [Array.mem_toList_iff]
    exact Array.mem_of_getElem? hf
  have := funcsOk_spec h fn hmem
  unfold funcOk at this
  rw [hb] at this
  exact this
section
variable {P : Program} {m : Nat} {orc : CallF}
theorem seqB_spec {a b : Bool} {x : Bool} (h : (match a with | true => b | false => false) = true) : a = true ∧ b = true := by cases a <;> simp_all
theorem nextC_spec {x : Option (Exit × St)} {k : St → Option (Exit × St)} {e : Exit} {s' : St} (h : nextC x k = some (e, s')) : (∃ s1, x = some (.normal, s1) ∧ k s1 = some (e, s')) ∨ (x = some (e, s') ∧ e ≠ .normal) := by
  cases x with
  | none => cases h
  | some p =>
    obtain ⟨e1, s1⟩ := p
    cases e1 with
    | normal => exact .inl ⟨s1, rfl, h⟩
    | exit i => cases h; exact .inr ⟨rfl, by simp⟩
    | goto i => cases h; exact .inr ⟨rfl, by simp⟩
    | ret => cases h; exact .inr ⟨rfl, by simp⟩
    | panic c => cases h; exact .inr ⟨rfl, by simp⟩
    | outgrown => cases h; exact .inr ⟨rfl, by simp⟩
/-- code, reckoned -/
def EvOk (P : Program) (ev : CC → St → Option (Exit × St)) : Prop := ∀ m c, codeOk P m c = true → ∀ s x s', Top s.H.get s.n →
  (ev (mkCC P c) s = some (x, s') → Runs P m c s.A.get s.H.get s.n x s'.A.get s'.H.get s'.n) ∧ (ev (.loop (mkCC P c)) s = some (x, s') → Rounds P m c s.A.get s.H.get s.n x s'.A.get s'.H.get s'.n)
theorem resF_spec {fn : Func} {x : Exit} {s : St} {v : V} {H' : T O} {n' : Nat} (h : resF P fn x s = some (v, H', n')) : (x = .normal ∨ x = .ret) ∧ H' = s.H ∧ n' = s.n ∧ ∃ vs, resA P s.A.get s.H.get fn.results.toList = some vs ∧ resV vs = some v := by
  have main : (match resA P s.A.get s.H.get fn.results.toList with
    | some vs => match resV vs with
      | some v => some (v, s.H, s.n)
      | none => none
    | none => none) = some (v, H', n') → H' = s.H ∧ n' = s.n ∧ ∃ vs, resA P s.A.get s.H.get fn.results.toList = some vs ∧ resV vs = some v := by
    intro h
    split at h
    · rename_i vs h1
      split at h
      · rename_i v' h2
        cases h
        exact ⟨rfl, rfl, vs, h1, h2⟩
      · cases h
    · cases h
  cases x with
  | normal => exact ⟨.inl rfl, main h⟩
  | ret => exact ⟨.inr rfl, main h⟩
  | exit i => cases h
  | goto i => cases h
  | panic c => cases h
  | outgrown => cases h
theorem callC_ok (hP : ProgOk P) (ho : CallF.Ok P orc) {ev : CC → St → Option (Exit × St)} (he : EvOk P ev) : CallF.Ok P (callC P orc ev) := by
  intro f args H n v H' n' ht h
  unfold callC at h
  split at h
  · rename_i r hr
    cases h
    exact ho _ _ _ _ _ _ _ ht hr
  · split at h
    · rename_i fn c hb
      split at h
      · rename_i ha
        split at h
        · rename_i x s' hx
          obtain ⟨h1, rfl, rfl, vs, h2, h3⟩ := resF_spec h
          unfold bodyOf at hb
          cases hf : P.funcs[f]? with
          | none => rw [hf] at hb; cases hb
          | some fn1 =>
            rw [hf] at hb
            have hb : @Option.rec Code (fun _ => Option (Func × CC)) none (fun c => some (fn1, mkCC P c)) fn1.body = some (fn, c) := hb
            cases hbd : fn1.body with
            | none => rw [hbd] at hb; cases hb
            | some c1 =>
              rw [hbd] at hb
              cases hb
              unfold argsOk at ha
              split at ha
              · rename_i ha1
                have ha1 := Nat.le_of_ble_eq_true ha1
                have ha2 : fn.ntmps + 1 ≤ 1000000000000 := Nat.le_of_ble_eq_true ha
                have hr := (he fn.ntmps c1 (hP.2 f fn c1 hf hbd) _ _ _ ht).1 hx
                have e : (T.ofList args 0 .leaf : T V).get = argsA args := by
                  funext i
                  rw [T.get_ofList _ _ _ (by omega)]
                  simp only [Nat.zero_le, true_and, Nat.zero_add, Nat.sub_zero, T.get_leaf, argsA]
                  split
                  · rfl
                  · rename_i hi; rw [List.getElem?_eq_none (by omega)]
                simp only at hr
                rw [e] at hr
                exact CallsC.of_runs hf hbd ha1 hr h1 h2 h3
              · cases ha
        · cases h
      · cases h
    · cases h
theorem condC_spec {v : Option V} {x y : Option (Exit × St)} {r : Exit × St} (h : condC v x y = some r) : ∃ b, v = some (vf (.bool b)) ∧ (if b then x else y) = some r := by
  obtain ⟨u, h1, h2⟩ := onO_some h
  obtain ⟨b, h3, h4⟩ := onO_some h2
  rw [asBl_spec h3] at h1
  refine ⟨b, h1, ?_⟩
  cases b <;> exact h4
theorem evStep_ok (hP : ProgOk P) (ho : CallF.Ok P orc) {ev : CC → St → Option (Exit × St)} (he : EvOk P ev) : EvOk P (evStep P orc ev) := by
  intro m c hc s x s' ht
  have hcall := callC_ok hP ho he
  have hloop : ∀ (s : St) x (s' : St), Top s.H.get s.n → evStep P orc ev (.loop (mkCC P c)) s = some (x, s') → Rounds P m c s.A.get s.H.get s.n x s'.A.get s'.H.get s'.n := by
    intro s x s' ht h
    have h : nextC (ev (mkCC P c) s) (ev (.loop (mkCC P c))) = some (x, s') := h
    rcases nextC_spec h with ⟨s1, h1, h2⟩ | ⟨h1, h2⟩
    · have r1 := (he m c hc _ _ _ ht).1 h1
      exact Rounds.more r1 ((he m c hc _ _ _ (r1.1.top ht)).2 h2)
    · exact Rounds.last ((he m c hc _ _ _ ht).1 h1) h2
  refine ⟨fun h => ?_, hloop s x s' ht⟩
  cases c with
  | skip => cases h; exact Runs.skip
  | exit i => cases h; exact Runs.exit
  | ret => cases h; exact Runs.ret
  | region id ops d =>
    simp only [codeOk] at hc
    split at hc
    · rename_i hd
      have hd := dstsB_spec hd
      have hd' : ∀ (i : Nat) (o : Oper), ops[i]? = some o → ∀ d, o.dst = some d → d < m ∧ d < lim := fun i o ho => hd o (by rw [Array.mem_toList_iff]; exact Array.mem_of_getElem? ho)
      cases d with
      | false =>
        have h : normC (evSeq (callC P orc ev) (mkSs P ops ops.toList) s.A s.H s.n) = some (x, s') := h
        cases hq : evSeq (callC P orc ev) (mkSs P ops ops.toList) s.A s.H s.n with
        | none => rw [hq] at h; cases h
        | some s1 =>
          rw [hq] at h
          cases h
          have := evSeq_spec hcall hd ops.toList 0 (by simp) _ _ _ _ ht hq
          refine Runs.region ?_
          rw [List.range_eq_range']
          simpa using this
      | true =>
        have h : drawC P (bOf ops) (evRec P (callC P orc ev) ops (canon P (bOf ops) ops) s) = some (x, s') := h
        unfold drawC at h
        split at h
        · rename_i rs s1 hq
          split at h
          · rename_i hs
            cases h
            exact drawn_spec hP.1 hcall hd' hc ht hq hs
          · cases h
        · cases h
    · cases hc
  | seq a b =>
    have hab := seqB_spec (x := true) hc
    have h : nextC (ev (mkCC P a) s) (ev (mkCC P b)) = some (x, s') := h
    rcases nextC_spec h with ⟨s1, h1, h2⟩ | ⟨h1, h2⟩
    · have r1 := (he m a hab.1 _ _ _ ht).1 h1
      exact Runs.seq r1 ((he m b hab.2 _ _ _ (r1.1.top ht)).1 h2)
    · exact Runs.seq_out ((he m a hab.1 _ _ _ ht).1 h1) h2
  | cond o a b =>
    have hab := seqB_spec (x := true) hc
    have h : condC (evA s.A.get o) (ev (mkCC P a) s) (ev (mkCC P b) s) = some (x, s') := h
    obtain ⟨t, h1, h2⟩ := condC_spec h
    refine Runs.cond h1 ?_
    cases t with
    | true => exact (he m a hab.1 _ _ _ ht).1 h2
    | false => exact (he m b hab.2 _ _ _ ht).1 h2
  | block id a =>
    have h : blockC id (ev (mkCC P a) s) = some (x, s') := h
    unfold blockC at h
    split at h
    · rename_i x1 s1 h1
      cases h
      exact Runs.block ((he m a hc _ _ _ ht).1 h1)
    · cases h
  | loop a =>
    have h : nextC (ev (mkCC P a) s) (ev (.loop (mkCC P a))) = some (x, s') := h
    have hc : codeOk P m a = true := hc
    refine Runs.loop ?_
    rcases nextC_spec h with ⟨s1, h1, h2⟩ | ⟨h1, h2⟩
    · have r1 := (he m a hc _ _ _ ht).1 h1
      exact Rounds.more r1 ((he m a hc _ _ _ (r1.1.top ht)).2 h2)
    · exact Rounds.last ((he m a hc _ _ _ ht).1 h1) h2
  | _ => cases h
theorem evC_ok (hP : ProgOk P) (ho : CallF.Ok P orc) : ∀ k, EvOk P (evC P orc k)
  | 0 => fun m c hc s x s' _ => ⟨fun h => (by cases h), fun h => (by cases h)⟩
  | k + 1 => evStep_ok hP ho (evC_ok hP ho k)
/-- WHAT IS RECKONED HOLDS -/
theorem evCall_ok (hP : ProgOk P) (ho : CallF.Ok P orc) (k : Nat) : CallF.Ok P (evCall P orc k) := callC_ok hP ho (evC_ok hP ho k)
end
end Go.Proofs.YtkimkgbppegkhaaGreat.Cm

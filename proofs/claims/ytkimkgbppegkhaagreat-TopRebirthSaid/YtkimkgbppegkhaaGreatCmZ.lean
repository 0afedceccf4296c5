/- The clean machine, walked by hand: a region that draws its order. No program is walked here. -/
import Derived.Test.YtkimkgbppegkhaaGreatCmY
namespace Go.Proofs.YtkimkgbppegkhaaGreat.Cm
open Go Go.RowKit
structure RecH where
  i : Nat
  o : Oper
  want : Bool
  A : Tm
  H : Heap
  lo : Nat
  H' : Heap
  hi : Nat
def ordB (b : Nat → Nat) (i j : Nat) : Bool := Nat.testBit (b i) j || Nat.testBit (b j) i
section
variable {P : Program} {m : Nat} {ops : Array Oper} {b : Nat → Nat}
def isE (P : Program) (x : RecH) : Prop := x.want = true ∧ cls P x.o.op ≠ .quiet
def isR (P : Program) (q : RecH) : Prop := q.want = true ∧ cls P q.o.op = .quiet ∧ reads q.o.op = true
noncomputable def ridH (q : RecH) : Nat := rdId (evA q.A) q.o.op
def StabP (P : Program) (b : Nat → Nat) (x q : RecH) : Prop := isE P x → isR P q → ordB b x.i q.i = true ∨ x.H (ridH q) = x.H' (ridH q)
inductive RecsJ (P : Program) (m : Nat) (ops : Array Oper) : List RecH → List Nat → Tm → Heap → Nat → Tm → Heap → Nat → Prop where
  | nil (A : Tm) (H : Heap) (n : Nat) : RecsJ P m ops [] [] A H n A H n
  | skip (i : Nat) (o : Oper) (rs : List RecH) (L : List Nat) (A : Tm) (H : Heap) (n : Nat) (A' : Tm) (H' : Heap) (n' : Nat) (ho : ops[i]? = some o) (hd : ∀ d, o.dst = some d → d < m) (hw : wantA ops A o = some false)
      (h : RecsJ P m ops rs L (putA A o.dst undefV) H n A' H' n') : RecsJ P m ops (⟨i, o, false, A, H, n, H, n⟩ :: rs) (i :: L) A H n A' H' n'
  | op (i : Nat) (o : Oper) (rs : List RecH) (L : List Nat) (A : Tm) (H : Heap) (n : Nat) (v : V) (H1 : Heap) (n1 : Nat) (A' : Tm) (H' : Heap) (n' : Nat) (ho : ops[i]? = some o) (hd : ∀ d, o.dst = some d → d < m) (hw : wantA ops A o = some true)
      (J : OpJ P o (evA A) H n v H1 n1) (h : RecsJ P m ops rs L (putA A o.dst v) H1 n1 A' H' n') : RecsJ P m ops (⟨i, o, true, A, H, n, H1, n1⟩ :: rs) (i :: L) A H n A' H' n'
noncomputable def fqH (P : Program) (q : RecH) (ob : Option O) : Option V := if q.want = true then (stepOp P q.o.op (evA q.A) (fun _ => ob) 0).map (·.1) else none
def ToldH (P : Program) (D : Plan) (q : RecH) : Prop := D.lo q.i = q.lo ∧ D.hi q.i = q.hi ∧ D.rid q.i = ridH q ∧ ∀ ob, D.fq q.i ob = fqH P q ob
noncomputable def planH (P : Program) (rs : List RecH) : Plan where
  lo i := match rs.find? (fun q => q.i == i) with | some q => q.lo | none => 0
  hi i := match rs.find? (fun q => q.i == i) with | some q => q.hi | none => 0
  rid i := match rs.find? (fun q => q.i == i) with | some q => ridH q | none => 0
  fq i := match rs.find? (fun q => q.i == i) with | some q => fqH P q | none => fun _ => none
theorem findH : ∀ {rs : List RecH}, (rs.map (·.i)).Nodup → ∀ q ∈ rs, rs.find? (fun x => x.i == q.i) = some q
  | [], _, q, h => by cases h
  | x :: rs, hn, q, h => by
    rw [List.map_cons, List.nodup_cons] at hn
    rcases List.mem_cons.1 h with rfl | h
    · simp
    · rw [List.find?_cons]
      have hne : (x.i == q.i) = false := by
        simp only [beq_eq_false_iff_ne]
        intro e
        exact hn.1 (by rw [e]; exact List.mem_map_of_mem h)
      rw [hne]
      exact findH hn.2 q h
theorem planH_told {rs : List RecH} (hn : (rs.map (·.i)).Nodup) (q : RecH) (hq : q ∈ rs) : ToldH P (planH P rs) q := by
  have h := findH hn q hq
  refine ⟨?_, ?_, ?_, fun ob => ?_⟩ <;> simp only [planH, h]
theorem recsJ_spec {rs : List RecH} {L : List Nat} {A A' : Tm} {H H' : Heap} {n n' : Nat} (J : RecsJ P m ops rs L A H n A' H' n') :
    rs.map (·.i) = L ∧ Good H n H' n' ∧ (∀ q ∈ rs, ops[q.i]? = some q.o ∧ n ≤ q.lo ∧ q.lo ≤ q.hi ∧ q.hi ≤ n' ∧ ((q.want = false ∨ cls P q.o.op = .quiet) → q.H' = q.H)) ∧ rs.Pairwise (fun x y => x.hi ≤ y.lo) ∧
    ∀ (D : Plan), (∀ q ∈ rs, ToldH P D q) → (∀ q ∈ rs, CondD P ops b D q.i q.H q.H') → RunsD P m ops b D L A H A' H' := by
  induction J with
  | nil A H n => exact ⟨rfl, Good.refl _ _, fun q hq => (by cases hq), List.Pairwise.nil, fun D _ _ => .nil _ _⟩
  | skip i o rs L A H n A' H' n' ho hd hw h ih =>
    obtain ⟨k1, k2, k3, k4, k5⟩ := ih
    refine ⟨by simp [k1], k2, fun q hq => ?_, List.pairwise_cons.2 ⟨fun q hq => (k3 q hq).2.1, k4⟩, fun D hD hC => ?_⟩
    · rcases List.mem_cons.1 hq with rfl | hq
      · exact ⟨ho, Nat.le_refl _, Nat.le_refl _, k2.1, fun _ => rfl⟩
      · exact k3 q hq
    · have t := hD _ (List.mem_cons_self ..)
      refine .cons i L o _ _ undefV _ _ _ ho hd (.skip hw fun ob => ?_) (fun q _ _ _ _ => rfl) (k5 D (fun q hq => hD q (by simp [hq])) (fun q hq => hC q (by simp [hq])))
      have := t.2.2.2 ob
      simpa [fqH] using this
  | op i o rs L A H n v H1 n1 A' H' n' ho hd hw J h ih =>
    obtain ⟨k1, k2, k3, k4, k5⟩ := ih
    have hJ := J.good
    refine ⟨by simp [k1], hJ.trans k2, fun q hq => ?_, List.pairwise_cons.2 ⟨fun q hq => (k3 q hq).2.1, k4⟩, fun D hD hC => ?_⟩
    · rcases List.mem_cons.1 hq with rfl | hq
      · refine ⟨ho, Nat.le_refl _, hJ.1, k2.1, fun hh => ?_⟩
        rcases hh with hh | hh
        · cases hh
        · exact (opD_of (D := ⟨fun _ => n, fun _ => n1, fun _ => rdId (evA A) o.op, fun _ ob => (stepOp P o.op (evA A) (fun _ => ob) 0).map (·.1)⟩) (i := i) hw J rfl rfl rfl fun _ => rfl).2 hh
      · obtain ⟨a1, a2, a3, a4, a5⟩ := k3 q hq
        exact ⟨a1, Nat.le_trans hJ.1 a2, a3, a4, a5⟩
    · have t := hD _ (List.mem_cons_self ..)
      have hO := (opD_of (D := D) (i := i) hw J t.1 t.2.1 t.2.2.1 fun ob => by
        have := t.2.2.2 ob
        simpa [fqH] using this).1
      exact .cons i L o _ _ v _ _ _ ho hd hO (hC _ (List.mem_cons_self ..)) (k5 D (fun q hq => hD q (by simp [hq])) (fun q hq => hC q (by simp [hq])))
theorem drawnJ_spec {id : Nat} (hm : P.follows .mixedOrders = true) {L : List Nat} (hok : drawnOk P b ops L = true) {rs : List RecH} {A A' : Tm} {H H' : Heap} {n n' : Nat} (J : RecsJ P m ops rs L A H n A' H' n') (hs : ∀ x ∈ rs, ∀ q ∈ rs, StabP P b x q) :
    Runs P m (.region id ops true) A H n .normal A' H' n' := by
  obtain ⟨h1, h2, h3, h4, h5, h6⟩ := drawnOk_spec hok
  obtain ⟨k1, k2, k3, k4, k5⟩ := recsJ_spec (b := b) J
  have hn : (rs.map (·.i)).Nodup := by rw [k1]; exact h2
  have hT : ∀ q ∈ rs, ToldH P (planH P rs) q := fun q hq => planH_told hn q hq
  have hall : ∀ i, i < ops.size → ∃ q ∈ rs, q.i = i := fun i hi => by
    have : i ∈ rs.map (·.i) := by rw [k1]; exact (h3 i).2 hi
    obtain ⟨q, g1, g2⟩ := List.mem_map.1 this
    exact ⟨q, g1, g2⟩
  have hC : ∀ x ∈ rs, CondD P ops b (planH P rs) x.i x.H x.H' := by
    intro x hx q hne ⟨oq, hoq, hcq⟩ hb1 hb2
    obtain ⟨_, _, _, _, g5⟩ := k3 x hx
    obtain ⟨y, hy, rfl⟩ := hall q (Array.getElem?_eq_some_iff.1 hoq).1
    obtain ⟨y1, _⟩ := k3 y hy
    rw [y1] at hoq
    cases hoq
    obtain ⟨t1, t2, t3, t4⟩ := hT y hy
    rw [t4, t4, t3]
    by_cases hw : y.want = true
    · by_cases hE : isE P x
      · cases hr : reads y.o.op with
        | false =>
          unfold fqH
          rw [still_dep (r := evA y.A) (h := fun _ => x.H (ridH y)) (h' := fun _ => x.H' (ridH y)) (n := 0) (n' := 0) hcq hr]
        | true =>
          rcases hs x hx y hy hE ⟨hw, hcq, hr⟩ with h | h
          · unfold ordB at h
            rw [hb1, hb2] at h
            cases h
          · rw [h]
      · have : x.H' = x.H := g5 (by
          unfold isE at hE
          by_cases hxw : x.want = true
          · exact .inr (Classical.byContradiction fun hc => hE ⟨hxw, hc⟩)
          · exact .inl (by simpa using hxw))
        rw [this]
    · simp only [fqH, hw, if_false]
      rfl
  have hat : ∀ j ∈ L, ∃ q ∈ rs, q.i = j := fun j hj => hall j ((h3 j).1 hj)
  refine Runs.drawn hm h1 (k5 _ hT hC) ?_ h3 h4 h5 (fun j hj => ?_) k2
  · have hp : (rs.map (·.i)).Pairwise (PairS P ops b) := by rw [k1]; exact h6
    have hnn : (rs.map (·.i)).Pairwise (· ≠ ·) := hn
    rw [← k1]
    rw [List.pairwise_map] at hp hnn ⊢
    have h12 := (hp.and hnn).and k4
    refine List.Pairwise.imp_of_mem (fun {x y} hx hy h => ?_) h12
    obtain ⟨⟨g1, g2⟩, g3⟩ := h
    obtain ⟨x1, x2, _⟩ := hT x hx
    obtain ⟨y1, y2, _⟩ := hT y hy
    exact ⟨g2, .inl (by rw [x2, y1]; exact g3), g1⟩
  · obtain ⟨q, hq, rfl⟩ := hat j hj
    obtain ⟨t1, t2, _⟩ := hT q hq
    obtain ⟨_, a2, a3, a4, _⟩ := k3 q hq
    rw [t1, t2]
    exact ⟨a2, a3, a4⟩
end
/-- what an effect owes the readers that were, what a reader owes the effects that were -/
@[reducible] def ObR (b : Nat → Nat) (i : Nat) (H H' : Heap) : List (Nat × Nat) → Prop
  | [] => True
  | q :: r => (ordB b i q.1 = true ∨ H q.2 = H' q.2) ∧ ObR b i H H' r
@[reducible] def ObE (b : Nat → Nat) (i id : Nat) : List (Nat × Heap × Heap) → Prop
  | [] => True
  | q :: r => (ordB b q.1 i = true ∨ q.2.1 id = q.2.2 id) ∧ ObE b i id r
theorem ObR.mem {b : Nat → Nat} {i : Nat} {H H' : Heap} : ∀ {l : List (Nat × Nat)}, ObR b i H H' l → ∀ q ∈ l, ordB b i q.1 = true ∨ H q.2 = H' q.2
  | [], _, q, h => by cases h
  | x :: r, h, q, hq => by
    rcases List.mem_cons.1 hq with rfl | hq
    · exact h.1
    · exact ObR.mem h.2 q hq
theorem ObE.mem {b : Nat → Nat} {i id : Nat} : ∀ {l : List (Nat × Heap × Heap)}, ObE b i id l → ∀ q ∈ l, ordB b q.1 i = true ∨ q.2.1 id = q.2.2 id
  | [], _, q, h => by cases h
  | x :: r, h, q, hq => by
    rcases List.mem_cons.1 hq with rfl | hq
    · exact h.1
    · exact ObE.mem h.2 q hq
section
variable {P : Program} {f : Nat} {p : List Nat} {A : Tm} {H : Heap} {n : Nat} {K : Ko}
noncomputable abbrev bAt (P : Program) (f : Nat) (p : List Nat) : Nat → Nat := bOf (opsOf (codeAt P f p))
noncomputable abbrev LAt (P : Program) (f : Nat) (p : List Nat) : List Nat := canon P (bAt P f p) (opsOf (codeAt P f p))
/-- operations of a region that draws, in one order; effects and readers that were -/
def Sd (P : Program) (f : Nat) (p : List Nat) (L : List Nat) (es : List (Nat × Heap × Heap)) (qs : List (Nat × Nat)) (A : Tm) (H : Heap) (n : Nat) (K : Ko) : Prop :=
  ∃ rs A' H' n', RecsJ P (ntm P f) (opsOf (codeAt P f p)) rs L A H n A' H' n' ∧ (∀ x ∈ rs, ∀ q ∈ rs, StabP P (bAt P f p) x q) ∧ (∀ x ∈ rs, isE P x → ∀ q ∈ qs, ordB (bAt P f p) x.i q.1 = true ∨ x.H q.2 = x.H' q.2) ∧
    (∀ q ∈ rs, isR P q → ∀ e ∈ es, ordB (bAt P f p) e.1 q.i = true ∨ e.2.1 (ridH q) = e.2.2 (ridH q)) ∧ K .normal A' H' n'
theorem codeOk_at (hP : ProgOk P) (f : Nat) : ∀ (p : List Nat), codeOk P (ntm P f) (codeAt P f p) = true
  | [] => by
    show codeOk P (ntm P f) (bodyAt P f) = true
    unfold bodyAt ntm
    cases hf : P.funcs[f]? with
    | none => rfl
    | some fn =>
      simp only
      cases hb : fn.body with
      | none => rfl
      | some c => exact hP.2 f fn c hf hb
  | i :: p => by
    have ih := codeOk_at hP f p
    show codeOk P (ntm P f) (sub1 i (codeAt P f p)) = true
    cases hc : codeAt P f p <;> rw [hc] at ih <;> simp only [sub1, codeOk] at ih ⊢
    · obtain ⟨g1, g2⟩ := seqB_spec (x := true) ih
      cases i <;> assumption
    · obtain ⟨g1, g2⟩ := seqB_spec (x := true) ih
      cases i <;> assumption
    · exact ih
    · exact ih
theorem To.draw (L : List Nat) (hP : ProgOk P) (hk : kindC (codeAt P f p) = 4) (hL : LAt P f p = L) (h : Sd P f p L [] [] A H n K) : To P f p A H n K := by
  obtain ⟨rs, A', H', n', h1, h2, _, _, h3⟩ := h
  have hok := codeOk_at hP f p
  cases hc : codeAt P f p <;> rw [hc] at hk <;> first
    | (cases hk; done)
    | skip
  rename_i id ops d
  cases d with
  | false => cases hk
  | true =>
    have e : opsOf (codeAt P f p) = ops := by rw [hc]; rfl
    rw [hc] at hok
    simp only [codeOk] at hok
    split at hok
    · have eL : L = canon P (bOf ops) ops := by rw [← hL]; unfold LAt bAt; rw [e]
      unfold bAt at h2
      rw [e] at h1 h2
      rw [eL] at h1
      exact ⟨.normal, A', H', n', by rw [hc]; exact drawnJ_spec hP.1 hok h1 h2, h3⟩
    · cases hok
theorem Sd.done {es : List (Nat × Heap × Heap)} {qs : List (Nat × Nat)} (h : K .normal A H n) : Sd P f p [] es qs A H n K :=
  ⟨[], A, H, n, .nil _ _ _, fun x hx => (by cases hx), fun x hx => (by cases hx), fun x hx => (by cases hx), h⟩
theorem Sd.skip {i : Nat} {L : List Nat} {es : List (Nat × Heap × Heap)} {qs : List (Nat × Nat)} {l : List (Nat × V)} (d : Option Tmp) (h : seeOp P f p i (tl l) = some (false, d)) (k : Sd P f p L es qs (tl (putL l d undefV)) H n K) : Sd P f p (i :: L) es qs (tl l) H n K := by
  obtain ⟨h1, h2, h3, h4⟩ := seeOp_spec h
  obtain ⟨rs, A', H', n', g1, g2, g3, g4, g5⟩ := k
  rw [putL_eq, ← h4] at g1
  have nE : ¬ isE P (⟨i, opAt P f p i, false, tl l, H, n, H, n⟩ : RecH) := fun h => by cases h.1
  have nR : ¬ isR P (⟨i, opAt P f p i, false, tl l, H, n, H, n⟩ : RecH) := fun h => by cases h.1
  refine ⟨_, A', H', n', .skip i _ rs L _ _ _ _ _ _ h1 h2 h3 g1, fun x hx q hq hE hR => ?_, fun x hx hE => ?_, fun q hq hR => ?_, g5⟩
  · rcases List.mem_cons.1 hx with rfl | hx
    · exact absurd hE nE
    · rcases List.mem_cons.1 hq with rfl | hq
      · exact absurd hR nR
      · exact g2 x hx q hq hE hR
  · rcases List.mem_cons.1 hx with rfl | hx
    · exact absurd hE nE
    · exact g3 x hx hE
  · rcases List.mem_cons.1 hq with rfl | hq
    · exact absurd hR nR
    · exact g4 q hq hR
/-- an operation that neither reads nor turns -/
theorem Sd.still {i : Nat} {L : List Nat} {es : List (Nat × Heap × Heap)} {qs : List (Nat × Nat)} {l : List (Nat × V)} {v : V} {H1 : Heap} {n1 : Nat} (d : Option Tmp) (h : seeOp P f p i (tl l) = some (true, d)) (hc : clsB P (opAt P f p i).op = 0) (hr : reads (opAt P f p i).op = false)
    (J : OpJ P (opAt P f p i) (evA (tl l)) H n v H1 n1) (k : Sd P f p L es qs (tl (putL l d v)) H1 n1 K) : Sd P f p (i :: L) es qs (tl l) H n K := by
  obtain ⟨h1, h2, h3, h4⟩ := seeOp_spec h
  obtain ⟨rs, A', H', n', g1, g2, g3, g4, g5⟩ := k
  rw [putL_eq, ← h4] at g1
  have hq : cls P (opAt P f p i).op = .quiet := by
    unfold clsB at hc
    split at hc
    · assumption
    · cases hc
    · cases hc
  have nE : ¬ isE P (⟨i, opAt P f p i, true, tl l, H, n, H1, n1⟩ : RecH) := fun h => h.2 hq
  have nR : ¬ isR P (⟨i, opAt P f p i, true, tl l, H, n, H1, n1⟩ : RecH) := fun h => by have := h.2.2; rw [hr] at this; cases this
  refine ⟨_, A', H', n', .op i _ rs L _ _ _ v H1 n1 _ _ _ h1 h2 h3 J g1, fun x hx q hq hE hR => ?_, fun x hx hE => ?_, fun q hq hR => ?_, g5⟩
  · rcases List.mem_cons.1 hx with rfl | hx
    · exact absurd hE nE
    · rcases List.mem_cons.1 hq with rfl | hq
      · exact absurd hR nR
      · exact g2 x hx q hq hE hR
  · rcases List.mem_cons.1 hx with rfl | hx
    · exact absurd hE nE
    · exact g3 x hx hE
  · rcases List.mem_cons.1 hq with rfl | hq
    · exact absurd hR nR
    · exact g4 q hq hR
/-- an operation that reads -/
theorem Sd.read {i : Nat} {L : List Nat} {es : List (Nat × Heap × Heap)} {qs : List (Nat × Nat)} {l : List (Nat × V)} {v : V} {H1 : Heap} {n1 : Nat} (d : Option Tmp) (id : Nat) (h : seeOp P f p i (tl l) = some (true, d)) (hc : clsB P (opAt P f p i).op = 0) (hid : rdId (evA (tl l)) (opAt P f p i).op = id)
    (hob : ObE (bAt P f p) i id es) (J : OpJ P (opAt P f p i) (evA (tl l)) H n v H1 n1) (k : Sd P f p L es ((i, id) :: qs) (tl (putL l d v)) H1 n1 K) : Sd P f p (i :: L) es qs (tl l) H n K := by
  obtain ⟨h1, h2, h3, h4⟩ := seeOp_spec h
  obtain ⟨rs, A', H', n', g1, g2, g3, g4, g5⟩ := k
  rw [putL_eq, ← h4] at g1
  have hq : cls P (opAt P f p i).op = .quiet := by
    unfold clsB at hc
    split at hc
    · assumption
    · cases hc
    · cases hc
  have nE : ¬ isE P (⟨i, opAt P f p i, true, tl l, H, n, H1, n1⟩ : RecH) := fun h => h.2 hq
  refine ⟨_, A', H', n', .op i _ rs L _ _ _ v H1 n1 _ _ _ h1 h2 h3 J g1, fun x hx q hq hE hR => ?_, fun x hx hE q hq => ?_, fun q hq hR e he => ?_, g5⟩
  · rcases List.mem_cons.1 hx with rfl | hx
    · exact absurd hE nE
    · rcases List.mem_cons.1 hq with rfl | hq
      · have := g3 x hx hE (i, id) (List.mem_cons_self ..)
        rw [← hid] at this
        exact this
      · exact g2 x hx q hq hE hR
  · rcases List.mem_cons.1 hx with rfl | hx
    · exact absurd hE nE
    · exact g3 x hx hE q (by simp [hq])
  · rcases List.mem_cons.1 hq with rfl | hq
    · have := hob.mem e he
      rw [← hid] at this
      exact this
    · exact g4 q hq hR e he
/-- an operation that turns, or makes -/
theorem Sd.eff {i : Nat} {L : List Nat} {es : List (Nat × Heap × Heap)} {qs : List (Nat × Nat)} {l : List (Nat × V)} {v : V} {H1 : Heap} {n1 : Nat} (d : Option Tmp) (h : seeOp P f p i (tl l) = some (true, d)) (hc : Nat.beq (clsB P (opAt P f p i).op) 0 = false)
    (J : OpJ P (opAt P f p i) (evA (tl l)) H n v H1 n1) (hob : ObR (bAt P f p) i H H1 qs) (k : Sd P f p L ((i, H, H1) :: es) qs (tl (putL l d v)) H1 n1 K) : Sd P f p (i :: L) es qs (tl l) H n K := by
  obtain ⟨h1, h2, h3, h4⟩ := seeOp_spec h
  obtain ⟨rs, A', H', n', g1, g2, g3, g4, g5⟩ := k
  rw [putL_eq, ← h4] at g1
  have hq : cls P (opAt P f p i).op ≠ .quiet := fun e => by
    unfold clsB at hc
    rw [e] at hc
    cases hc
  have nR : ¬ isR P (⟨i, opAt P f p i, true, tl l, H, n, H1, n1⟩ : RecH) := fun h => hq h.2.1
  refine ⟨_, A', H', n', .op i _ rs L _ _ _ v H1 n1 _ _ _ h1 h2 h3 J g1, fun x hx q hq hE hR => ?_, fun x hx hE q hq => ?_, fun q hq hR e he => ?_, g5⟩
  · rcases List.mem_cons.1 hq with rfl | hq
    · exact absurd hR nR
    · rcases List.mem_cons.1 hx with rfl | hx
      · exact g4 q hq hR (i, H, H1) (List.mem_cons_self ..)
      · exact g2 x hx q hq hE hR
  · rcases List.mem_cons.1 hx with rfl | hx
    · exact hob.mem q hq
    · exact g3 x hx hE q hq
  · rcases List.mem_cons.1 hq with rfl | hq
    · exact absurd hR nR
    · exact g4 q hq hR e (by simp [he])
/-- operations that come to a value by themselves -/
noncomputable def selfL (P : Program) (f : Nat) (p : List Nat) : List Nat → List (Nat × V) → Option (List (Nat × V))
  | [], l => some l
  | i :: L, l => match selfOp P f p i l with
    | some l' => selfL P f p L l'
    | none => none
noncomputable def selfLD (P : Program) (f : Nat) (p : List Nat) (L : List Nat) (l : List (Nat × V)) : List (Nat × V) := match selfL P f p L l with | some l' => l' | none => []
theorem Sd.self1 {i : Nat} {L : List Nat} {es : List (Nat × Heap × Heap)} {qs : List (Nat × Nat)} {l l' : List (Nat × V)} (h : selfOp P f p i l = some l') (k : Sd P f p L es qs (tl l') H n K) : Sd P f p (i :: L) es qs (tl l) H n K := by
  unfold selfOp at h
  split at h
  · rename_i d hs
    split at h
    · rename_i hc hr
      split at h
      · rename_i ef hst
        cases h
        have hq : cls P (opAt P f p i).op = .quiet := by
          unfold clsB at hc
          split at hc
          · assumption
          · cases hc
          · cases hc
        obtain ⟨g1, g2⟩ := quiet_form hq hst
        have hst' : stepOp P (opAt P f p i).op (evA (tl l)) H n = some ef := by rw [← hst]; exact still_dep hq hr
        have J := OpJ.prim (P := P) (o := opAt P f p i) ef hst'
        rw [g1, g2] at J
        exact Sd.still d hs hc hr J k
      · cases h
    · cases h
  · rename_i d hs
    cases h
    exact Sd.skip d hs k
  · cases h
theorem Sd.go {L : List Nat} {es : List (Nat × Heap × Heap)} {qs : List (Nat × Nat)} : ∀ (M : List Nat) {l : List (Nat × V)}, (selfL P f p M l).isSome = true → Sd P f p L es qs (tl (selfLD P f p M l)) H n K → Sd P f p (M ++ L) es qs (tl l) H n K
  | [], l, _, h => h
  | i :: M, l, hs, h => by
    unfold selfLD at h
    simp only [selfL] at hs h
    cases h1 : selfOp P f p i l with
    | none => rw [h1] at hs; cases hs
    | some l' =>
      rw [h1] at hs h
      exact Sd.self1 h1 (Sd.go M hs h)
end
end Go.Proofs.YtkimkgbppegkhaaGreat.Cm

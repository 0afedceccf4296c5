/- Words of this session's own: what a slice of bytes' slices, and a slice of whole numbers, that came in reads as. No program is walked here. -/
import Derived.Test.YtbkcopejclcfdaaWWords
import Derived.Test.YtbkcopejclcfdaaWShare
import Derived.Test.YtbkcopejclcfdaaWFoot
import Derived.Test.YtbkcopejclcfdaaWMore
import Derived.Deep.Matrix
namespace Go.Proofs.YtbkcopejclcfdaaW.PrintWords
open Go.RowKit Go.Deep Go.ChangeShapes Go.WideShapes

/-- a slice of whole numbers -/
theorem open_nums {H : Type} {enc : TypeId × Value → H} {P : Program} {W : World} {base : Nat} {held : Bool} {t e : TypeId} {k : IntKind} {a : Option Addr} {len cap : Nat} {d : DataW H} {ps : List MemPlace}
    (hu : P.underlying t = some (.slice e)) (he : P.underlying e = some (.int k)) (ce : P.cellsOf e = 1) (h : DataW.Trod enc P W base (fun _ => true) held t (.slice a len cap) d ps) (hwt : ∀ n ∈ d.weights P t, n ≤ reachBytes) :
    ∃ l : List Int, len = l.length ∧ Kd.C (Kd.int k) W a l.length l ∧ l.length ≤ cap ∧ l.length * P.bytesOf e ≤ reachBytes ∧ ∀ x ∈ l, (Lit.int k x).wf = true := by
  have hsz : len * P.bytesOf e ≤ reachBytes := by
    obtain ⟨fuel, hf⟩ := h
    rcases open_ints hu he ce hf with ⟨hcs, _⟩ | ⟨x, l, c, zs, hcs, _, hl, hm, hz, hx, hcell, hwz⟩
    · simp [Value.cells] at hcs
      obtain ⟨_, rfl, _⟩ := hcs
      rw [Nat.zero_mul]
      exact Nat.zero_le _
    · simp [Value.cells] at hcs
      obtain ⟨_, rfl, _⟩ := hcs
      obtain ⟨hx1, _⟩ := Prod.mk.inj hx
      subst hx1
      have z := hwt ((lits (H := H) k (zs.take len)).length * P.bytesOf e + (lits (H := H) k (zs.drop len)).length * P.bytesOf e) (by rw [← Nat.add_mul]; simp [DataW.weights, hu])
      have e1 : (lits (H := H) k (zs.take len)).length = len := by
        simp only [if_true] at hz
        simp [lits, hz]
        omega
      rw [e1] at z
      omega
  have key2 : ∃ zs : List Int, (a = none ∧ len = 0 ∧ cap = 0 ∧ zs = []) ∨ ∃ x, a = some x ∧ len ≤ cap ∧ cap ≤ maxLen ∧ zs.length = cap ∧ (∀ i, i < zs.length → W.cell? (x.add i) = some (.int k (zs.getD i 0))) ∧ ∀ n ∈ zs, (Lit.int k n).wf = true := by
    obtain ⟨fuel, hf⟩ := h
    rcases open_ints hu he ce hf with ⟨hcs, _⟩ | ⟨x, l, c, zs, hcs, _, hl, hm, hz, _, hcell, hwz⟩
    · simp [Value.cells] at hcs
      obtain ⟨rfl, rfl, rfl⟩ := hcs
      exact ⟨[], .inl ⟨rfl, rfl, rfl, rfl⟩⟩
    · simp [Value.cells] at hcs
      obtain ⟨rfl, rfl, rfl⟩ := hcs
      exact ⟨zs, .inr ⟨_, rfl, hl, hm, by simpa using hz, hcell, hwz⟩⟩
  obtain ⟨zs, hz⟩ := key2
  obtain ⟨l, hl, hr, _, hw, hc⟩ := ReadsInt.ofRowC hz
  refine ⟨l, hl, Kd.C_of_reads (enc := Value.int k) (d := (0 : Int)) (h1 := fun _ => rfl) ?_, hc, by rw [← hl]; exact hsz, hw⟩
  exact hr

theorem weightsAll_mem {H : Type} {P : Program} {e : TypeId} : ∀ {l : List (DataW H)} {d : DataW H} {n : Nat}, d ∈ l → n ∈ d.weights P e → n ∈ DataW.weightsAll P e l
  | x :: l, d, n, hd, hn => by
    simp only [DataW.weightsAll, List.mem_append]
    rcases List.mem_cons.1 hd with rfl | hd
    · exact .inl hn
    · exact .inr (weightsAll_mem hd hn)
  | [], d, n, hd, hn => by cases hd

/-- a slice of slices of bytes -/
theorem open_rows {H : Type} {enc : TypeId × Value → H} {P : Program} {W : World} {base : Nat} {held : Bool} {t e q : TypeId} {k : IntKind} {a : Option Addr} {len cap : Nat} {d : DataW H} {ps : List MemPlace} (n : Nat)
    (hu : P.underlying t = some (.slice e)) (he : P.underlying e = some (.slice q)) (hq : P.underlying q = some (.int k)) (ce : P.cellsOf e = 1) (cq : P.cellsOf q = 1) (h : DataW.Trod enc P W base (fun _ => true) held t (.slice a len cap) d ps) (hwt : ∀ n ∈ d.weights P t, n ≤ reachBytes) :
    ∃ l : List (List Int), len = l.length ∧ Kd.C (Kd.slice n (Kd.int k)) W a l.length l ∧ l.length ≤ cap ∧ l.length * P.bytesOf e ≤ reachBytes ∧ (∀ row ∈ l, row.length * P.bytesOf q ≤ reachBytes) ∧ ∀ row ∈ l, ∀ x ∈ row, (Lit.int k x).wf = true := by
  obtain ⟨fuel, hf⟩ := h
  rcases open_int_rows hu he hq ce cq hf with ⟨hcs, _⟩ | ⟨x, l, c, A, L, C, Z, hcs, _, hl, hm, hx, hcell⟩
  · simp [Value.cells] at hcs
    obtain ⟨rfl, rfl, rfl⟩ := hcs
    exact ⟨[], rfl, Kd.C_nil _ _, Nat.le_refl _, by simp, by simp, by simp⟩
  · simp [Value.cells] at hcs
    obtain ⟨rfl, rfl, rfl⟩ := hcs
    have hlen : ((List.range len).map fun r => (Z r).take (L r)).length = len := by simp
    obtain ⟨hx1, _⟩ := Prod.mk.inj hx
    subst hx1
    refine ⟨(List.range len).map fun r => (Z r).take (L r), hlen.symm, ⟨rfl, by rw [hlen]; unfold maxLen at hm; omega, fun h0 => ⟨x, rfl, fun j p hp => ?_⟩⟩, by rw [hlen]; exact hl, ?_, ?_, ?_⟩
    · have hj : j < len := by
        have := (List.getElem?_eq_some_iff.1 hp).1
        simpa using this
      have hp' : (Z j).take (L j) = p := by
        rw [List.getElem?_map, List.getElem?_range hj] at hp
        simpa using hp
      obtain ⟨hc, hLC, hCm, hZ, hw, hn, ha⟩ := hcell j (by omega)
      have hpl : p.length = L j := by
        rw [← hp', List.length_take, hZ]
        omega
      refine ⟨[.slice (A j) (L j) (C j)], rfl, ⟨A j, C j, by rw [hpl], by omega, ⟨rfl, by unfold maxLen at hCm; omega, fun h1 => ?_⟩⟩, fun i u hi => ?_⟩
      · cases hA : A j with
        | none =>
          have := hn hA
          omega
        | some ad =>
          refine ⟨ad, rfl, fun i y hy => ⟨[.int k y], rfl, rfl, fun i2 u hu2 => ?_⟩⟩
          have hi2 : i2 = 0 := by
            have := (List.getElem?_eq_some_iff.1 hu2).1
            simpa using this
          subst hi2
          have hi : i < p.length := (List.getElem?_eq_some_iff.1 hy).1
          have hcc := (ha ad hA).2 i (by omega)
          have hval : (Z j).getD i 0 = y := by
            rw [← hp'] at hy
            rw [List.getElem?_take] at hy
            split at hy
            · rw [List.getD_eq_getElem?_getD, hy]
              rfl
            · cases hy
          rw [hval] at hcc
          simp at hu2
          subst hu2
          show W.cell? (ad.add (i * 1 + 0)) = some (.int k y)
          rw [Nat.mul_one, Nat.add_zero]
          exact hcc
      · have hi0 : i = 0 := by
          have := (List.getElem?_eq_some_iff.1 hi).1
          simpa using this
        subst hi0
        simp at hi
        subst hi
        show W.cell? (x.add (j * 1 + 0)) = _
        rw [Nat.mul_one, Nat.add_zero]
        exact hc
    · rw [hlen]
      refine Nat.le_trans ?_ (hwt _ (by simp only [DataW.weights, hu]; exact List.mem_cons_self))
      refine Nat.mul_le_mul_right _ ?_
      simp
    · intro row hrow
      obtain ⟨r, hr, rfl⟩ := List.mem_map.1 hrow
      have hr' : r < len := by simpa using hr
      obtain ⟨_, hLC, hCm, hZ, _, hn, _⟩ := hcell r (by omega)
      cases hA : A r with
      | none =>
        have h0 := hn hA
        have : ((Z r).take (L r)).length = 0 := by
          rw [List.length_take, hZ]
          omega
        rw [this, Nat.zero_mul]
        exact Nat.zero_le _
      | some ad =>
        have hin : ((lits (H := H) k ((Z r).take (L r))).length + (lits (H := H) k ((Z r).drop (L r))).length) * P.bytesOf q ∈ DataW.weightsAll (H := H) P e ((List.range len).map fun r => intRow k (A r) (L r) (Z r)) := by
          refine weightsAll_mem (d := intRow k (A r) (L r) (Z r)) (List.mem_map.2 ⟨r, hr, rfl⟩) ?_
          rw [hA]
          simp [intRow, DataW.weights, he]
        refine Nat.le_trans (Nat.mul_le_mul_right _ ?_) (hwt _ (by simp only [DataW.weights, hu]; exact List.mem_cons_of_mem _ (List.mem_append_left _ hin)))
        simp [lits]
    · intro row hrow y hy
      obtain ⟨r, hr, rfl⟩ := List.mem_map.1 hrow
      have hr' : r < len := by simpa using hr
      exact (hcell r (by omega)).2.2.2.2.1 y (List.mem_of_mem_take hy)
end Go.Proofs.YtbkcopejclcfdaaW.PrintWords

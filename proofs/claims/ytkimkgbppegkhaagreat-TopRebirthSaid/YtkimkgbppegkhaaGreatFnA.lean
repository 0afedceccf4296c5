/- The clean machine's walks of the elements' functions: products, sums, inverses. -/
import Derived.Test.YtkimkgbppegkhaaGreatCmY
import Derived.Test.YtkimkgbppegkhaaGreatGf
import Derived.Test.YtkimkgbppegkhaaGreatProg
namespace Go.Proofs.YtkimkgbppegkhaaGreat.Cm
open Go Go.RowKit Go.Proofs.YtkimkgbppegkhaaGreat.Gf
theorem and128_all : (List.range 256).all (fun a => (Nat.beq (a &&& 128) 0 == Nat.ble (a + 1) 128) && (Nat.ble (a &&& 128) 255)) = true := by kernel_rfl
theorem and128 {a : Nat} (ha : a < 256) : (a &&& 128 = 0 ↔ a < 128) := by
  have h := and128_all
  rw [List.all_eq_true] at h
  have h1 := h a (List.mem_range.mpr ha)
  rw [Bool.and_eq_true, beq_iff_eq, Bool.eq_iff_iff, Nat.beq_eq, Nat.ble_eq] at h1
  omega
theorem xor255 {a b : Nat} (ha : a < 256) (hb : b < 256) : a ^^^ b ≤ 255 := by have := xor_lt ha hb; omega
theorem wrap8 {z : Nat} (x : Int) (h : x % 256 = z) : IntKind.u8.wrap x = (z : Int) := by
  simp only [IntKind.wrap, IntKind.bits, IntKind.signed]
  simpa using h

theorem not_eqI_true {x y : Int} (h : not (eqI x y) = true) : x ≠ y := by rw [eqI_eq] at h; simpa using h
theorem not_eqI_false {x y : Int} (h : not (eqI x y) = false) : x = y := by rw [eqI_eq] at h; simpa using h
theorem eqI_true {x y : Int} (h : eqI x y = true) : x = y := by rw [eqI_eq] at h; simpa using h
theorem eqI_false {x y : Int} (h : eqI x y = false) : x ≠ y := by rw [eqI_eq] at h; simpa using h
theorem ltI_true {x y : Int} (h : ltI x y = true) : x < y := by rw [ltI_eq] at h; simpa using h
theorem ltI_false {x y : Int} (h : ltI x y = false) : y ≤ x := by rw [ltI_eq] at h; simpa using h

theorem gmN_zero : ∀ (n a : Nat), gmN n a 0 = 0
  | 0, _ => rfl
  | n + 1, a => by unfold gmN; rw [show (0 : Nat) / 2 = 0 from rfl, gmN_zero n]; simp
theorem times_loop {H : Heap} {n : Nat} : ∀ (k a b out : Nat) (K : Ko), a < 256 → b < 256 → out < 256 → b < 2 ^ k → (∀ A, A 5 = some (vb (out ^^^ gmN k a b)) → K (.exit 0) A H n) →
    ToL Tryz.prog 230 [0, 0, 0, 1, 1] (tl [(0, vb a), (1, vb b), (5, vb out)]) H n K := by
  intro k
  induction k with
  | zero =>
    intro a b out K ha hb ho h hK
    have hb0 : b = 0 := by omega
    subst hb0
    refine ToL.round ?_
    refine To.seq (by kernel_rfl) ?_
    refine To.seq (by kernel_rfl) ?_
    refine To.region (by kernel_rfl) ?_
    refine Sg.go 2 (by kernel_rfl) ?_
    refine Sg.done (by kernel_rfl) ?_
    show To Tryz.prog 230 [1, 0, 0, 0, 0, 1, 1] _ _ _ _
    refine To.ifF (by kernel_rfl) (by kernel_rfl) ?_
    refine To.exit 0 (by kernel_rfl) ?_
    exact hK _ (by simp only [gmN, Nat.xor_zero]; kernel_rfl)
  | succ k ih =>
    intro a b out K ha hb ho h hK
    rw [Nat.pow_succ] at h
    have hb1 : b &&& 1 = b % 2 := Nat.and_one_is_mod b
    refine ToL.round ?_
    refine To.seq (by kernel_rfl) ?_
    refine To.seq (by kernel_rfl) ?_
    refine To.region (by kernel_rfl) ?_
    refine Sg.go 2 (by kernel_rfl) ?_
    refine Sg.done (by kernel_rfl) ?_
    show To Tryz.prog 230 [1, 0, 0, 0, 0, 1, 1] _ _ _ _
    refine To.ifB (not (eqI (b : Int) 0)) (by kernel_rfl) (by kernel_rfl) (fun h0 => ?_) (fun h0 => ?_)
    · skip
      refine To.skip (by kernel_rfl) ?_
      show To Tryz.prog 230 [1, 0, 0, 0, 1, 1] _ _ _ _
      refine To.seq (by kernel_rfl) ?_
      refine To.block 1 (by kernel_rfl) ?_
      refine To.seq (by kernel_rfl) ?_
      refine To.seq (by kernel_rfl) ?_
      refine To.region (by kernel_rfl) ?_
      refine Sg.go 1 (by kernel_rfl) ?_
      refine Sg.op (some 12) (by kernel_rfl) (jBin (b_and .u8 b 1 (show b ≤ 255 by omega) (show 1 ≤ 255 by omega)) (by kernel_rfl)) ?_
      refine Sg.go 1 (by kernel_rfl) ?_
      refine Sg.done (by kernel_rfl) ?_
      show To Tryz.prog 230 [1, 0, 0, 0, 1, 0, 0, 0, 1, 1] _ _ _ _
      refine To.ifB (eqI ((b &&& 1 : Nat) : Int) 1) (by kernel_rfl) (by kernel_rfl) (fun h1 => ?_) (fun h1 => ?_)
      · skip
        refine To.region (by kernel_rfl) ?_
        refine Sg.go 2 (by kernel_rfl) ?_
        refine Sg.op (some 16) (by kernel_rfl) (jBin (b_xor .u8 out a (show out ≤ 255 by omega) (show a ≤ 255 by omega) (xor255 ho ha)) (by kernel_rfl)) ?_
        refine Sg.go 1 (by kernel_rfl) ?_
        refine Sg.done (by kernel_rfl) ?_
        show To Tryz.prog 230 [1, 0, 0, 1, 0, 0, 0, 1, 1] _ _ _ _
        have h2 : b % 2 = 1 := by have := eqI_true h1; omega
        refine To.seq (by kernel_rfl) ?_
        refine To.region (by kernel_rfl) ?_
        refine Sg.go 1 (by kernel_rfl) ?_
        refine Sg.op (some 18) (by kernel_rfl) (jBin (b_and .u8 a 128 (show a ≤ 255 by omega) (show 128 ≤ 255 by omega)) (by kernel_rfl)) ?_
        refine Sg.go 2 (by kernel_rfl) ?_
        refine Sg.done (by kernel_rfl) ?_
        show To Tryz.prog 230 [1, 1, 0, 0, 1, 0, 0, 0, 1, 1] _ _ _ _
        refine To.seq (by kernel_rfl) ?_
        refine To.region (by kernel_rfl) ?_
        refine Sg.go 1 (by kernel_rfl) ?_
        refine Sg.op (some 21) (by kernel_rfl) (jBin (b_shl .u8 .u64 a 1 ((2 * a) % 256) (wrap8 _ (by show ((a * 2 : Nat) : Int) % 256 = _; omega))) (by kernel_rfl)) ?_
        refine Sg.go 1 (by kernel_rfl) ?_
        refine Sg.done (by kernel_rfl) ?_
        show To Tryz.prog 230 [1, 1, 1, 0, 0, 1, 0, 0, 0, 1, 1] _ _ _ _
        refine To.seq (by kernel_rfl) ?_
        refine To.region (by kernel_rfl) ?_
        refine Sg.go 1 (by kernel_rfl) ?_
        refine Sg.done (by kernel_rfl) ?_
        show To Tryz.prog 230 [1, 1, 1, 1, 0, 0, 1, 0, 0, 0, 1, 1] _ _ _ _
        refine To.ifB (not (eqI ((a &&& 128 : Nat) : Int) 0)) (by kernel_rfl) (by kernel_rfl) (fun h3 => ?_) (fun h3 => ?_)
        · skip
          refine To.region (by kernel_rfl) ?_
          refine Sg.go 1 (by kernel_rfl) ?_
          refine Sg.op (some 24) (by kernel_rfl) (jBin (b_xor .u8 ((2 * a) % 256) 29 (show (2 * a) % 256 ≤ 255 by omega) (show 29 ≤ 255 by omega) (xor255 (by omega) (by omega))) (by kernel_rfl)) ?_
          refine Sg.go 1 (by kernel_rfl) ?_
          refine Sg.done (by kernel_rfl) ?_
          show To Tryz.prog 230 [1, 1, 0, 0, 0, 1, 1] _ _ _ _
          refine To.region (by kernel_rfl) ?_
          refine Sg.go 1 (by kernel_rfl) ?_
          refine Sg.op (some 10) (by kernel_rfl) (jBin (b_shr .u8 .u64 b 1) (by kernel_rfl)) ?_
          refine Sg.go 1 (by kernel_rfl) ?_
          refine Sg.done (by kernel_rfl) ?_
          have h4 : 128 ≤ a := by
            have := not_eqI_true h3
            have := and128 ha
            omega
          refine ToL.only [0, 1, 5] [(0, vb ((2 * a) % 256 ^^^ 29)), (1, vb (b / 2)), (5, vb (out ^^^ a))] (by kernel_rfl) ?_
          exact ih _ _ _ _ (xor_lt (by omega) (by omega)) (by omega) (xor_lt ho ha) (by omega) (fun A hA => hK A (by rw [hA]; simp only [gmN, xt, h2, h4, Nat.xor_assoc, Nat.zero_xor, if_true, if_false]))
        · skip
          refine To.skip (by kernel_rfl) ?_
          show To Tryz.prog 230 [1, 1, 0, 0, 0, 1, 1] _ _ _ _
          refine To.region (by kernel_rfl) ?_
          refine Sg.go 1 (by kernel_rfl) ?_
          refine Sg.op (some 10) (by kernel_rfl) (jBin (b_shr .u8 .u64 b 1) (by kernel_rfl)) ?_
          refine Sg.go 1 (by kernel_rfl) ?_
          refine Sg.done (by kernel_rfl) ?_
          have h4 : ¬ 128 ≤ a := by
            have := not_eqI_false h3
            have := and128 ha
            omega
          refine ToL.only [0, 1, 5] [(0, vb ((2 * a) % 256)), (1, vb (b / 2)), (5, vb (out ^^^ a))] (by kernel_rfl) ?_
          exact ih _ _ _ _ (by omega) (by omega) (xor_lt ho ha) (by omega) (fun A hA => hK A (by rw [hA]; simp only [gmN, xt, h2, h4, Nat.xor_assoc, Nat.zero_xor, if_true, if_false]))
      · skip
        have h2 : ¬ b % 2 = 1 := by have := eqI_false h1; omega
        refine To.skip (by kernel_rfl) ?_
        show To Tryz.prog 230 [1, 0, 0, 1, 0, 0, 0, 1, 1] _ _ _ _
        refine To.seq (by kernel_rfl) ?_
        refine To.region (by kernel_rfl) ?_
        refine Sg.go 1 (by kernel_rfl) ?_
        refine Sg.op (some 18) (by kernel_rfl) (jBin (b_and .u8 a 128 (show a ≤ 255 by omega) (show 128 ≤ 255 by omega)) (by kernel_rfl)) ?_
        refine Sg.go 2 (by kernel_rfl) ?_
        refine Sg.done (by kernel_rfl) ?_
        show To Tryz.prog 230 [1, 1, 0, 0, 1, 0, 0, 0, 1, 1] _ _ _ _
        refine To.seq (by kernel_rfl) ?_
        refine To.region (by kernel_rfl) ?_
        refine Sg.go 1 (by kernel_rfl) ?_
        refine Sg.op (some 21) (by kernel_rfl) (jBin (b_shl .u8 .u64 a 1 ((2 * a) % 256) (wrap8 _ (by show ((a * 2 : Nat) : Int) % 256 = _; omega))) (by kernel_rfl)) ?_
        refine Sg.go 1 (by kernel_rfl) ?_
        refine Sg.done (by kernel_rfl) ?_
        show To Tryz.prog 230 [1, 1, 1, 0, 0, 1, 0, 0, 0, 1, 1] _ _ _ _
        refine To.seq (by kernel_rfl) ?_
        refine To.region (by kernel_rfl) ?_
        refine Sg.go 1 (by kernel_rfl) ?_
        refine Sg.done (by kernel_rfl) ?_
        show To Tryz.prog 230 [1, 1, 1, 1, 0, 0, 1, 0, 0, 0, 1, 1] _ _ _ _
        refine To.ifB (not (eqI ((a &&& 128 : Nat) : Int) 0)) (by kernel_rfl) (by kernel_rfl) (fun h3 => ?_) (fun h3 => ?_)
        · skip
          refine To.region (by kernel_rfl) ?_
          refine Sg.go 1 (by kernel_rfl) ?_
          refine Sg.op (some 24) (by kernel_rfl) (jBin (b_xor .u8 ((2 * a) % 256) 29 (show (2 * a) % 256 ≤ 255 by omega) (show 29 ≤ 255 by omega) (xor255 (by omega) (by omega))) (by kernel_rfl)) ?_
          refine Sg.go 1 (by kernel_rfl) ?_
          refine Sg.done (by kernel_rfl) ?_
          show To Tryz.prog 230 [1, 1, 0, 0, 0, 1, 1] _ _ _ _
          refine To.region (by kernel_rfl) ?_
          refine Sg.go 1 (by kernel_rfl) ?_
          refine Sg.op (some 10) (by kernel_rfl) (jBin (b_shr .u8 .u64 b 1) (by kernel_rfl)) ?_
          refine Sg.go 1 (by kernel_rfl) ?_
          refine Sg.done (by kernel_rfl) ?_
          have h4 : 128 ≤ a := by
            have := not_eqI_true h3
            have := and128 ha
            omega
          refine ToL.only [0, 1, 5] [(0, vb ((2 * a) % 256 ^^^ 29)), (1, vb (b / 2)), (5, vb (out))] (by kernel_rfl) ?_
          exact ih _ _ _ _ (xor_lt (by omega) (by omega)) (by omega) ho (by omega) (fun A hA => hK A (by rw [hA]; simp only [gmN, xt, h2, h4, Nat.xor_assoc, Nat.zero_xor, if_true, if_false]))
        · skip
          refine To.skip (by kernel_rfl) ?_
          show To Tryz.prog 230 [1, 1, 0, 0, 0, 1, 1] _ _ _ _
          refine To.region (by kernel_rfl) ?_
          refine Sg.go 1 (by kernel_rfl) ?_
          refine Sg.op (some 10) (by kernel_rfl) (jBin (b_shr .u8 .u64 b 1) (by kernel_rfl)) ?_
          refine Sg.go 1 (by kernel_rfl) ?_
          refine Sg.done (by kernel_rfl) ?_
          have h4 : ¬ 128 ≤ a := by
            have := not_eqI_false h3
            have := and128 ha
            omega
          refine ToL.only [0, 1, 5] [(0, vb ((2 * a) % 256)), (1, vb (b / 2)), (5, vb (out))] (by kernel_rfl) ?_
          exact ih _ _ _ _ (by omega) (by omega) ho (by omega) (fun A hA => hK A (by rw [hA]; simp only [gmN, xt, h2, h4, Nat.xor_assoc, Nat.zero_xor, if_true, if_false]))
    · skip
      refine To.exit 0 (by kernel_rfl) ?_
      have hb0 : b = 0 := by have := not_eqI_false h0; omega
      subst hb0
      exact hK _ (by rw [show gmN (k + 1) a 0 = 0 from gmN_zero _ _, Nat.xor_zero]; kernel_rfl)
theorem times_any (a b : Nat) (ha : a < 256) (hb : b < 256) (H : Heap) (n : Nat) : CallsC Tryz.prog 230 [vb a, vb b] H n (vb (gm a b)) H n := by
  have h : ∃ v H' n', CallsC Tryz.prog 230 [vb a, vb b] H n v H' n' ∧ (v = vb (gm a b) ∧ H' = H ∧ n' = n) := by
    refine CallsC.of_to (by kernel_rfl) ?_
    refine To.seq (by kernel_rfl) ?_
    refine To.region (by kernel_rfl) ?_
    refine Sg.go 1 (by kernel_rfl) ?_
    refine Sg.done (by kernel_rfl) ?_
    show To Tryz.prog 230 [1] _ _ _ _
    refine To.seq (by kernel_rfl) ?_
    refine To.region (by kernel_rfl) ?_
    refine Sg.go 1 (by kernel_rfl) ?_
    refine Sg.done (by kernel_rfl) ?_
    show To Tryz.prog 230 [1, 1] _ _ _ _
    refine To.seq (by kernel_rfl) ?_
    refine To.block 0 (by kernel_rfl) ?_
    refine To.loop (by kernel_rfl) ?_
    refine ToL.only [0, 1, 5] [(0, vb a), (1, vb b), (5, vb 0)] (by kernel_rfl) ?_
    refine times_loop 8 a b 0 _ ha hb (by omega) hb (fun A hA => ?_)
    show To Tryz.prog 230 [1, 1, 1] _ _ _ _
    refine To.only [5] [(5, vb (gm a b))] (by simp only [getsL, hA, Nat.zero_xor]; rfl) ?_
    refine To.seq (by kernel_rfl) ?_
    refine To.region (by kernel_rfl) ?_
    refine Sg.go 2 (by kernel_rfl) ?_
    refine Sg.done (by kernel_rfl) ?_
    show To Tryz.prog 230 [1, 1, 1, 1] _ _ _ _
    refine To.ret (by kernel_rfl) ?_
    exact ⟨.inr rfl, _, by kernel_rfl, rfl, rfl, rfl⟩
  obtain ⟨v, H', n', h1, rfl, rfl, rfl⟩ := h
  exact h1
end Go.Proofs.YtkimkgbppegkhaaGreat.Cm

/- The clean machine: which number a block of two source symbols is made with. -/
import Derived.Test.YtkimkgbppegkhaaGreatFnO
import Derived.Test.YtkimkgbppegkhaaGreatFnR
namespace Go.Proofs.YtkimkgbppegkhaaGreat.Cm
open Go Go.RowKit
set_option maxRecDepth 1000000
noncomputable def ev45 (k : Nat) : Option (V × T O × Nat) := evCall Tryz.prog orcR 100000 45 [vi k] .leaf 0
/-- two whole numbers, the first one given, the second one 0; and not many names -/
noncomputable def isJ (j : Nat) (o : Option (V × T O × Nat)) : Bool := match o with
  | some (.tup [.f (.int .i64 a), .f (.int .i64 b)], _, n) => eqI a j && eqI b 0 && Nat.ble n 100000
  | _ => false
theorem find_of {k j : Nat} (h : isJ j (ev45 k) = true) (H : Heap) (m : Nat) (hH : ∀ i, m ≤ i → i < m + 100000 → H i = none) : CallsC Tryz.prog 45 [vi k] H m (.tup [.f (.int .i64 j), .f (.int .i64 0)]) H (m + 100000) := by
  unfold isJ at h
  split at h
  · rename_i a b H' n he
    rw [Bool.and_eq_true, Bool.and_eq_true, eqI_eq, eqI_eq, beq_iff_eq, beq_iff_eq] at h
    obtain ⟨⟨rfl, rfl⟩, h⟩ := h
    have hn := Nat.le_of_ble_eq_true h
    have h1 := evCall_ok progOk orcR_ok 100000 45 [vi k] .leaf 0 _ H' n (fun _ _ => rfl) he
    have h2 := (h1.less (G := fun _ => none) (fun _ _ h => by cases h) hn).closed H m rfl hH
    have e : (renH (m + ·) (· - m) (fun _ => none)).or H = H := by
      funext i
      have : renH (m + ·) (· - m) (fun _ => none) i = none := by unfold renH; split <;> rfl
      rw [Heap.or_right this]
    rw [e] at h2
    exact h2
  · cases h
theorem find1 (H : Heap) (m : Nat) (hH : ∀ i, m ≤ i → i < m + 100000 → H i = none) : CallsC Tryz.prog 45 [vi 1] H m (.tup [.f (.int .i64 (0 : Nat)), .f (.int .i64 0)]) H (m + 100000) := find_of (by kernel_rfl) H m hH
theorem find2 (H : Heap) (m : Nat) (hH : ∀ i, m ≤ i → i < m + 100000 → H i = none) : CallsC Tryz.prog 45 [vi 2] H m (.tup [.f (.int .i64 (0 : Nat)), .f (.int .i64 0)]) H (m + 100000) := find_of (by kernel_rfl) H m hH
theorem find3 (H : Heap) (m : Nat) (hH : ∀ i, m ≤ i → i < m + 100000 → H i = none) : CallsC Tryz.prog 45 [vi 3] H m (.tup [.f (.int .i64 (0 : Nat)), .f (.int .i64 0)]) H (m + 100000) := find_of (by kernel_rfl) H m hH
theorem find4 (H : Heap) (m : Nat) (hH : ∀ i, m ≤ i → i < m + 100000 → H i = none) : CallsC Tryz.prog 45 [vi 4] H m (.tup [.f (.int .i64 (0 : Nat)), .f (.int .i64 0)]) H (m + 100000) := find_of (by kernel_rfl) H m hH
theorem find5 (H : Heap) (m : Nat) (hH : ∀ i, m ≤ i → i < m + 100000 → H i = none) : CallsC Tryz.prog 45 [vi 5] H m (.tup [.f (.int .i64 (0 : Nat)), .f (.int .i64 0)]) H (m + 100000) := find_of (by kernel_rfl) H m hH
theorem find6 (H : Heap) (m : Nat) (hH : ∀ i, m ≤ i → i < m + 100000 → H i = none) : CallsC Tryz.prog 45 [vi 6] H m (.tup [.f (.int .i64 (0 : Nat)), .f (.int .i64 0)]) H (m + 100000) := find_of (by kernel_rfl) H m hH
theorem find7 (H : Heap) (m : Nat) (hH : ∀ i, m ≤ i → i < m + 100000 → H i = none) : CallsC Tryz.prog 45 [vi 7] H m (.tup [.f (.int .i64 (0 : Nat)), .f (.int .i64 0)]) H (m + 100000) := find_of (by kernel_rfl) H m hH
theorem find8 (H : Heap) (m : Nat) (hH : ∀ i, m ≤ i → i < m + 100000 → H i = none) : CallsC Tryz.prog 45 [vi 8] H m (.tup [.f (.int .i64 (0 : Nat)), .f (.int .i64 0)]) H (m + 100000) := find_of (by kernel_rfl) H m hH
end Go.Proofs.YtkimkgbppegkhaaGreat.Cm

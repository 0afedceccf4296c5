/- Laws of a row of numbers: one is set, the end is cleared. No walk here. -/
import Derived.Test.YtbkcopejclcfdaaLkBase
namespace Go.Proofs.Ytbkcopejclcfdaa
open Go.RowKit
set_option linter.unusedVariables false
theorem ints_set (l : List Int) (i : Nat) (x : Int) : (ints l).set i (.int .i64 x) = ints (l.set i x) := by
  unfold ints
  rw [List.map_set]
theorem ints_take (l : List Int) (i : Nat) : (ints l).take i = ints (l.take i) := by simp [ints, List.map_take]
/-- one number of an own row is set -/
theorem row_set {w : World} {B g n cap i : Nat} {l : List Int} (h : w.ownsRow B 3 1 (.slice (some ⟨g, 0, none⟩) n cap) n (ints l)) (hi : i < n) (x : Int) :
    (w.setCell ⟨g, i, none⟩ (.int .i64 x)).ownsRow B 3 1 (.slice (some ⟨g, 0, none⟩) n cap) n (ints (l.set i x)) := by
  rcases h.2 with ⟨h2, _⟩ | ⟨g', cap', cur, h2, hB, hg, hnc, hcm, hcs, htk⟩
  · cases h2
  · injection h2 with h3 _ h5
    injection h3 with h3
    injection h3 with h3
    subst h3 h5
    refine ⟨by rw [ints_length, List.length_set, ← ints_length]; exact h.1, .inr ⟨g, cap, _, rfl, hB, blk_setCell hg i _, hnc, hcm, by simpa using hcs, ?_⟩⟩
    rw [Array.toList_setIfInBounds, List.take_set, htk, ints_set]
theorem row_free {w : World} {B g n cap i : Nat} {xs : List Value} (h : w.ownsRow B 3 1 (.slice (some ⟨g, 0, none⟩) n cap) n xs) : w.frozen? ⟨g, i, none⟩ = false := by
  rcases h.2 with ⟨h2, _⟩ | ⟨g', cap', cur, h2, hB, hg, hnc, hcm, hcs, htk⟩
  · cases h2
  · injection h2 with h3 _ h5
    injection h3 with h3
    injection h3 with h3
    subst h3 h5
    exact free_of_blk hg
theorem row_get {w : World} {B g n cap i : Nat} {l : List Int} (h : w.ownsRow B 3 1 (.slice (some ⟨g, 0, none⟩) n cap) n (ints l)) (hi : i < l.length) : w.cell? ⟨g, i, none⟩ = some (.int .i64 l[i]) := by
  have := h.cells (g := g) rfl i _ (ints_get l i hi)
  rw [Addr.add_lit, Nat.zero_add] at this
  exact this
theorem row_len {w : World} {B n : Nat} {v : Value} {l : List Int} (h : w.ownsRow B 3 1 v n (ints l)) : l.length = n := by
  have := h.1
  rw [ints_length] at this
  omega
theorem zero3 (w : World) : (zeroValue 3).run Try.prog w = .ok (.int .i64 0) w := by kernel_rfl
theorem zeroCells3 (m : Nat) : (Builtin.zeroCells (Value.int .i64 0).cells m).toList = List.replicate m (.int .i64 0) := by
  have h : (Value.int .i64 0).cells = #[.int .i64 0] := rfl
  rw [h]
  apply List.ext_getElem
  · simp [Builtin.zeroCells]
  · intro i h1 h2
    simp [Builtin.zeroCells, Nat.mod_one]
/-- the end of a row is cleared -/
theorem row_clear_end (w : World) (B g n cap i : Nat) (xs : List Value) (h : w.ownsRow B 3 1 (.slice (some ⟨g, 0, none⟩) n cap) n xs) (hi : i < n) (c : Nat) :
    ∃ w', (Builtin.clear_ #[27] 0 #[.slice (cutAt (some ⟨g, 0, none⟩) cap i 1) (n - i) c]).run Try.prog w = .ok (.tuple #[]) w' ∧ w'.ownsRow B 3 1 (.slice (some ⟨g, 0, none⟩) i cap) i (xs.take i) ∧ Turns (fun q => q = g) w w' := by
  have hnc0 := own_le h
  have ha : cutAt (some ⟨g, 0, none⟩) cap i 1 = some ⟨g, i, none⟩ := by
    unfold cutAt
    rw [if_neg (by omega)]
    simp only [Option.map_some, Addr.add_lit, Nat.zero_add, Nat.mul_one]
  rw [ha]
  rcases h.2 with ⟨h2, _⟩ | ⟨g', cap', cur, h2, hB, hg, hnc, hcm, hcs, htk⟩
  · cases h2
  · injection h2 with h3 _ h5
    injection h3 with h3
    injection h3 with h3
    subst h3 h5
    rw [Nat.mul_one] at hcs htk
    have hzl : (List.replicate (n - i) (Value.int .i64 0)).length = n - i := by simp
    have hfit : i + 0 + (List.replicate (n - i) (Value.int .i64 0)).length ≤ cur.size := by rw [hzl, hcs]; omega
    have hone : ∀ u ∈ List.replicate (n - i) (Value.int .i64 0), u.oneCell' = true := by
      intro u hu
      obtain ⟨_, rfl⟩ := List.mem_replicate.1 hu
      rfl
    have hst := run_storeCells_at Try.prog g i 3 (List.replicate (n - i) (Value.int .i64 0)) 0 cur w hg hfit hone
    simp only [Nat.add_zero] at hst
    have hu := run_underlying (P := Try.prog) Try.underlying27
    have hrun0 : ∀ w9, (storeCells ⟨g, i, none⟩ (List.replicate (n - i) (Value.int .i64 0))).run Try.prog w = .ok () w9 → (Builtin.clear_ #[27] 0 #[.slice (some ⟨g, i, none⟩) (n - i) c]).run Try.prog w = .ok (.tuple #[]) w9 := by
      intro w9 h9
      obtain ⟨m, hm⟩ : ∃ m, n - i = m + 1 := ⟨n - i - 1, by omega⟩
      rw [hm] at h9 ⊢
      simp [Builtin.clear_, hu, zeroCells3, h9]
    have hrun := hrun0 _ hst
    refine ⟨_, hrun, ⟨?_, .inr ⟨g, cap, _, rfl, hB, setRow_heap w g cur _ 3 _ hg, by omega, hcm, ?_, ?_⟩⟩, ⟨rfl, rfl, rfl, by simp [World.setRow], fun q _ hq => setRow_other w g q _ hq⟩⟩
    · rw [List.length_take, h.1]
      omega
    · rw [Nat.mul_one, ← hcs]
      simp only [List.size_toArray, List.length_append, List.length_take, List.length_drop, Array.length_toList]
      omega
    · rw [Nat.mul_one, List.append_assoc, List.take_append_of_le_length]
      · rw [List.take_take, Nat.min_self, ← htk, List.take_take, Nat.min_eq_left (by omega)]
      · rw [List.length_take, Array.length_toList]
        omega
end Go.Proofs.Ytbkcopejclcfdaa

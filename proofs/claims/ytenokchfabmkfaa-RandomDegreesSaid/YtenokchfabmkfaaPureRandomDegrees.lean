/- RandomDegrees (chapter 4): at each step the degree changes; no condition. -/
import Derived.Test.YtenokchfabmkfaaPRandomDegreesx1
import Derived.Test.YtenokchfabmkfaaRand
namespace Go.Proofs.Ytenokchfabmkfaa.Pure
open Go.RowKit Go.Proofs.Ytenokchfabmkfaa.PRandomDegrees Go.Proofs.YtenokchfabmkfaaW.PrintWords Go.Proofs.YtenokchfabmkfaaW.PrintLast Go.Proofs.Ytenokchfabmkfaa.Rand

theorem wrap_step {i : Int} (h0 : 0 ≤ i) (h : i < 1000) : wrap64 (i + 1) = i + 1 := by
  unfold wrap64
  omega
theorem rd_cons (pre : List Int) (s : Int) (rest : List Int) : rd (pre ++ s :: rest) (pre.length : Int) = s := by
  simp [rd]
theorem degl (v : Int) (rest : List Int) : ∀ (k : Nat) (pre : List Int) (n : Int), rest.length < k → 0 ≤ n → pre.length + rest.length < 400 → rest.length + n < 800 →
    random_Degree.l0 k v n (pre ++ rest) ((pre ++ rest).length : Int) (pre.length : Int) = some (n + cnt v rest) := by
  induction rest with
  | nil =>
    intro k pre n hk h0 h2 h3
    obtain ⟨k, rfl⟩ : ∃ m, k = m + 1 := ⟨k - 1, by simp at hk; omega⟩
    simp [random_Degree.l0, cnt]
  | cons s rest ih =>
    intro k pre n hk h0 h2 h3
    simp only [List.length_cons] at hk h2 h3
    obtain ⟨k, rfl⟩ : ∃ m, k = m + 1 := ⟨k - 1, by omega⟩
    simp only [random_Degree.l0]
    rw [rd_cons, cnt_cons, if_pos (by simp; omega), if_pos (by omega), if_pos (by simp; omega)]
    rw [wrap_step h0 (by omega), wrap_step (i := (pre.length : Int)) (by omega) (by omega)]
    have hp : (pre ++ s :: rest) = (pre ++ [s]) ++ rest := by simp
    have hl : ((pre.length : Int) + 1) = ((pre ++ [s]).length : Int) := by simp
    by_cases h : s ≤ v
    · rw [if_pos h, if_pos h]
      rw [hp, hl]
      rw [ih k (pre ++ [s]) (n + 1) (by omega) (by omega) (by simp; omega) (by omega)]
      exact congrArg some (by omega)
    · rw [if_neg h, if_neg h]
      rw [hp, hl, ih k (pre ++ [s]) n (by omega) (by omega) (by simp; omega) (by omega)]
      congr 1
      omega
theorem mm (v : Int) : mx 0 (mn v 1048575) = max 0 (min v 1048575) := by
  unfold mx mn
  omega
theorem deg_is (v : Int) (k : Nat) (hk : 7 < k) : random_Degree.f k v = some (degI v) := by
  unfold random_Degree.f random_steps.f
  simp only [Option.bind_some]
  have := degl (max 0 (min v 1048575)) stepsL k [] 1 hk (by decide) (by decide) (by decide)
  rw [mm, degI_eq]
  exact this
theorem stir_is (x : Int) : random_Stir.f x = some (stirI x) := by
  unfold stirI
  rfl
theorem alive_true (k : Nat) (hk : 7 < k) : fountainlaw4_alive.f k = some true := by
  unfold fountainlaw4_alive.f
  rw [deg_is 0 k hk, deg_is 5243 k hk]
  decide +kernel

theorem j0_true (a0 a1 : Int) (b : Bool) (hb : b = false → 0 ≤ a0 ∧ a0 ≤ 6 ∧ -1 ≤ a1 ∧ a1 ≤ 0) : fountainlaw4_RandomDegrees.j0 9 a0 a1 true b = some true := by
  cases b with
  | true => simp only [fountainlaw4_RandomDegrees.j0, if_true]
  | false =>
    obtain ⟨h1, h2, h3, h4⟩ := hb rfl
    simp only [fountainlaw4_RandomDegrees.j0, Option.bind_some]
    simp only [deg_is _ 8 (by decide), Option.bind_some]
    have c0 : a0 = 0 ∨ a0 = 1 ∨ a0 = 2 ∨ a0 = 3 ∨ a0 = 4 ∨ a0 = 5 ∨ a0 = 6 := by omega
    have c1 : a1 = -1 ∨ a1 = 0 := by omega
    rcases c0 with rfl | rfl | rfl | rfl | rfl | rfl | rfl <;> rcases c1 with rfl | rfl <;> decide +kernel

theorem RandomDegrees : fountainlaw4_RandomDegrees.Pure := by
  intro a0 a1 _ _
  refine ⟨9, ?_⟩
  unfold fountainlaw4_RandomDegrees.f
  rw [alive_true 9 (by decide)]
  simp only [Option.bind_some, if_true]
  split
  · exact j0_true _ _ _ (fun h => by cases h)
  · split
    · exact j0_true _ _ _ (fun h => by cases h)
    · split
      · exact j0_true _ _ _ (fun h => by cases h)
      · exact j0_true _ _ _ (fun h => by have := of_decide_eq_false h; omega)

end Go.Proofs.Ytenokchfabmkfaa.Pure

/- RandomBelow (chapter 4): what is drawn is below what it is drawn of; no condition. -/
import Derived.Test.YtenokchfabmkfaaPRandomBelowx1
import Derived.Test.YtenokchfabmkfaaRand
namespace Go.Proofs.Ytenokchfabmkfaa.Pure
open Go.RowKit Go.Proofs.Ytenokchfabmkfaa.PRandomBelow Go.Proofs.YtenokchfabmkfaaW.PrintWords Go.Proofs.YtenokchfabmkfaaW.PrintLast Go.Proofs.Ytenokchfabmkfaa.Rand

theorem wrap_step {i : Int} (h0 : 0 ≤ i) (h : i < 1000) : wrap64 (i + 1) = i + 1 := by
  unfold wrap64
  omega
theorem rd_cons (pre : List Int) (s : Int) (rest : List Int) : rd (pre ++ s :: rest) (pre.length : Int) = s := by
  simp [rd]
theorem degl (v : Int) (rest : List Int) : ∀ (k : Nat) (pre : List Int) (n : Int), rest.length < k → 0 ≤ n → pre.length + rest.length < 400 → rest.length + n < 800 →
    random_Degree.l0 k v n (pre ++ rest) ((pre ++ rest).length : Int) (pre.length : Int) = some (n + cnt v rest) := by
  induction rest with
  | nil =>
    intro k pre n hk h0 h2 h3
    obtain ⟨k, rfl⟩ : ∃ m, k = m + 1 := ⟨k - 1, by simp at hk; omega⟩
    simp [random_Degree.l0, cnt]
  | cons s rest ih =>
    intro k pre n hk h0 h2 h3
    simp only [List.length_cons] at hk h2 h3
    obtain ⟨k, rfl⟩ : ∃ m, k = m + 1 := ⟨k - 1, by omega⟩
    simp only [random_Degree.l0]
    rw [rd_cons, cnt_cons, if_pos (by simp; omega), if_pos (by omega), if_pos (by simp; omega)]
    rw [wrap_step h0 (by omega), wrap_step (i := (pre.length : Int)) (by omega) (by omega)]
    have hp : (pre ++ s :: rest) = (pre ++ [s]) ++ rest := by simp
    have hl : ((pre.length : Int) + 1) = ((pre ++ [s]).length : Int) := by simp
    by_cases h : s ≤ v
    · rw [if_pos h, if_pos h]
      rw [hp, hl]
      rw [ih k (pre ++ [s]) (n + 1) (by omega) (by omega) (by simp; omega) (by omega)]
      exact congrArg some (by omega)
    · rw [if_neg h, if_neg h]
      rw [hp, hl, ih k (pre ++ [s]) n (by omega) (by omega) (by simp; omega) (by omega)]
      congr 1
      omega
theorem mm (v : Int) : mx 0 (mn v 1048575) = max 0 (min v 1048575) := by
  unfold mx mn
  omega
theorem deg_is (v : Int) (k : Nat) (hk : 7 < k) : random_Degree.f k v = some (degI v) := by
  unfold random_Degree.f random_steps.f
  simp only [Option.bind_some]
  have := degl (max 0 (min v 1048575)) stepsL k [] 1 hk (by decide) (by decide) (by decide)
  rw [mm, degI_eq]
  exact this
theorem stir_is (x : Int) : random_Stir.f x = some (stirI x) := by
  unfold stirI
  rfl
theorem alive_true (k : Nat) (hk : 7 < k) : fountainlaw4_alive.f k = some true := by
  unfold fountainlaw4_alive.f
  rw [deg_is 0 k hk, deg_is 5243 k hk]
  decide +kernel
theorem rand_z (y i : Int) (hy : 0 ≤ y ∧ y ≤ 4294967295) : ∃ z : Int, 0 ≤ z ∧ z ≤ 4294967295 ∧ ∀ m : Int, 1 ≤ m → random_Rand.f y i m = some (z % m) := by
  have s1 := stirI_of hy.1 hy.2
  obtain ⟨_, _, s3, s4⟩ := stirI_of (a := (stirI y + ((i * 2654435769) % 4294967296)) % 4294967296) (by omega) (by omega)
  refine ⟨_, s3, s4, fun m hm => ?_⟩
  unfold random_Rand.f
  rw [if_neg (by omega)]
  simp only [stir_is, Option.bind_some]
  generalize stirI ((stirI y + ((i * 2654435769) % 4294967296)) % 4294967296) = z at *
  have e3 : wrap64 z = z := by unfold wrap64; omega
  rw [if_neg (by omega), e3, Int.tmod_eq_emod_of_nonneg s3]
theorem rand_no (y i m : Int) (hm : m < 1) : random_Rand.f y i m = some 0 := by
  unfold random_Rand.f
  rw [if_pos hm]

theorem j0_true (y i m : Int) (hy : 0 ≤ y ∧ y ≤ 4294967295) (b : Bool) (hb : b = false → 1 ≤ m) : fountainlaw4_RandomBelow.j0 8 y i m true b = some true := by
  cases b with
  | true => simp only [fountainlaw4_RandomBelow.j0, if_true]
  | false =>
    have hm := hb rfl
    obtain ⟨z, z0, z1, hz⟩ := rand_z y i hy
    simp only [fountainlaw4_RandomBelow.j0]
    rw [hz m hm, hz 1 (by decide), rand_no y i (-1) (by decide)]
    simp only [Option.bind_some]
    have h2 := Int.emod_nonneg z (show m ≠ 0 by omega)
    have h3 := Int.emod_lt_of_pos z (show 0 < m by omega)
    rw [if_pos h2, if_pos h3, Int.emod_one]
    rfl

theorem RandomBelow : fountainlaw4_RandomBelow.Pure := by
  intro y i m wy _ _
  have hy := bounds_u32 wy
  refine ⟨8, ?_⟩
  unfold fountainlaw4_RandomBelow.f
  rw [alive_true 8 (by decide)]
  simp only [Option.bind_some, if_true]
  exact j0_true _ _ _ hy _ (fun h => by have := of_decide_eq_false h; omega)

end Go.Proofs.Ytenokchfabmkfaa.Pure

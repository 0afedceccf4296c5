/- RandomTells (chapter 4): stirring, drawing and degrees are the reference's at all numbers; no condition. -/
import Derived.Test.YtenokchfabmkfaaPRandomTellsx1
import Derived.Test.YtenokchfabmkfaaRand
import Derived.Laws.Bits64
namespace Go.Proofs.Ytenokchfabmkfaa.Pure
open Go.RowKit Go.Proofs.Ytenokchfabmkfaa.PRandomTells Go.Proofs.YtenokchfabmkfaaW.PrintWords Go.Proofs.YtenokchfabmkfaaW.PrintLast Go.Proofs.Ytenokchfabmkfaa.Rand

theorem wrap_step {i : Int} (h0 : 0 ≤ i) (h : i < 1000) : wrap64 (i + 1) = i + 1 := by
  unfold wrap64
  omega
theorem rd_cons (pre : List Int) (s : Int) (rest : List Int) : rd (pre ++ s :: rest) (pre.length : Int) = s := by
  simp [rd]
theorem degl (v : Int) (rest : List Int) : ∀ (k : Nat) (pre : List Int) (n : Int), rest.length < k → 0 ≤ n → pre.length + rest.length < 400 → rest.length + n < 800 →
    random_Degree.l0 k v n (pre ++ rest) ((pre ++ rest).length : Int) (pre.length : Int) = some (n + cnt v rest) := by
  induction rest with
  | nil =>
    intro k pre n hk h0 h2 h3
    obtain ⟨k, rfl⟩ : ∃ m, k = m + 1 := ⟨k - 1, by simp at hk; omega⟩
    simp [random_Degree.l0, cnt]
  | cons s rest ih =>
    intro k pre n hk h0 h2 h3
    simp only [List.length_cons] at hk h2 h3
    obtain ⟨k, rfl⟩ : ∃ m, k = m + 1 := ⟨k - 1, by omega⟩
    simp only [random_Degree.l0]
    rw [rd_cons, cnt_cons, if_pos (by simp; omega), if_pos (by omega), if_pos (by simp; omega)]
    rw [wrap_step h0 (by omega), wrap_step (i := (pre.length : Int)) (by omega) (by omega)]
    have hp : (pre ++ s :: rest) = (pre ++ [s]) ++ rest := by simp
    have hl : ((pre.length : Int) + 1) = ((pre ++ [s]).length : Int) := by simp
    by_cases h : s ≤ v
    · rw [if_pos h, if_pos h]
      rw [hp, hl]
      rw [ih k (pre ++ [s]) (n + 1) (by omega) (by omega) (by simp; omega) (by omega)]
      exact congrArg some (by omega)
    · rw [if_neg h, if_neg h]
      rw [hp, hl, ih k (pre ++ [s]) n (by omega) (by omega) (by simp; omega) (by omega)]
      congr 1
      omega
theorem mm (v : Int) : mx 0 (mn v 1048575) = max 0 (min v 1048575) := by
  unfold mx mn
  omega
theorem deg_is (v : Int) (k : Nat) (hk : 7 < k) : random_Degree.f k v = some (degI v) := by
  unfold random_Degree.f random_steps.f
  simp only [Option.bind_some]
  have := degl (max 0 (min v 1048575)) stepsL k [] 1 hk (by decide) (by decide) (by decide)
  rw [mm, degI_eq]
  exact this
theorem stir_is (x : Int) : random_Stir.f x = some (stirI x) := by
  unfold stirI
  rfl
theorem alive_true (k : Nat) (hk : 7 < k) : fountainlaw4_alive.f k = some true := by
  unfold fountainlaw4_alive.f
  rw [deg_is 0 k hk, deg_is 5243 k hk]
  decide +kernel
theorem rand_z (y i : Int) (hy : 0 ≤ y ∧ y ≤ 4294967295) : ∃ z : Int, 0 ≤ z ∧ z ≤ 4294967295 ∧ ∀ m : Int, 1 ≤ m → random_Rand.f y i m = some (z % m) := by
  have s1 := stirI_of hy.1 hy.2
  obtain ⟨_, _, s3, s4⟩ := stirI_of (a := (stirI y + ((i * 2654435769) % 4294967296)) % 4294967296) (by omega) (by omega)
  refine ⟨_, s3, s4, fun m hm => ?_⟩
  unfold random_Rand.f
  rw [if_neg (by omega)]
  simp only [stir_is, Option.bind_some]
  generalize stirI ((stirI y + ((i * 2654435769) % 4294967296)) % 4294967296) = z at *
  have e3 : wrap64 z = z := by unfold wrap64; omega
  rw [if_neg (by omega), e3, Int.tmod_eq_emod_of_nonneg s3]
theorem rand_no (y i m : Int) (hm : m < 1) : random_Rand.f y i m = some 0 := by
  unfold random_Rand.f
  rw [if_pos hm]
theorem rdegl (v : Int) (rest : List Int) : ∀ (k : Nat) (pre : List Int) (n : Int), rest.length < k → 0 ≤ n → pre.length + rest.length < 400 → rest.length + n < 800 →
    fountainref1_Degree.l0 k v (pre ++ rest) n (pre.length : Int) = some (n + cnt v rest) := by
  induction rest with
  | nil =>
    intro k pre n hk h0 h2 h3
    obtain ⟨k, rfl⟩ : ∃ m, k = m + 1 := ⟨k - 1, by simp at hk; omega⟩
    simp [fountainref1_Degree.l0, cnt]
  | cons s rest ih =>
    intro k pre n hk h0 h2 h3
    simp only [List.length_cons] at hk h2 h3
    obtain ⟨k, rfl⟩ : ∃ m, k = m + 1 := ⟨k - 1, by omega⟩
    simp only [fountainref1_Degree.l0]
    rw [rd_cons, cnt_cons, if_pos (by simp; omega), if_pos (by omega)]
    rw [wrap_step h0 (by omega), wrap_step (i := (pre.length : Int)) (by omega) (by omega)]
    have hp : (pre ++ s :: rest) = (pre ++ [s]) ++ rest := by simp
    have hl : ((pre.length : Int) + 1) = ((pre ++ [s]).length : Int) := by simp
    by_cases h : s ≤ v
    · rw [if_pos h, if_pos h]
      rw [hp, hl]
      rw [ih k (pre ++ [s]) (n + 1) (by omega) (by omega) (by simp; omega) (by omega)]
      exact congrArg some (by omega)
    · rw [if_neg h, if_neg h]
      rw [hp, hl, ih k (pre ++ [s]) n (by omega) (by omega) (by simp; omega) (by omega)]
      congr 1
      omega
theorem cut_is (v : Int) : fountainref1_Cut.f v 0 1048575 = some (max 0 (min v 1048575)) := by
  unfold fountainref1_Cut.f
  split
  · congr 1
    omega
  · split
    · congr 1
      omega
    · congr 1
      omega
theorem rdeg_is (v : Int) (k : Nat) (hk : 7 < k) : fountainref1_Degree.f k v = some (degI v) := by
  unfold fountainref1_Degree.f
  rw [cut_is]
  simp only [Option.bind_some]
  rw [degI_eq]
  exact rdegl (max 0 (min v 1048575)) stepsL k [] 1 hk (by decide) (by decide) (by decide)
theorem rstir_is (x : Int) : fountainref1_Stir.f x = some (stirI x) := by
  unfold stirI
  rfl
theorem rrand_is (y i m : Int) (hy : 0 ≤ y ∧ y ≤ 4294967295) (hm : m ≤ 9223372036854775807) : fountainref1_Rand.f y i m = random_Rand.f y i m := by
  unfold fountainref1_Rand.f random_Rand.f
  split
  · rfl
  · simp only [rstir_is, stir_is, Option.bind_some]
    have s1 := stirI_of hy.1 hy.2
    have s2 := stirI_of (a := (stirI y + ((i * 2654435769) % 4294967296)) % 4294967296) (by omega) (by omega)
    obtain ⟨_, _, s3, s4⟩ := s2
    generalize stirI ((stirI y + ((i * 2654435769) % 4294967296)) % 4294967296) = z at *
    have e1 : IntKind.u64.wrap m = m := by rw [IntKind.wrap_u64]; omega
    have e2 : IntKind.u64.wrap z = z := by rw [IntKind.wrap_u64]; omega
    have e3 : wrap64 z = z := by unfold wrap64; omega
    rw [e1, e2, e3, if_neg (by omega), if_neg (by omega)]
    congr 1
    have h1 : Int.tmod z m = z % m := Int.tmod_eq_emod_of_nonneg s3
    have h2 := Int.emod_nonneg z (show m ≠ 0 by omega)
    have h3 := Int.emod_lt_of_pos z (show 0 < m by omega)
    rw [h1]
    unfold wrap64
    omega

theorem RandomTells : fountainlaw4_RandomTells.Pure := by
  intro x y i m v _ wy _ wm _
  have hy := bounds_u32 wy
  have hm := bounds_i64 wm
  obtain ⟨k, hk⟩ : ∃ k, 7 < k := ⟨8, by decide⟩
  refine ⟨k, ?_⟩
  unfold fountainlaw4_RandomTells.f
  rw [alive_true k hk]
  obtain ⟨s, hs1, hs2⟩ : ∃ s, random_Stir.f x = some s ∧ fountainref1_Stir.f x = some s := ⟨_, stir_is x, rstir_is x⟩
  rw [rrand_is y i m hy hm.2, hs1, hs2]
  obtain ⟨r, hr⟩ : ∃ r, random_Rand.f y i m = some r := by
    by_cases h : m < 1
    · exact ⟨0, rand_no y i m h⟩
    · obtain ⟨z, _, _, hz⟩ := rand_z y i hy
      exact ⟨_, hz m (by omega)⟩
  rw [hr, deg_is v k hk, rdeg_is v k hk]
  simp

end Go.Proofs.Ytenokchfabmkfaa.Pure

/- Stir, Rand and the references', LeadingZeros8: the walks. -/
import Derived.Test.YtbkcopejclcfdaaKeyLess2
import Derived.Test.YtbkcopejclcfdaaRand
import Derived.Laws.Bits64
namespace Go.Proofs.Ytbkcopejclcfdaa
open Go.RowKit Go.Proofs.Ytbkcopejclcfdaa.Rand

theorem stir_any (x : Int) (w : World) : Calls Try.prog 47 #[.int .u32 x] w fun e w' => e = .returned (.int .u32 (stirI x)) ∧ w = w' := by
  go_enter Try.func47, Try.ntmps47
  go_wp2
  go_ret
  exact ⟨by unfold stirI; rfl, rfl⟩
theorem rstir_any (x : Int) (w : World) : Calls Try.prog 49 #[.int .u32 x] w fun e w' => e = .returned (.int .u32 (stirI x)) ∧ w = w' := by
  go_enter Try.func49, Try.ntmps49
  go_wp2
  go_ret
  exact ⟨by unfold stirI; rfl, rfl⟩
/-- what is drawn -/
def randI (y i m : Int) : Int := stirI ((stirI y + i * 2654435769) % 4294967296) % m
theorem randI_bd (y i m : Int) (hm : 1 ≤ m) : 0 ≤ randI y i m ∧ randI y i m < m := by
  unfold randI
  exact ⟨Int.emod_nonneg _ (by omega), Int.emod_lt_of_pos _ (by omega)⟩
set_option maxHeartbeats 1000000 in
theorem rand_any (y i m : Int) (w : World) (hm : 1 ≤ m ∧ m ≤ 9223372036854775807) : Calls Try.prog 48 #[.int .u32 y, .int .u32 i, .int .i64 m] w fun e w' => e = .returned (.int .i64 (randI y i m)) ∧ w = w' := by
  have s3 := stirI_of (a := (stirI y + i * 2654435769) % 4294967296) (by omega) (by omega) |>.2.2.1
  have s4 := stirI_of (a := (stirI y + i * 2654435769) % 4294967296) (by omega) (by omega) |>.2.2.2
  have hfin : ∀ z : Int, 0 ≤ z → z ≤ 4294967295 → Int.tmod (wrap64 z) m = z % m := fun z h0 h1 => by
    have e3 : wrap64 z = z := by unfold wrap64; omega
    rw [e3, Int.tmod_eq_emod_of_nonneg h0]
  have HF := Lib.hid (hfin _ s3 s4)
  have c1 : decide (m < 1) = false := decide_eq_false (by omega)
  have c2 : (m == 0) = false := beq_eq_false_iff_ne.2 (by omega)
  have hm0 := hm.1
  clear s3 s4 hfin hm
  go_enter Try.func48, Try.ntmps48
  go_wp2_with (go_at_call 47; refine (stir_any _ _).mono ?_; rintro e w' ⟨rfl, rfl⟩)
  go_ret
  exact ⟨by unfold randI; rw [← HF.out]; rfl, rfl⟩
set_option maxHeartbeats 1000000 in
theorem rrand_any (y i m : Int) (w : World) (hm : 1 ≤ m ∧ m ≤ 9223372036854775807) : Calls Try.prog 50 #[.int .u32 y, .int .u32 i, .int .i64 m] w fun e w' => e = .returned (.int .i64 (randI y i m)) ∧ w = w' := by
  have s3 := stirI_of (a := (stirI y + i * 2654435769) % 4294967296) (by omega) (by omega) |>.2.2.1
  have s4 := stirI_of (a := (stirI y + i * 2654435769) % 4294967296) (by omega) (by omega) |>.2.2.2
  have hfin : ∀ z : Int, 0 ≤ z → z ≤ 4294967295 → wrap64 (Int.tmod (IntKind.u64.wrap z) (IntKind.u64.wrap m)) = z % m := fun z h0 h1 => by
    have e2 : IntKind.u64.wrap z = z := by rw [IntKind.wrap_u64]; omega
    have e1 : IntKind.u64.wrap m = m := by rw [IntKind.wrap_u64]; omega
    have h2 := Int.emod_nonneg z (show m ≠ 0 by omega)
    have h3 := Int.emod_lt_of_pos z (show 0 < m by omega)
    rw [e1, e2, Int.tmod_eq_emod_of_nonneg h0]
    unfold wrap64
    omega
  have HF := Lib.hid (hfin _ s3 s4)
  have c1 : decide (m < 1) = false := decide_eq_false (by omega)
  have hmw : IntKind.u64.wrap m = m := by rw [IntKind.wrap_u64]; omega
  have c2 : (IntKind.u64.wrap m == 0) = false := beq_eq_false_iff_ne.2 (by rw [hmw]; omega)
  have c3 : ¬ IntKind.u64.wrap m = 0 := by rw [hmw]; omega
  have hm0 := hm.1
  clear s3 s4 hfin hm hmw
  go_enter Try.func50, Try.ntmps50
  go_wp2_with (go_at_call 49; refine (rstir_any _ _).mono ?_; rintro e w' ⟨rfl, rfl⟩)
  go_ret
  exact ⟨by unfold randI; rw [← HF.out]; rfl, rfl⟩
end Go.Proofs.Ytbkcopejclcfdaa

-- written by a program of this session (a turned printer of plain contracts)
import Derived.Test.YtenokchfabmkfaaPDropsTellx0
import Derived.Test.YtenokchfabmkfaaPDropsTellx5
namespace Go.Proofs.Ytenokchfabmkfaa.PDropsTell
open Go.RowKit Go.Proofs.YtenokchfabmkfaaW.PrintWords Go.Proofs.YtenokchfabmkfaaW.PrintLast Go.Proofs.YtenokchfabmkfaaW.PrintMore
attribute [local go_sem] max2_int min2_int max_two min_two max_three min_three max_four min_four   -- for this text's walks alone
set_option linter.unusedVariables false
set_option linter.unusedSimpArgs false

/-! ### fountainref1_Parts: function 35 -/
mutual
def fountainref1_Parts.j0 : Nat → Int → Int → Int → Bool → Option (List Int)
  | 0, _, _, _, _ => none
  | k + 1, x0, x1, x2, x37 => if x37 = true then (some ([] : List Int)) else ((fountainref1_W.f x0).bind fun t198 => ((fountainref1_Rand.f ((Go.bits .and .u64 (IntKind.u64.wrap (wrap64 ((wrap64 (x1 * 65537)) + (wrap64 (x2 * 31))))) 4294967295) % 4294967296) 0 1048576).bind fun t199 => ((fountainref1_Degree.f k t199).bind fun t200 => ((fountainref1_Cut.f t200 0 t198).bind fun t201 => (if t198 > 1 then ((fountainref1_Rand.f ((Go.bits .and .u64 (IntKind.u64.wrap (wrap64 ((wrap64 (x1 * 65537)) + (wrap64 (x2 * 31))))) 4294967295) % 4294967296) 1 (wrap64 (t198 - 1))).bind fun t202 => (fountainref1_Parts.j1 k t198 ((Go.bits .and .u64 (IntKind.u64.wrap (wrap64 ((wrap64 (x1 * 65537)) + (wrap64 (x2 * 31))))) 4294967295) % 4294967296) t201 (wrap64 (1 + t202)))) else (fountainref1_Parts.j1 k t198 ((Go.bits .and .u64 (IntKind.u64.wrap (wrap64 ((wrap64 (x1 * 65537)) + (wrap64 (x2 * 31))))) 4294967295) % 4294967296) t201 1))))))
def fountainref1_Parts.j1 : Nat → Int → Int → Int → Int → Option (List Int)
  | 0, _, _, _, _ => none
  | k + 1, x7, x8, x9, x10 => (fountainref1_Rand.f x8 2 x7).bind fun t203 => (if 0 ≤ x7 then (if (x7 : Int).toNat ≤ 281474976710656 then (fountainref1_Parts.l0 k x7 x8 x9 x10 t203 (List.replicate (x7 : Int).toNat false) ([] : List Int) 0) else (none)) else (none))
def fountainref1_Parts.l0 : Nat → Int → Int → Int → Int → Int → List Bool → List Int → Int → Option (List Int)
  | 0, _, _, _, _, _, _, _, _ => none
  | k + 1, x7, x8, x9, x10, x11, x12, x13, x14 => if x14 < x9 then (if x7 = 0 then (none) else (fountainref1_Parts.l1 k x7 x8 x9 x10 x11 x12 x13 x14 (Int.tmod (wrap64 (x11 + (wrap64 (x14 * x10)))) x7))) else ((fountainref1_Rand.f x8 3 2).bind fun t207 => (if x13.length < 17592186044416 then (some (x13 ++ [wrap64 (x7 + t207)])) else (none)))
def fountainref1_Parts.l1 : Nat → Int → Int → Int → Int → Int → List Bool → List Int → Int → Int → Option (List Int)
  | 0, _, _, _, _, _, _, _, _, _ => none
  | k + 1, x7, x8, x9, x10, x11, x12, x13, x14, x15 => if 0 ≤ x15 then (if x15 < (x12.length : Int) then (if rdOf false x12 x15 = true then (if x7 = 0 then (none) else (fountainref1_Parts.l1 k x7 x8 x9 x10 x11 x12 x13 x14 (Int.tmod (wrap64 (x15 + 1)) x7))) else (if x13.length < 17592186044416 then (fountainref1_Parts.l0 k x7 x8 x9 x10 x11 (x12.set (x15 : Int).toNat true) (x13 ++ [x15]) (wrap64 (x14 + 1))) else (none))) else (none)) else (none)
end
def fountainref1_Parts.f (k : Nat) (a0 : Int) (a1 : Int) (a2 : Int) : Option (List Int) := if a0 < 1 then (fountainref1_Parts.j0 k a0 a1 a2 true) else (if a0 > 40 then (fountainref1_Parts.j0 k a0 a1 a2 true) else (if a1 < 0 then (fountainref1_Parts.j0 k a0 a1 a2 true) else (if a1 > 255 then (fountainref1_Parts.j0 k a0 a1 a2 true) else (if a2 < 0 then (fountainref1_Parts.j0 k a0 a1 a2 true) else (fountainref1_Parts.j0 k a0 a1 a2 (decide (a2 ≥ 16777216)))))))
theorem fountainref1_Parts.mono_l : ∀ k, (∀ y0 y1 y2 y3, LeO (fountainref1_Parts.j0 k y0 y1 y2 y3) (fountainref1_Parts.j0 (k + 1) y0 y1 y2 y3)) ∧ (∀ y0 y1 y2 y3, LeO (fountainref1_Parts.j1 k y0 y1 y2 y3) (fountainref1_Parts.j1 (k + 1) y0 y1 y2 y3)) ∧ (∀ y0 y1 y2 y3 y4 y5 y6 y7, LeO (fountainref1_Parts.l0 k y0 y1 y2 y3 y4 y5 y6 y7) (fountainref1_Parts.l0 (k + 1) y0 y1 y2 y3 y4 y5 y6 y7)) ∧ (∀ y0 y1 y2 y3 y4 y5 y6 y7 y8, LeO (fountainref1_Parts.l1 k y0 y1 y2 y3 y4 y5 y6 y7 y8) (fountainref1_Parts.l1 (k + 1) y0 y1 y2 y3 y4 y5 y6 y7 y8))
  | 0 => ⟨fun _ _ _ _ r h => by simp [fountainref1_Parts.j0] at h, fun _ _ _ _ r h => by simp [fountainref1_Parts.j1] at h, fun _ _ _ _ _ _ _ _ r h => by simp [fountainref1_Parts.l0] at h, fun _ _ _ _ _ _ _ _ _ r h => by simp [fountainref1_Parts.l1] at h⟩
  | k + 1 => by
    obtain ⟨ih0, ih1, ih2, ih3⟩ := fountainref1_Parts.mono_l k
    refine ⟨?_, ?_, ?_, ?_⟩
    · intro y0 y1 y2 y3
      unfold fountainref1_Parts.j0
      repeat' first
      | (with_reducible exact ih0 _ _ _ _)
      | (with_reducible exact ih1 _ _ _ _)
      | (with_reducible exact ih2 _ _ _ _ _ _ _ _)
      | (with_reducible exact ih3 _ _ _ _ _ _ _ _ _)
      | (with_reducible exact fountainref1_Degree.mono _ _)
      | (with_reducible exact LeO.refl _)
      | (with_reducible exact LeO.none _)
      | (with_reducible refine LeO.ite ?_ ?_)
      | (with_reducible refine LeO.bind ?_ (fun _ => ?_))
      | exact ih0 _ _ _ _
      | exact ih1 _ _ _ _
      | exact ih2 _ _ _ _ _ _ _ _
      | exact ih3 _ _ _ _ _ _ _ _ _
      | exact fountainref1_Degree.mono _ _
      | exact LeO.none _
      | refine LeO.ite ?_ ?_
      | refine LeO.bind ?_ (fun _ => ?_)
    · intro y0 y1 y2 y3
      unfold fountainref1_Parts.j1
      repeat' first
      | (with_reducible exact ih0 _ _ _ _)
      | (with_reducible exact ih1 _ _ _ _)
      | (with_reducible exact ih2 _ _ _ _ _ _ _ _)
      | (with_reducible exact ih3 _ _ _ _ _ _ _ _ _)
      | (with_reducible exact fountainref1_Degree.mono _ _)
      | (with_reducible exact LeO.refl _)
      | (with_reducible exact LeO.none _)
      | (with_reducible refine LeO.ite ?_ ?_)
      | (with_reducible refine LeO.bind ?_ (fun _ => ?_))
      | exact ih0 _ _ _ _
      | exact ih1 _ _ _ _
      | exact ih2 _ _ _ _ _ _ _ _
      | exact ih3 _ _ _ _ _ _ _ _ _
      | exact fountainref1_Degree.mono _ _
      | exact LeO.none _
      | refine LeO.ite ?_ ?_
      | refine LeO.bind ?_ (fun _ => ?_)
    · intro y0 y1 y2 y3 y4 y5 y6 y7
      unfold fountainref1_Parts.l0
      repeat' first
      | (with_reducible exact ih0 _ _ _ _)
      | (with_reducible exact ih1 _ _ _ _)
      | (with_reducible exact ih2 _ _ _ _ _ _ _ _)
      | (with_reducible exact ih3 _ _ _ _ _ _ _ _ _)
      | (with_reducible exact fountainref1_Degree.mono _ _)
      | (with_reducible exact LeO.refl _)
      | (with_reducible exact LeO.none _)
      | (with_reducible refine LeO.ite ?_ ?_)
      | (with_reducible refine LeO.bind ?_ (fun _ => ?_))
      | exact ih0 _ _ _ _
      | exact ih1 _ _ _ _
      | exact ih2 _ _ _ _ _ _ _ _
      | exact ih3 _ _ _ _ _ _ _ _ _
      | exact fountainref1_Degree.mono _ _
      | exact LeO.none _
      | refine LeO.ite ?_ ?_
      | refine LeO.bind ?_ (fun _ => ?_)
    · intro y0 y1 y2 y3 y4 y5 y6 y7 y8
      unfold fountainref1_Parts.l1
      repeat' first
      | (with_reducible exact ih0 _ _ _ _)
      | (with_reducible exact ih1 _ _ _ _)
      | (with_reducible exact ih2 _ _ _ _ _ _ _ _)
      | (with_reducible exact ih3 _ _ _ _ _ _ _ _ _)
      | (with_reducible exact fountainref1_Degree.mono _ _)
      | (with_reducible exact LeO.refl _)
      | (with_reducible exact LeO.none _)
      | (with_reducible refine LeO.ite ?_ ?_)
      | (with_reducible refine LeO.bind ?_ (fun _ => ?_))
      | exact ih0 _ _ _ _
      | exact ih1 _ _ _ _
      | exact ih2 _ _ _ _ _ _ _ _
      | exact ih3 _ _ _ _ _ _ _ _ _
      | exact fountainref1_Degree.mono _ _
      | exact LeO.none _
      | refine LeO.ite ?_ ?_
      | refine LeO.bind ?_ (fun _ => ?_)
theorem fountainref1_Parts.mono : ∀ a0 a1 a2 k, LeO (fountainref1_Parts.f k a0 a1 a2) (fountainref1_Parts.f (k + 1) a0 a1 a2) := by
  intro a0 a1 a2 k
  obtain ⟨ih0, ih1, ih2, ih3⟩ := fountainref1_Parts.mono_l k
  unfold fountainref1_Parts.f
  repeat' first
      | (with_reducible exact ih0 _ _ _ _)
      | (with_reducible exact ih1 _ _ _ _)
      | (with_reducible exact ih2 _ _ _ _ _ _ _ _)
      | (with_reducible exact ih3 _ _ _ _ _ _ _ _ _)
      | (with_reducible exact fountainref1_Degree.mono _ _)
      | (with_reducible exact LeO.refl _)
      | (with_reducible exact LeO.none _)
      | (with_reducible refine LeO.ite ?_ ?_)
      | (with_reducible refine LeO.bind ?_ (fun _ => ?_))
      | exact ih0 _ _ _ _
      | exact ih1 _ _ _ _
      | exact ih2 _ _ _ _ _ _ _ _
      | exact ih3 _ _ _ _ _ _ _ _ _
      | exact fountainref1_Degree.mono _ _
      | exact LeO.none _
      | refine LeO.ite ?_ ?_
      | refine LeO.bind ?_ (fun _ => ?_)
set_option maxHeartbeats 8000000 in
set_option maxRecDepth 100000 in
theorem fountainref1_Parts.calls (k : Nat) (a0 : Int) (a1 : Int) (a2 : Int) (r : List Int) (w : World) (h : fountainref1_Parts.f k a0 a1 a2 = some r) :
    Calls Try.prog 35 #[.int .i64 a0, .int .i64 a1, .int .i64 a2] w fun e w' => ∃ v0_ : Value, e = .returned (v0_) ∧ Kd.R (Kd.int .i64) 3 w' w.heap.size (fun _ => True) v0_ r ∧ Below w.heap.size w w' := by
  have HB := Aside0.mk (Below.refl w.heap.size w)
  have H : (if a0 < 1 then (fountainref1_Parts.j0 k a0 a1 a2 true) else (if a0 > 40 then (fountainref1_Parts.j0 k a0 a1 a2 true) else (if a1 < 0 then (fountainref1_Parts.j0 k a0 a1 a2 true) else (if a1 > 255 then (fountainref1_Parts.j0 k a0 a1 a2 true) else (if a2 < 0 then (fountainref1_Parts.j0 k a0 a1 a2 true) else (fountainref1_Parts.j0 k a0 a1 a2 (decide (a2 ≥ 16777216)))))))) = some r := h
  clear h
  have HC4 := Aside0.mk H
  clear H
  go_enter Try.func35, Try.ntmps35
  go_upto_region 1 with (fail)
  go_cut [37] (fun v37 wc => ∃ (kq : Nat) (x37_3 : Bool), v37 = .bool x37_3 ∧ Aside0 (fountainref1_Parts.j0 kq a0 a1 a2 x37_3 = some r) ∧ Aside0 (kq ≤ k) ∧ Aside0 (Below w.heap.size w wc))
  case first =>
    have H := HC4.out
    clear HC4
    by_cases c5 : a0 < 1
    · rw [if_pos c5] at H
      have c5b0 : decide (a0 < 1) = true := decide_eq_true c5
      clear c5
      (first | rw [c5b0] | (simp only [i64_w, i32_w]; rw [c5b0]) | skip)
      have H' := Aside0.mk H
      clear H
      go_wp2
      go_meet
      case rel => exact ⟨_, (true), (by first | rfl | (simp; done) | (simp [*]; done)), H', ⟨by first | omega | exact Nat.le_refl _⟩, ⟨by repeat (first | (with_reducible first | exact HB.out | apply below_alloc | apply pw_below_drewN | apply below_drew1) | exact HB.out)⟩⟩
    · rw [if_neg c5] at H
      have c5b0 : decide (a0 < 1) = false := decide_eq_false c5
      clear c5
      (first | rw [c5b0] | (simp only [i64_w, i32_w]; rw [c5b0]) | skip)
      by_cases c6 : a0 > 40
      · rw [if_pos c6] at H
        have c6b0 : decide (40 < a0) = true := decide_eq_true c6
        clear c6
        have H' := Aside0.mk H
        clear H
        go_wp2
        go_meet
        case rel => exact ⟨_, (true), (by first | rfl | (simp; done) | (simp [*]; done)), H', ⟨by first | omega | exact Nat.le_refl _⟩, ⟨by repeat (first | (with_reducible first | exact HB.out | apply below_alloc | apply pw_below_drewN | apply below_drew1) | exact HB.out)⟩⟩
      · rw [if_neg c6] at H
        have c6b0 : decide (40 < a0) = false := decide_eq_false c6
        clear c6
        by_cases c7 : a1 < 0
        · rw [if_pos c7] at H
          have c7b0 : decide (a1 < 0) = true := decide_eq_true c7
          clear c7
          have H' := Aside0.mk H
          clear H
          go_wp2
          go_meet
          case rel => exact ⟨_, (true), (by first | rfl | (simp; done) | (simp [*]; done)), H', ⟨by first | omega | exact Nat.le_refl _⟩, ⟨by repeat (first | (with_reducible first | exact HB.out | apply below_alloc | apply pw_below_drewN | apply below_drew1) | exact HB.out)⟩⟩
        · rw [if_neg c7] at H
          have c7b0 : decide (a1 < 0) = false := decide_eq_false c7
          clear c7
          by_cases c8 : a1 > 255
          · rw [if_pos c8] at H
            have c8b0 : decide (255 < a1) = true := decide_eq_true c8
            clear c8
            have H' := Aside0.mk H
            clear H
            go_wp2
            go_meet
            case rel => exact ⟨_, (true), (by first | rfl | (simp; done) | (simp [*]; done)), H', ⟨by first | omega | exact Nat.le_refl _⟩, ⟨by repeat (first | (with_reducible first | exact HB.out | apply below_alloc | apply pw_below_drewN | apply below_drew1) | exact HB.out)⟩⟩
          · rw [if_neg c8] at H
            have c8b0 : decide (255 < a1) = false := decide_eq_false c8
            clear c8
            by_cases c9 : a2 < 0
            · rw [if_pos c9] at H
              have c9b0 : decide (a2 < 0) = true := decide_eq_true c9
              clear c9
              have H' := Aside0.mk H
              clear H
              go_wp2
              go_meet
              case rel => exact ⟨_, (true), (by first | rfl | (simp; done) | (simp [*]; done)), H', ⟨by first | omega | exact Nat.le_refl _⟩, ⟨by repeat (first | (with_reducible first | exact HB.out | apply below_alloc | apply pw_below_drewN | apply below_drew1) | exact HB.out)⟩⟩
            · rw [if_neg c9] at H
              have c9b0 : decide (a2 < 0) = false := decide_eq_false c9
              clear c9
              have H' := Aside0.mk H
              clear H
              go_wp2
              go_meet
              case rel => exact ⟨_, (decide (a2 ≥ 16777216)), (by first | rfl | (simp; done) | (simp [*]; done)), H', ⟨by first | omega | exact Nat.le_refl _⟩, ⟨by repeat (first | (with_reducible first | exact HB.out | apply below_alloc | apply pw_below_drewN | apply below_drew1) | exact HB.out)⟩⟩
  case rest =>
    clear HC4
    try clear p2
    try clear c3
    try clear c5
    try clear c5b0
    try clear c6
    try clear c6b0
    try clear c7
    try clear c7b0
    try clear c8
    try clear c8b0
    try clear c9
    try clear c9b0
    obtain ⟨kq, x37_3, rfl, HA, HJ3, HB⟩ := hcut
    cases kq with
    | zero => exact absurd HA.out (by simp [fountainref1_Parts.j0])
    | succ kj3 =>
      have H := HA.out
      clear HA
      simp only [fountainref1_Parts.j0] at H
      by_cases c10 : x37_3 = true
      · subst c10
        have H1 : (some ([] : List Int)) = some r := by rw [if_pos rfl] at H; exact H
        clear H
        have H := H1
        clear H1
        obtain rfl := Option.some.inj H
        go_wp2
        go_ret
        exact ⟨_, by first | rfl | (simp [errW_none, errW_some] <;> rfl) | (simp [*, errW_none, errW_some] <;> rfl), by first | exact Kd.R_nil _ _ _ _ _ | exact Kd.N_nil _ _ _ _ _ | exact Kd.V_nil _ _ _ _ _ | exact Kd.Q_nil _ _ _ _ _ | exact Kd.S_nil _ _ _ _ _, by repeat (first | (with_reducible first | exact HB.out | apply below_alloc | apply pw_below_drewN | apply below_drew1) | exact HB.out)⟩
      · replace c10 := Bool.eq_false_iff.mpr c10
        subst c10
        have H1 : ((fountainref1_W.f a0).bind fun t198 => ((fountainref1_Rand.f ((Go.bits .and .u64 (IntKind.u64.wrap (wrap64 ((wrap64 (a1 * 65537)) + (wrap64 (a2 * 31))))) 4294967295) % 4294967296) 0 1048576).bind fun t199 => ((fountainref1_Degree.f kj3 t199).bind fun t200 => ((fountainref1_Cut.f t200 0 t198).bind fun t201 => (if t198 > 1 then ((fountainref1_Rand.f ((Go.bits .and .u64 (IntKind.u64.wrap (wrap64 ((wrap64 (a1 * 65537)) + (wrap64 (a2 * 31))))) 4294967295) % 4294967296) 1 (wrap64 (t198 - 1))).bind fun t202 => (fountainref1_Parts.j1 kj3 t198 ((Go.bits .and .u64 (IntKind.u64.wrap (wrap64 ((wrap64 (a1 * 65537)) + (wrap64 (a2 * 31))))) 4294967295) % 4294967296) t201 (wrap64 (1 + t202)))) else (fountainref1_Parts.j1 kj3 t198 ((Go.bits .and .u64 (IntKind.u64.wrap (wrap64 ((wrap64 (a1 * 65537)) + (wrap64 (a2 * 31))))) 4294967295) % 4294967296) t201 1)))))) = some r := by rw [if_neg (show ¬ (false = true) by decide)] at H; exact H
        clear H
        have H := H1
        clear H1
        replace H := Option.bind_eq_some_iff.mp H
        obtain ⟨t198, A110, H⟩ := H
        replace H : ((fountainref1_Rand.f ((Go.bits .and .u64 (IntKind.u64.wrap (wrap64 ((wrap64 (a1 * 65537)) + (wrap64 (a2 * 31))))) 4294967295) % 4294967296) 0 1048576).bind fun t199 => ((fountainref1_Degree.f kj3 t199).bind fun t200 => ((fountainref1_Cut.f t200 0 t198).bind fun t201 => (if t198 > 1 then ((fountainref1_Rand.f ((Go.bits .and .u64 (IntKind.u64.wrap (wrap64 ((wrap64 (a1 * 65537)) + (wrap64 (a2 * 31))))) 4294967295) % 4294967296) 1 (wrap64 (t198 - 1))).bind fun t202 => (fountainref1_Parts.j1 kj3 t198 ((Go.bits .and .u64 (IntKind.u64.wrap (wrap64 ((wrap64 (a1 * 65537)) + (wrap64 (a2 * 31))))) 4294967295) % 4294967296) t201 (wrap64 (1 + t202)))) else (fountainref1_Parts.j1 kj3 t198 ((Go.bits .and .u64 (IntKind.u64.wrap (wrap64 ((wrap64 (a1 * 65537)) + (wrap64 (a2 * 31))))) 4294967295) % 4294967296) t201 1))))) = some r := H
        have A11 := Aside0.mk A110
        clear A110
        replace H := Option.bind_eq_some_iff.mp H
        obtain ⟨t199, A120, H⟩ := H
        replace H : ((fountainref1_Degree.f kj3 t199).bind fun t200 => ((fountainref1_Cut.f t200 0 t198).bind fun t201 => (if t198 > 1 then ((fountainref1_Rand.f ((Go.bits .and .u64 (IntKind.u64.wrap (wrap64 ((wrap64 (a1 * 65537)) + (wrap64 (a2 * 31))))) 4294967295) % 4294967296) 1 (wrap64 (t198 - 1))).bind fun t202 => (fountainref1_Parts.j1 kj3 t198 ((Go.bits .and .u64 (IntKind.u64.wrap (wrap64 ((wrap64 (a1 * 65537)) + (wrap64 (a2 * 31))))) 4294967295) % 4294967296) t201 (wrap64 (1 + t202)))) else (fountainref1_Parts.j1 kj3 t198 ((Go.bits .and .u64 (IntKind.u64.wrap (wrap64 ((wrap64 (a1 * 65537)) + (wrap64 (a2 * 31))))) 4294967295) % 4294967296) t201 1)))) = some r := H
        have A12 := Aside0.mk A120
        clear A120
        replace H := Option.bind_eq_some_iff.mp H
        obtain ⟨t200, A130, H⟩ := H
        replace H : ((fountainref1_Cut.f t200 0 t198).bind fun t201 => (if t198 > 1 then ((fountainref1_Rand.f ((Go.bits .and .u64 (IntKind.u64.wrap (wrap64 ((wrap64 (a1 * 65537)) + (wrap64 (a2 * 31))))) 4294967295) % 4294967296) 1 (wrap64 (t198 - 1))).bind fun t202 => (fountainref1_Parts.j1 kj3 t198 ((Go.bits .and .u64 (IntKind.u64.wrap (wrap64 ((wrap64 (a1 * 65537)) + (wrap64 (a2 * 31))))) 4294967295) % 4294967296) t201 (wrap64 (1 + t202)))) else (fountainref1_Parts.j1 kj3 t198 ((Go.bits .and .u64 (IntKind.u64.wrap (wrap64 ((wrap64 (a1 * 65537)) + (wrap64 (a2 * 31))))) 4294967295) % 4294967296) t201 1))) = some r := H
        have A13 := Aside0.mk A130
        clear A130
        replace H := Option.bind_eq_some_iff.mp H
        obtain ⟨t201, A140, H⟩ := H
        replace H : (if t198 > 1 then ((fountainref1_Rand.f ((Go.bits .and .u64 (IntKind.u64.wrap (wrap64 ((wrap64 (a1 * 65537)) + (wrap64 (a2 * 31))))) 4294967295) % 4294967296) 1 (wrap64 (t198 - 1))).bind fun t202 => (fountainref1_Parts.j1 kj3 t198 ((Go.bits .and .u64 (IntKind.u64.wrap (wrap64 ((wrap64 (a1 * 65537)) + (wrap64 (a2 * 31))))) 4294967295) % 4294967296) t201 (wrap64 (1 + t202)))) else (fountainref1_Parts.j1 kj3 t198 ((Go.bits .and .u64 (IntKind.u64.wrap (wrap64 ((wrap64 (a1 * 65537)) + (wrap64 (a2 * 31))))) 4294967295) % 4294967296) t201 1)) = some r := H
        have A14 := Aside0.mk A140
        clear A140
        have HC15 := Aside0.mk H
        clear H
        go_upto_if 54 with (first | ((with_reducible refine gate_callee (f := 20) rfl ?_); refine goesL_ (some 39) rfl rfl Try.func20 (by kernel_rfl) rfl #[.int .i64 a0] rfl (by (try simp only [List.map_toArray, List.map_cons, List.map_nil]); first | done | rfl | (simp only [List.length_drop, List.length_take]; rfl)) ?_; (with_reducible refine (fountainref1_W.calls a0 t198 _ A11.out).mono ?_); rintro e w' ⟨rfl, ⟨nd, rfl⟩⟩; refine ⟨_, rfl, ?_⟩) | ((with_reducible refine gate_callee (f := 27) rfl ?_); refine goesL_ (some 49) rfl rfl Try.func27 (by kernel_rfl) rfl #[.int .u32 ((Go.bits .and .u64 (IntKind.u64.wrap (wrap64 ((wrap64 (a1 * 65537)) + (wrap64 (a2 * 31))))) 4294967295) % 4294967296), .int .u32 0, .int .i64 1048576] rfl (by (try simp only [List.map_toArray, List.map_cons, List.map_nil]); first | done | rfl | (simp only [List.length_drop, List.length_take]; rfl)) ?_; (with_reducible refine (fountainref1_Rand.calls ((Go.bits .and .u64 (IntKind.u64.wrap (wrap64 ((wrap64 (a1 * 65537)) + (wrap64 (a2 * 31))))) 4294967295) % 4294967296) 0 1048576 t199 _ A12.out).mono ?_); rintro e w' ⟨rfl, ⟨nd, rfl⟩⟩; refine ⟨_, rfl, ?_⟩) | ((with_reducible refine gate_callee (f := 28) rfl ?_); refine goesL_ (some 50) rfl rfl Try.func28 (by kernel_rfl) rfl #[.int .i64 t199] rfl (by (try simp only [List.map_toArray, List.map_cons, List.map_nil]); first | done | rfl | (simp only [List.length_drop, List.length_take]; rfl)) ?_; (with_reducible refine (fountainref1_Degree.calls kj3 t199 t200 _ A13.out).mono ?_); rintro e w16 ⟨rfl, hb⟩; refine ⟨_, rfl, ?_⟩; have n0_ := Aside0.mk (below_step (by repeat (first | (with_reducible first | exact HB.out | apply below_alloc | apply pw_below_drewN | apply below_drew1) | exact HB.out)) hb); clear HB; have HB := n0_; clear n0_; (try clear hb); (try clear hb2); (try clear hk); (try clear hi)) | ((with_reducible refine gate_callee (f := 48) rfl ?_); refine goesL_ (some 52) rfl rfl Try.func48 (by kernel_rfl) rfl #[.int .i64 t200, .int .i64 0, .int .i64 t198] rfl (by (try simp only [List.map_toArray, List.map_cons, List.map_nil]); first | done | rfl | (simp only [List.length_drop, List.length_take]; rfl)) ?_; (with_reducible refine (fountainref1_Cut.calls t200 0 t198 t201 _ A14.out).mono ?_); rintro e w' ⟨rfl, ⟨nd, rfl⟩⟩; refine ⟨_, rfl, ?_⟩))
        (try simp only [Act.put, List.setIfInBounds_toArray, List.set_cons_zero, List.set_cons_succ])
        go_cut [10] (fun v10 wc => ∃ (kq : Nat) (x10_14 : Int), v10 = .int .i64 x10_14 ∧ Aside0 (fountainref1_Parts.j1 kq t198 ((Go.bits .and .u64 (IntKind.u64.wrap (wrap64 ((wrap64 (a1 * 65537)) + (wrap64 (a2 * 31))))) 4294967295) % 4294967296) t201 x10_14 = some r) ∧ Aside0 (kq ≤ kj3) ∧ Aside0 (Below w.heap.size w wc))
        case first =>
          have H := HC15.out
          clear HC15
          by_cases c17 : t198 > 1
          · rw [if_pos c17] at H
            have c17b0 : decide (1 < t198) = true := decide_eq_true c17
            clear c17
            (first | rw [c17b0] | (simp only [i64_w, i32_w]; rw [c17b0]) | skip)
            replace H := Option.bind_eq_some_iff.mp H
            obtain ⟨t202, A180, H⟩ := H
            replace H : (fountainref1_Parts.j1 kj3 t198 ((Go.bits .and .u64 (IntKind.u64.wrap (wrap64 ((wrap64 (a1 * 65537)) + (wrap64 (a2 * 31))))) 4294967295) % 4294967296) t201 (wrap64 (1 + t202))) = some r := H
            have A18 := Aside0.mk A180
            clear A180
            have H' := Aside0.mk H
            clear H
            go_wp2_with (first | ((with_reducible refine gate_callee (f := 27) rfl ?_); refine goesL_ (some 58) rfl rfl Try.func27 (by kernel_rfl) rfl #[.int .u32 ((Go.bits .and .u64 (IntKind.u64.wrap (wrap64 ((wrap64 (a1 * 65537)) + (wrap64 (a2 * 31))))) 4294967295) % 4294967296), .int .u32 1, .int .i64 (wrap64 (t198 - 1))] rfl (by (try simp only [List.map_toArray, List.map_cons, List.map_nil]); first | done | rfl | (simp only [List.length_drop, List.length_take]; rfl)) ?_; (with_reducible refine (fountainref1_Rand.calls ((Go.bits .and .u64 (IntKind.u64.wrap (wrap64 ((wrap64 (a1 * 65537)) + (wrap64 (a2 * 31))))) 4294967295) % 4294967296) 1 (wrap64 (t198 - 1)) t202 _ A18.out).mono ?_); rintro e w' ⟨rfl, ⟨nd, rfl⟩⟩; refine ⟨_, rfl, ?_⟩))
            go_meet
            case rel => exact ⟨_, (wrap64 (1 + t202)), (by first | rfl | (simp; done) | (simp [*]; done)), H', ⟨by have := HJ3.out; first | omega | exact Nat.le_refl _⟩, ⟨by repeat (first | (with_reducible first | exact HB.out | apply below_alloc | apply pw_below_drewN | apply below_drew1) | exact HB.out)⟩⟩
          · rw [if_neg c17] at H
            have c17b0 : decide (1 < t198) = false := decide_eq_false c17
            clear c17
            (first | rw [c17b0] | (simp only [i64_w, i32_w]; rw [c17b0]) | skip)
            have H' := Aside0.mk H
            clear H
            go_wp2
            go_meet
            case rel => exact ⟨_, (1), (by first | rfl | (simp; done) | (simp [*]; done)), H', ⟨by have := HJ3.out; first | omega | exact Nat.le_refl _⟩, ⟨by repeat (first | (with_reducible first | exact HB.out | apply below_alloc | apply pw_below_drewN | apply below_drew1) | exact HB.out)⟩⟩
        case rest =>
          clear HC15
          try clear c1
          try clear c2
          try clear p2
          try clear c3
          try clear c4
          try clear c5
          try clear c5b0
          try clear c6
          try clear c6b0
          try clear p6
          try clear c7
          try clear c7b0
          try clear c8
          try clear c8b0
          try clear c9
          try clear c9b0
          try clear c10
          try clear c17
          try clear c17b0
          try clear p2
          obtain ⟨kq, x10_14, rfl, HA, HJ14, HB⟩ := hcut
          cases kq with
          | zero => exact absurd HA.out (by simp [fountainref1_Parts.j1])
          | succ kj14 =>
            have H := HA.out
            clear HA
            simp only [fountainref1_Parts.j1] at H
            replace H := Option.bind_eq_some_iff.mp H
            obtain ⟨t203, A190, H⟩ := H
            replace H : (if 0 ≤ t198 then (if (t198 : Int).toNat ≤ 281474976710656 then (fountainref1_Parts.l0 kj14 t198 ((Go.bits .and .u64 (IntKind.u64.wrap (wrap64 ((wrap64 (a1 * 65537)) + (wrap64 (a2 * 31))))) 4294967295) % 4294967296) t201 x10_14 t203 (List.replicate (t198 : Int).toNat false) ([] : List Int) 0) else (none)) else (none)) = some r := H
            have A19 := Aside0.mk A190
            clear A190
            by_cases c20 : 0 ≤ t198
            · rw [if_pos c20] at H
              have c20b0 := eq_true c20
              have c20b1 : decide (0 ≤ t198) = true := decide_eq_true c20
              clear c20
              by_cases c21 : (t198 : Int).toNat ≤ 281474976710656
              · rw [if_pos c21] at H
                have c21b0 := eq_true c21
                have c21b1 : decide ((t198 : Int).toNat ≤ 281474976710656) = true := decide_eq_true c21
                clear c21
                obtain ⟨y204, hy204⟩ : ∃ y_ : List Bool, y_ = (List.replicate (t198 : Int).toNat false) := ⟨_, rfl⟩
                replace H : (fountainref1_Parts.l0 kj14 t198 ((Go.bits .and .u64 (IntKind.u64.wrap (wrap64 ((wrap64 (a1 * 65537)) + (wrap64 (a2 * 31))))) 4294967295) % 4294967296) t201 x10_14 t203 y204 ([] : List Int) 0) = some r := by first | (rw [hy204]; with_reducible exact H) | (have H2_ := (Option.bind_some _ _).symm.trans H; rw [hy204]; with_reducible exact H2_) | (have H2_ := (Option.bind_some _ _).symm.trans H; with_reducible exact H2_) | with_reducible exact H | (rw [hy204]; exact H) | exact H
                have Ny204 := Aside0.mk hy204
                clear hy204
                have H' := Aside0.mk H
                clear H
                go_wp2_with (first | ((with_reducible refine gate_callee (f := 27) rfl ?_); refine goesL_ (some 62) rfl rfl Try.func27 (by kernel_rfl) rfl #[.int .u32 ((Go.bits .and .u64 (IntKind.u64.wrap (wrap64 ((wrap64 (a1 * 65537)) + (wrap64 (a2 * 31))))) 4294967295) % 4294967296), .int .u32 2, .int .i64 t198] rfl (by (try simp only [List.map_toArray, List.map_cons, List.map_nil]); first | done | rfl | (simp only [List.length_drop, List.length_take]; rfl)) ?_; (with_reducible refine (fountainref1_Rand.calls ((Go.bits .and .u64 (IntKind.u64.wrap (wrap64 ((wrap64 (a1 * 65537)) + (wrap64 (a2 * 31))))) 4294967295) % 4294967296) 2 t198 t203 _ A19.out).mono ?_); rintro e w' ⟨rfl, ⟨nd, rfl⟩⟩; refine ⟨_, rfl, ?_⟩) | ((with_reducible refine gate_dst (N := 64) rfl ?_); refine Kd.R_make Kd.bool _ 4 rfl (N := 64) rfl 67 _ _ rfl t198 rfl rfl Try.underlying67 (.bool false) 1 info4 rfl (by decide) (by omega) false (ok := fun _ => True) (okp := fun _ => True) rfl (fun _ hk => hk) trivial (of_decide_eq_true (by first | (with_reducible assumption) | assumption)) (Nat.le_trans (Nat.mul_le_mul_right _ (of_decide_eq_true (by first | (with_reducible assumption) | assumption) : t198.toNat ≤ 281474976710656)) (by omega)) (Below.refl _ _) (Nat.le_refl _) ?_; intro v205 w22 ho23 hb hg_ hnew_; clear hg_ hnew_; (first | rw [← Ny204.out] at ho23 | (simp only [Int.reduceToNat] at ho23; rw [← Ny204.out] at ho23)); have n0_ := Aside0.mk (Kd.R_lower ho23 (below_size (by repeat (first | (with_reducible first | exact HB.out | apply below_alloc | apply pw_below_drewN | apply below_drew1) | exact HB.out)))); have n1_ := Aside0.mk (below_step (by repeat (first | (with_reducible first | exact HB.out | apply below_alloc | apply pw_below_drewN | apply below_drew1) | exact HB.out)) hb); clear HB; have HO206 := n0_; have HB := n1_; clear n0_ n1_; clear hb ho23))
                go_loopg [13, 14] kj14 (fun kq v13 v14 w' => ∃ (x12_3 : List Bool) (x13_3 : List Int) (x14_3 : Int), v14 = .int .i64 x14_3 ∧ Aside0 (fountainref1_Parts.l0 kq t198 ((Go.bits .and .u64 (IntKind.u64.wrap (wrap64 ((wrap64 (a1 * 65537)) + (wrap64 (a2 * 31))))) 4294967295) % 4294967296) t201 x10_14 t203 x12_3 x13_3 x14_3 = some r) ∧ Aside0 (kq ≤ kj14) ∧ Aside0 (Kd.R Kd.bool 4 w' w.heap.size (fun _ => True) v205 x12_3) ∧ Aside0 (Kd.R (Kd.int .i64) 3 w' w.heap.size (fun _ => True) v13 x13_3) ∧ Aside0 (Below w.heap.size w w'))
                case atStart => exact ⟨(y204), (([] : List Int)), (0), (by first | rfl | (simp; done) | (simp [*]; done)), H', ⟨Nat.le_refl _⟩, ⟨by (with_reducible repeat (first | apply Kd.R_alloc | apply Kd.R_drewN | apply Kd.R_drew)); exact HO206.out⟩, ⟨by first | exact Kd.R_nil _ _ _ _ _ | exact Kd.N_nil _ _ _ _ _ | exact Kd.V_nil _ _ _ _ _ | exact Kd.Q_nil _ _ _ _ _ | exact Kd.S_nil _ _ _ _ _⟩, ⟨by repeat (first | (with_reducible first | exact HB.out | apply below_alloc | apply pw_below_drewN | apply below_drew1) | exact HB.out)⟩⟩
                case round =>
                  clear H'
                  try clear c1
                  try clear c2
                  try clear p2
                  try clear c3
                  try clear c4
                  try clear c5
                  try clear c5b0
                  try clear c6
                  try clear c6b0
                  try clear p6
                  try clear c7
                  try clear c7b0
                  try clear c8
                  try clear c8b0
                  try clear c9
                  try clear c9b0
                  try clear c10
                  try clear c17
                  try clear c17b0
                  try clear c20
                  try clear c20b0
                  try clear c20b1
                  try clear c21
                  try clear c21b0
                  try clear c21b1
                  try clear p2
                  try clear p6
                  obtain ⟨x12_3, x13_3, x14_3, rfl, HA, HK3, HO_12, HO_13, HB⟩ := hrel
                  cases gk with
                  | zero => exact absurd HA.out (by simp [fountainref1_Parts.l0])
                  | succ k3 =>
                    have H := HA.out
                    clear HA
                    simp only [fountainref1_Parts.l0] at H
                    by_cases c24 : x14_3 < t201
                    · rw [if_pos c24] at H
                      have c24b0 : decide (x14_3 < t201) = true := decide_eq_true c24
                      clear c24
                      by_cases c25 : t198 = 0
                      · rw [if_pos c25] at H
                        exact absurd H (by simp)
                      · rw [if_neg c25] at H
                        have c25b0 : (t198 == 0) = false := beq_eq_false_iff_ne.mpr c25
                        have c25b1 : (t198 != 0) = true := bne_iff_ne.mpr c25
                        have H' := Aside0.mk H
                        clear H
                        go_wp2
                        go_loopg [15] k3 (fun kq v15 w' => ∃ (x15_4 : Int), v15 = .int .i64 x15_4 ∧ Aside0 (fountainref1_Parts.l1 kq t198 ((Go.bits .and .u64 (IntKind.u64.wrap (wrap64 ((wrap64 (a1 * 65537)) + (wrap64 (a2 * 31))))) 4294967295) % 4294967296) t201 x10_14 t203 x12_3 x13_3 x14_3 x15_4 = some r) ∧ Aside0 (kq ≤ k3) ∧ Aside0 (Kd.R Kd.bool 4 w' w.heap.size (fun _ => True) v205 x12_3) ∧ Aside0 (Kd.R (Kd.int .i64) 3 w' w.heap.size (fun _ => True) u13 x13_3) ∧ Aside0 (Below w.heap.size w w'))
                        case atStart => exact ⟨(Int.tmod (wrap64 (t203 + (wrap64 (x14_3 * x10_14)))) t198), (by first | rfl | (simp; done) | (simp [*]; done)), H', ⟨Nat.le_refl _⟩, ⟨by (with_reducible repeat (first | apply Kd.R_alloc | apply Kd.R_drewN | apply Kd.R_drew)); exact HO_12.out⟩, ⟨by (with_reducible repeat (first | apply Kd.R_alloc | apply Kd.R_drewN | apply Kd.R_drew)); exact HO_13.out⟩, ⟨by repeat (first | (with_reducible first | exact HB.out | apply below_alloc | apply pw_below_drewN | apply below_drew1) | exact HB.out)⟩⟩
                        case round =>
                          clear H'
                          try clear c1
                          try clear c2
                          try clear p2
                          try clear c3
                          try clear c4
                          try clear c5
                          try clear c5b0
                          try clear c6
                          try clear c6b0
                          try clear p6
                          try clear c7
                          try clear c7b0
                          try clear c8
                          try clear c8b0
                          try clear c9
                          try clear c9b0
                          try clear c10
                          try clear c17
                          try clear c17b0
                          try clear c20
                          try clear c20b0
                          try clear c20b1
                          try clear c21
                          try clear c21b0
                          try clear c21b1
                          try clear c24
                          try clear c24b0
                          try clear c25
                          try clear c25b0
                          try clear c25b1
                          try clear p2
                          try clear p6
                          obtain ⟨x15_4, rfl, HA, HK4, HO_12, HO_13, HB⟩ := hrel
                          cases gk with
                          | zero => exact absurd HA.out (by simp [fountainref1_Parts.l1])
                          | succ k4 =>
                            have H := HA.out
                            clear HA
                            simp only [fountainref1_Parts.l1] at H
                            by_cases c26 : 0 ≤ x15_4
                            · rw [if_pos c26] at H
                              have c26b0 : decide (0 ≤ x15_4) = true := decide_eq_true c26
                              clear c26
                              by_cases c27 : x15_4 < (x12_3.length : Int)
                              · rw [if_pos c27] at H
                                have c27b0 : decide (x15_4 < (x12_3.length : Int)) = true := decide_eq_true c27
                                clear c27
                                obtain ⟨bq28, hbq28⟩ : ∃ b_ : Bool, b_ = (rdOf false x12_3 x15_4) := ⟨_, rfl⟩
                                replace H : (if bq28 = true then (if t198 = 0 then (none) else (fountainref1_Parts.l1 k4 t198 ((Go.bits .and .u64 (IntKind.u64.wrap (wrap64 ((wrap64 (a1 * 65537)) + (wrap64 (a2 * 31))))) 4294967295) % 4294967296) t201 x10_14 t203 x12_3 x13_3 x14_3 (Int.tmod (wrap64 (x15_4 + 1)) t198))) else (if x13_3.length < 17592186044416 then (fountainref1_Parts.l0 k4 t198 ((Go.bits .and .u64 (IntKind.u64.wrap (wrap64 ((wrap64 (a1 * 65537)) + (wrap64 (a2 * 31))))) 4294967295) % 4294967296) t201 x10_14 t203 (x12_3.set (x15_4 : Int).toNat true) (x13_3 ++ [x15_4]) (wrap64 (x14_3 + 1))) else (none))) = some r := by rw [← hbq28] at H; exact H
                                have Nbq28 := Aside0.mk hbq28
                                clear hbq28
                                by_cases c29 : bq28 = true
                                · subst c29
                                  have H1 : (if t198 = 0 then (none) else (fountainref1_Parts.l1 k4 t198 ((Go.bits .and .u64 (IntKind.u64.wrap (wrap64 ((wrap64 (a1 * 65537)) + (wrap64 (a2 * 31))))) 4294967295) % 4294967296) t201 x10_14 t203 x12_3 x13_3 x14_3 (Int.tmod (wrap64 (x15_4 + 1)) t198))) = some r := by rw [if_pos rfl] at H; exact H
                                  clear H
                                  have H := H1
                                  clear H1
                                  by_cases c30 : t198 = 0
                                  · rw [if_pos c30] at H
                                    exact absurd H (by simp)
                                  · rw [if_neg c30] at H
                                    have c30b0 : (t198 == 0) = false := beq_eq_false_iff_ne.mpr c30
                                    have c30b1 : (t198 != 0) = true := bne_iff_ne.mpr c30
                                    have H' := Aside0.mk H
                                    clear H
                                    obtain ⟨Ao31, co31, eo31⟩ := Kd.R_slice HO_12.out
                                    subst eo31
                                    have p211 : 0 ≤ (x15_4 : Int) := of_decide_eq_true (by first | (with_reducible assumption) | assumption)
                                    have q211 : x15_4 < (x12_3.length : Int) := of_decide_eq_true (by first | (with_reducible assumption) | assumption)
                                    obtain ⟨ad211, e211, hx211_0⟩ := Kd.at_bool (Kd.R_reads' HO_12.out).2.2 x15_4 p211 q211
                                    (try rw [← Nbq28.out] at hx211_0)
                                    cases e211
                                    replace p211 := eq_true p211
                                    replace q211 := eq_true q211
                                    go_wp2
                                    go_roundg k4
                                    case measure => have := HJ3.out; have := HJ14.out; have := HK3.out; have := HK4.out; omega
                                    case rel => exact ⟨(Int.tmod (wrap64 (x15_4 + 1)) t198), (by first | rfl | (simp; done) | (simp [*]; done)), H', ⟨by have := HJ3.out; have := HJ14.out; have := HK3.out; have := HK4.out; omega⟩, ⟨by (with_reducible repeat (first | apply Kd.R_alloc | apply Kd.R_drewN | apply Kd.R_drew)); exact HO_12.out⟩, ⟨by (with_reducible repeat (first | apply Kd.R_alloc | apply Kd.R_drewN | apply Kd.R_drew)); exact HO_13.out⟩, ⟨by repeat (first | (with_reducible first | exact HB.out | apply below_alloc | apply pw_below_drewN | apply below_drew1) | exact HB.out)⟩⟩
                                · replace c29 := Bool.eq_false_iff.mpr c29
                                  subst c29
                                  have H1 : (if x13_3.length < 17592186044416 then (fountainref1_Parts.l0 k4 t198 ((Go.bits .and .u64 (IntKind.u64.wrap (wrap64 ((wrap64 (a1 * 65537)) + (wrap64 (a2 * 31))))) 4294967295) % 4294967296) t201 x10_14 t203 (x12_3.set (x15_4 : Int).toNat true) (x13_3 ++ [x15_4]) (wrap64 (x14_3 + 1))) else (none)) = some r := by rw [if_neg (show ¬ (false = true) by decide)] at H; exact H
                                  clear H
                                  have H := H1
                                  clear H1
                                  obtain ⟨y212, hy212⟩ : ∃ y_ : List Bool, y_ = (x12_3.set (x15_4 : Int).toNat true) := ⟨_, rfl⟩
                                  replace H : (if x13_3.length < 17592186044416 then (fountainref1_Parts.l0 k4 t198 ((Go.bits .and .u64 (IntKind.u64.wrap (wrap64 ((wrap64 (a1 * 65537)) + (wrap64 (a2 * 31))))) 4294967295) % 4294967296) t201 x10_14 t203 y212 (x13_3 ++ [x15_4]) (wrap64 (x14_3 + 1))) else (none)) = some r := by first | (rw [hy212]; with_reducible exact H) | (have H2_ := (Option.bind_some _ _).symm.trans H; rw [hy212]; with_reducible exact H2_) | (have H2_ := (Option.bind_some _ _).symm.trans H; with_reducible exact H2_) | with_reducible exact H | (rw [hy212]; exact H) | exact H
                                  have Ny212 := Aside0.mk hy212
                                  clear hy212
                                  by_cases c33 : x13_3.length < 17592186044416
                                  · rw [if_pos c33] at H
                                    have LMc33 := Aside0.mk c33
                                    clear c33
                                    obtain ⟨y213, hy213⟩ : ∃ y_ : List Int, y_ = (x13_3 ++ [x15_4]) := ⟨_, rfl⟩
                                    replace H : (fountainref1_Parts.l0 k4 t198 ((Go.bits .and .u64 (IntKind.u64.wrap (wrap64 ((wrap64 (a1 * 65537)) + (wrap64 (a2 * 31))))) 4294967295) % 4294967296) t201 x10_14 t203 y212 y213 (wrap64 (x14_3 + 1))) = some r := by first | (rw [hy213]; with_reducible exact H) | (have H2_ := (Option.bind_some _ _).symm.trans H; rw [hy213]; with_reducible exact H2_) | (have H2_ := (Option.bind_some _ _).symm.trans H; with_reducible exact H2_) | with_reducible exact H | (rw [hy213]; exact H) | exact H
                                    have Ny213 := Aside0.mk hy213
                                    clear hy213
                                    have H' := Aside0.mk H
                                    clear H
                                    obtain ⟨Ao34, co34, eo34⟩ := Kd.R_slice HO_12.out
                                    subst eo34
                                    have p211 : 0 ≤ (x15_4 : Int) := of_decide_eq_true (by first | (with_reducible assumption) | assumption)
                                    have q211 : x15_4 < (x12_3.length : Int) := of_decide_eq_true (by first | (with_reducible assumption) | assumption)
                                    obtain ⟨ad211, e211, hx211_0⟩ := Kd.at_bool (Kd.R_reads' HO_12.out).2.2 x15_4 p211 q211
                                    (try rw [← Nbq28.out] at hx211_0)
                                    cases e211
                                    replace p211 := eq_true p211
                                    replace q211 := eq_true q211
                                    have p32 : 0 ≤ (x15_4 : Int) := of_decide_eq_true (by first | (with_reducible assumption) | assumption)
                                    have q32 : (x15_4 : Int) < ((x12_3.length : Int) : Int) := of_decide_eq_true (by first | (with_reducible assumption) | assumption)
                                    obtain ⟨go32, co32, eo32, gb32, gl32, cl32, HG32⟩ := Kd.R_form HO_12.out (by omega)
                                    (first | cases eo32 | (injection eo32 with ea_ en_ ec_; (first | subst ea_ | (injection ea_ with ea_; subst ea_)); subst ec_; clear en_))
                                    have GB32 := Aside0.mk gb32
                                    have GG32 := Aside0.mk HG32
                                    clear gb32 gl32 HG32
                                    (first | simp only [add_plain] at hx211_0 | skip)
                                    obtain ⟨hx32_0, hf32_0⟩ := Kd.R_celln false HO_12.out (x15_4 : Int) p32 q32
                                    replace p32 := eq_true p32
                                    replace q32 := eq_true q32
                                    have HP35 := Kd.R_putg HO_12.out (x15_4 : Int) true
                                    go_wp2_with (first | ((with_reducible refine gate_store (t := 4) (p := 87) rfl ?_); refine store_event (t := 4) (p := 87) (v := ?vo_w36) (w1 := (wr.setCell ⟨go32, (x15_4 : Int).toNat, none⟩ (.bool true))) ?hg ?ho ?hn ?hr ?_; (case ho => rfl); (case hg => rfl); (case hn => rfl); (case hr => first | (go_simp; done) | (go_simp; rfl)); intro w36 hw; have hg : wr.grownBy w36 (some go32) := (by rw [hw]; exact HP35.2); have hp_ : Kd.R Kd.bool 4 w36 w.heap.size (fun _ => True) (.slice (some ⟨go32, 0, none⟩) x12_3.length co34) y212 := (by rw [hw, Ny212.out]; exact HP35.1); clear HP35; have n0_ := Aside0.mk (hp_); have n1_ := Aside0.mk (Kd.R_over' (v := (.slice (some ⟨go32, 0, none⟩) x12_3.length co34)) (by (with_reducible repeat (first | apply Kd.R_alloc | apply Kd.R_drewN | apply Kd.R_drew)); exact HO_13.out) (Kd.R_typed HO_12.out) (by decide) hg); have n2_ := Aside0.mk ((by rw [hw]; exact below_set (HB.out) GB32.out : Below w.heap.size w w36)); clear HO_12; clear HO_13; clear HB; have HO_12 := n0_; have HO_13 := n1_; have HB := n2_; clear n0_ n1_ n2_; clear hg hw hp_) | ((with_reducible refine gate_builtin (b := .append) (xs := #[.tmp 88, .tmp 90]) rfl ?_); at_builtin; refine Kd.R_append (Kd.int .i64) (w0 := w) w.heap.size rfl (.tmp 88) (.tmp 90) 35 3 (.int .i64 0) 8 rfl Try.underlying35 info3 rfl (by decide) (by omega) u13 x13_3 x15_4 [.int .i64 x15_4] (fun _ => True) (fun _ => False) rfl rfl ?aP (fun _ hk => hk.elim) ?aF ?aO ?aB ?aS ?aL ?_; (case aP => exact rfl); (case aB => exact (by repeat (first | (with_reducible first | exact HB.out | apply below_alloc | apply pw_below_drewN | apply below_drew1) | exact HB.out))); (case aF => exact (fun _ _ => trivial)); (case aO => exact (by (with_reducible repeat (first | apply Kd.R_alloc | apply Kd.R_drewN | apply Kd.R_drew)); exact HO_13.out)); (case aS => exact (below_size (by repeat (first | (with_reducible first | exact HB.out | apply below_alloc | apply pw_below_drewN | apply below_drew1) | exact HB.out)))); (case aL => have := LMc33.out; omega); intro v214 w37 ho hb hg hat; rw [← Ny213.out] at ho; have n0_ := Aside0.mk (Kd.R_over' (by (with_reducible repeat (first | apply Kd.R_alloc | apply Kd.R_drewN | apply Kd.R_drew)); exact HO_12.out) (Kd.R_typed (by (with_reducible repeat (first | apply Kd.R_alloc | apply Kd.R_drewN | apply Kd.R_drew)); exact HO_13.out)) (by decide) hg); have n1_ := Aside0.mk (hb); have n2_ := Aside0.mk (ho); clear HO_12; clear HB; clear HO_13; have HO_12 := n0_; have HB := n1_; have HO215 := n2_; clear n0_ n1_ n2_; clear ho hb hg hat))
                                    go_roundg k4
                                    case measure => have := HJ3.out; have := HJ14.out; have := HK3.out; have := HK4.out; omega
                                    case rel => exact ⟨(y212), (y213), (wrap64 (x14_3 + 1)), (by first | rfl | (simp; done) | (simp [*]; done)), H', ⟨by have := HJ3.out; have := HJ14.out; have := HK3.out; have := HK4.out; omega⟩, ⟨by (with_reducible repeat (first | apply Kd.R_alloc | apply Kd.R_drewN | apply Kd.R_drew)); exact HO_12.out⟩, ⟨by (with_reducible repeat (first | apply Kd.R_alloc | apply Kd.R_drewN | apply Kd.R_drew)); exact HO215.out⟩, ⟨by repeat (first | (with_reducible first | exact HB.out | apply below_alloc | apply pw_below_drewN | apply below_drew1) | exact HB.out)⟩⟩
                                  · rw [if_neg c33] at H
                                    exact absurd H (by simp)
                              · rw [if_neg c27] at H
                                exact absurd H (by simp)
                            · rw [if_neg c26] at H
                              exact absurd H (by simp)
                    · rw [if_neg c24] at H
                      have c24b0 : decide (x14_3 < t201) = false := decide_eq_false c24
                      clear c24
                      replace H := Option.bind_eq_some_iff.mp H
                      obtain ⟨t207, A380, H⟩ := H
                      replace H : (if x13_3.length < 17592186044416 then (some (x13_3 ++ [wrap64 (t198 + t207)])) else (none)) = some r := H
                      have A38 := Aside0.mk A380
                      clear A380
                      by_cases c39 : x13_3.length < 17592186044416
                      · rw [if_pos c39] at H
                        have LMc39 := Aside0.mk c39
                        clear c39
                        obtain ⟨y208, hy208⟩ : ∃ y_ : List Int, y_ = (x13_3 ++ [wrap64 (t198 + t207)]) := ⟨_, rfl⟩
                        replace H : (some y208) = some r := by first | (rw [hy208]; with_reducible exact H) | (have H2_ := (Option.bind_some _ _).symm.trans H; rw [hy208]; with_reducible exact H2_) | (have H2_ := (Option.bind_some _ _).symm.trans H; with_reducible exact H2_) | with_reducible exact H | (rw [hy208]; exact H) | exact H
                        have Ny208 := Aside0.mk hy208
                        clear hy208
                        obtain rfl := Option.some.inj H
                        go_wp2_with (first | ((with_reducible refine gate_callee (f := 27) rfl ?_); refine goesL_ (some 95) rfl rfl Try.func27 (by kernel_rfl) rfl #[.int .u32 ((Go.bits .and .u64 (IntKind.u64.wrap (wrap64 ((wrap64 (a1 * 65537)) + (wrap64 (a2 * 31))))) 4294967295) % 4294967296), .int .u32 3, .int .i64 2] rfl (by (try simp only [List.map_toArray, List.map_cons, List.map_nil]); first | done | rfl | (simp only [List.length_drop, List.length_take]; rfl)) ?_; (with_reducible refine (fountainref1_Rand.calls ((Go.bits .and .u64 (IntKind.u64.wrap (wrap64 ((wrap64 (a1 * 65537)) + (wrap64 (a2 * 31))))) 4294967295) % 4294967296) 3 2 t207 _ A38.out).mono ?_); rintro e w' ⟨rfl, ⟨nd, rfl⟩⟩; refine ⟨_, rfl, ?_⟩) | ((with_reducible refine gate_builtin (b := .append) (xs := #[.tmp 92, .tmp 97]) rfl ?_); at_builtin; refine Kd.R_append (Kd.int .i64) (w0 := w) w.heap.size rfl (.tmp 92) (.tmp 97) 35 3 (.int .i64 0) 8 rfl Try.underlying35 info3 rfl (by decide) (by omega) u13 x13_3 (wrap64 (t198 + t207)) [.int .i64 (wrap64 (t198 + t207))] (fun _ => True) (fun _ => False) rfl rfl ?aP (fun _ hk => hk.elim) ?aF ?aO ?aB ?aS ?aL ?_; (case aP => exact rfl); (case aB => exact (by repeat (first | (with_reducible first | exact HB.out | apply below_alloc | apply pw_below_drewN | apply below_drew1) | exact HB.out))); (case aF => exact (fun _ _ => trivial)); (case aO => exact (by (with_reducible repeat (first | apply Kd.R_alloc | apply Kd.R_drewN | apply Kd.R_drew)); exact HO_13.out)); (case aS => exact (below_size (by repeat (first | (with_reducible first | exact HB.out | apply below_alloc | apply pw_below_drewN | apply below_drew1) | exact HB.out)))); (case aL => have := LMc39.out; omega); intro v209 w40 ho hb hg hat; rw [← Ny208.out] at ho; have n0_ := Aside0.mk (Kd.R_over' (by (with_reducible repeat (first | apply Kd.R_alloc | apply Kd.R_drewN | apply Kd.R_drew)); exact HO_12.out) (Kd.R_typed (by (with_reducible repeat (first | apply Kd.R_alloc | apply Kd.R_drewN | apply Kd.R_drew)); exact HO_13.out)) (by decide) hg); have n1_ := Aside0.mk (hb); have n2_ := Aside0.mk (ho); clear HO_12; clear HB; clear HO_13; have HO_12 := n0_; have HB := n1_; have HO210 := n2_; clear n0_ n1_ n2_; clear ho hb hg hat))
                        go_ret
                        exact ⟨_, by first | rfl | (simp [errW_none, errW_some] <;> rfl) | (simp [*, errW_none, errW_some] <;> rfl), by (with_reducible repeat (first | apply Kd.R_alloc | apply Kd.R_drewN | apply Kd.R_drew)); exact HO210.out, by repeat (first | (with_reducible first | exact HB.out | apply below_alloc | apply pw_below_drewN | apply below_drew1) | exact HB.out)⟩
                      · rw [if_neg c39] at H
                        exact absurd H (by simp)
              · rw [if_neg c21] at H
                exact absurd H (by simp)
            · rw [if_neg c20] at H
              exact absurd H (by simp)

/-! ### fountainref1_at: function 51 -/
def fountainref1_at.f (l0 : List Int) (a1 : Int) : Option (Int) := if a1 < (l0.length : Int) then (if 0 ≤ a1 then (some (rd l0 a1)) else (none)) else (some 0)
set_option maxHeartbeats 8000000 in
set_option maxRecDepth 100000 in
theorem fountainref1_at.calls (A0 : Option Addr) (c0 : Nat) (l0 : List Int) (a1 : Int) (r : Int) (w : World) (hr0 : Kd.C (Kd.int .u8) w A0 l0.length l0) (hc0 : l0.length ≤ c0) (h : fountainref1_at.f l0 a1 = some r) :
    Calls Try.prog 51 #[.slice A0 l0.length c0, .int .i64 a1] w fun e w' => e = .returned (.int .u8 r) ∧ Drawn0 w w' := by
  have HR0 := Aside0.mk hr0
  have HC0 := Aside0.mk hc0
  clear hr0 hc0
  have H : (if a1 < (l0.length : Int) then (if 0 ≤ a1 then (some (rd l0 a1)) else (none)) else (some 0)) = some r := h
  clear h
  by_cases c3 : a1 < (l0.length : Int)
  · rw [if_pos c3] at H
    have c3b0 : decide (a1 < (l0.length : Int)) = true := decide_eq_true c3
    clear c3
    by_cases c4 : 0 ≤ a1
    · rw [if_pos c4] at H
      have c4b0 : decide (0 ≤ a1) = true := decide_eq_true c4
      clear c4
      obtain rfl := Option.some.inj H
      have p216 : 0 ≤ (a1 : Int) := of_decide_eq_true (by first | (with_reducible assumption) | assumption)
      have q216 : a1 < (l0.length : Int) := of_decide_eq_true (by first | (with_reducible assumption) | assumption)
      obtain ⟨ad216, e216, hx216_0⟩ := Kd.at_int HR0.out a1 p216 q216
      cases e216
      replace p216 := eq_true p216
      replace q216 := eq_true q216
      go_enter Try.func51, Try.ntmps51
      go_wp2
      go_ret
      exact ⟨by first | rfl | (simp; done) | (simp [*]; done), by repeat (first | exact Drawn0.refl _ | apply Drawn0.step)⟩
    · rw [if_neg c4] at H
      exact absurd H (by simp)
  · rw [if_neg c3] at H
    have c3b0 : decide (a1 < (l0.length : Int)) = false := decide_eq_false c3
    clear c3
    obtain rfl := Option.some.inj H
    go_enter Try.func51, Try.ntmps51
    go_wp2
    go_ret
    exact ⟨by first | rfl | (simp; done) | (simp [*]; done), by repeat (first | exact Drawn0.refl _ | apply Drawn0.step)⟩

end Go.Proofs.Ytenokchfabmkfaa.PDropsTell

/- CallsLate's walk. -/
import Derived.Test.YtddchhoplomjgaaCAlive
namespace Go.Proofs.Ytddchhoplomjgaa
open Go.RowKit Go.Proofs.YtddchhoplomjgaaW.PrintLast
set_option linter.unusedVariables false
set_option linter.unusedSimpArgs false
set_option maxHeartbeats 1000000 in
theorem clate_out (W : World) (now at_ : Int) (hg : ¬ (0 ≤ now ∧ now ≤ 1073741824 ∧ 0 ≤ at_ ∧ at_ ≤ 1073741824)) : Calls Try.prog 4 #[.int .i64 now, .int .i64 at_] W fun e W' => e = .returned (.bool true) ∧ Below W.heap.size W W' := by
  by_cases h1 : now < 0
  · clear hg
    go_enter Try.func4, Try.ntmps4
    go_wp2_with fail
    refine (calive_any _).mono ?_
    rintro e w1 ⟨rfl, hb⟩
    go_wp2
    go_ret
    exact ⟨rfl, hb⟩
  by_cases h2 : 1073741824 < now
  · clear hg
    go_enter Try.func4, Try.ntmps4
    go_wp2_with fail
    refine (calive_any _).mono ?_
    rintro e w1 ⟨rfl, hb⟩
    go_wp2
    go_ret
    exact ⟨rfl, hb⟩
  by_cases h3 : at_ < 0
  · clear hg
    go_enter Try.func4, Try.ntmps4
    go_wp2_with fail
    refine (calive_any _).mono ?_
    rintro e w1 ⟨rfl, hb⟩
    go_wp2
    go_ret
    exact ⟨rfl, hb⟩
  · have h4 : 1073741824 < at_ := by omega
    clear hg
    go_enter Try.func4, Try.ntmps4
    go_wp2_with fail
    refine (calive_any _).mono ?_
    rintro e w1 ⟨rfl, hb⟩
    go_wp2
    go_ret
    exact ⟨rfl, hb⟩
theorem capT_of {n : Int} (h : n ≤ 1099511627776) : capT n = n := by unfold capT; rw [if_neg (by omega)]
theorem Turns.cell {F : Nat → Prop} {a b : World} (h : Turns F a b) {q : Addr} {v : Value} (hc : a.cell? q = some v) (hF : ¬ F q.block) : b.cell? q = some v := by
  rw [World.cell?_of_block (h.block q.block (World.block_lt_of_cell? _ _ hc) hF)]
  exact hc
set_option maxHeartbeats 1000000 in
theorem clate_in (W : World) (now at_ : Int) (h1 : 0 ≤ now) (h2 : now ≤ 1073741824) (h3 : 0 ≤ at_) (h4 : at_ ≤ 1073741824) : Calls Try.prog 4 #[.int .i64 now, .int .i64 at_] W fun e W' => e = .returned (.bool true) ∧ Below W.heap.size W W' := by
  by_cases hl : now + 6 < at_
  · go_enter Try.func4, Try.ntmps4
    go_wp2_with fail
    refine (calive_any _).mono ?_
    rintro e w1 ⟨rfl, hb⟩
    have h0 := Lib.hid (co_new w1)
    have T0 := (Turns.refl (fun k => w1.heap.size ≤ k) w1).alloc (.cells #[.slice none 0 0, .int .i64 0] 27)
    go_wp2_with fail
    refine (add_any _ _ _ _ _ _ _ _ _ h0.out (by decide) (by decide) (by decide) (by omega)).mono ?_
    rintro e w2 ⟨rfl, ad1, cap1, h1, T1, F1⟩
    have T2 := T0.trans (T1.mono (G := fun k => w1.heap.size ≤ k) (fun k hk h => by rcases h with h | h <;> first | omega | cases h))
    rw [capT_of (by omega)] at h1
    have T2s : w1.heap.size + 1 ≤ w2.heap.size := by have := T1.size; simpa using this
    replace h1 := Lib.hid h1
    replace T2 := Lib.hid T2
    clear T1 F1 T0 h0
    go_wp2_with fail
    refine (late_any _ _ _ _ _ _ _ h1.out (by simp)).mono ?_
    rintro e w3 ⟨ad2, cap2, ad3, cap3, he, ow, h5, hf5, T3⟩
    have hlate : List.filter (isLate at_) ([] ++ [⟨0 + 1, 3, 4, now + 6⟩]) = [⟨1, 3, 4, now + 6⟩] := by simp [isLate, hl]
    have hleft : List.filter (fun x => !isLate at_ x) ([] ++ [⟨0 + 1, 3, 4, now + 6⟩]) = [] := by simp [isLate, hl]
    rw [hleft] at h5 hf5
    rw [hlate] at he ow
    have T4 := T2.out.trans (T3.mono (G := fun k => w1.heap.size ≤ k) (fun k hk h => by omega))
    replace h5 := Lib.hid h5
    replace T4 := Lib.hid T4
    clear h1 T2 hlate hleft hf5
    simp only [List.length_cons, List.length_nil, Nat.zero_add] at he ow
    subst he
    obtain ⟨g, rfl, hgg⟩ := own_some ow (fun e => by injection e with _ e2 _; omega)
    have g0 : w3.heap.size > g := own_lt ow rfl
    have x0 := ow.cells (g := g) rfl 0 (.int .i64 1) rfl
    have x1 := ow.cells (g := g) rfl 1 (.int .i64 3) rfl
    have x3 := ow.cells (g := g) rfl 3 (.int .i64 (now + 6)) rfl
    rw [Addr.add_lit, Nat.zero_add] at x0 x1 x3
    clear ow
    have hg3 := Lib.hid T3
    clear T3
    go_wp2_with fail
    refine (take_any _ _ _ _ _ _ _ _ h5.out (by simp)).mono ?_
    rintro e w4 ⟨he, ad4, cap4, h6, hf6, T5⟩
    have he' : e = .returned (.tuple #[.agg #[.int .i64 0, .int .i64 0, .int .i64 0, .int .i64 0], .bool false]) := he
    subst he'
    have hgp : ¬ g = w1.heap.size := by
      have := T2s
      omega
    replace x0 := T5.cell x0 hgp
    replace x1 := T5.cell x1 hgp
    replace x3 := T5.cell x3 hgp
    have T6 := Lib.hid (T4.out.trans (T5.mono (G := fun k => w1.heap.size ≤ k) (fun k hk h => by omega)))
    clear he h6 hf6 T5 T4 h5 hg3
    have hgl := World.block_lt_of_cell? _ _ x0
    dsimp only at hgl
    go_wp2
    go_ret
    refine ⟨?_, hb.trans ((T6.out.below (Nat.le_refl _) (fun k hk h => by omega)).mono hb.size |>.alloc (by have := T6.out.size; have := hb.size; omega) _)⟩
    rfl
  · go_enter Try.func4, Try.ntmps4
    go_wp2_with fail
    refine (calive_any _).mono ?_
    rintro e w1 ⟨rfl, hb⟩
    have h0 := Lib.hid (co_new w1)
    have T0 := (Turns.refl (fun k => w1.heap.size ≤ k) w1).alloc (.cells #[.slice none 0 0, .int .i64 0] 27)
    go_wp2_with fail
    refine (add_any _ _ _ _ _ _ _ _ _ h0.out (by decide) (by decide) (by decide) (by omega)).mono ?_
    rintro e w2 ⟨rfl, ad1, cap1, h1, T1, F1⟩
    have T2 := T0.trans (T1.mono (G := fun k => w1.heap.size ≤ k) (fun k hk h => by rcases h with h | h <;> first | omega | cases h))
    rw [capT_of (by omega)] at h1
    have T2s : w1.heap.size + 1 ≤ w2.heap.size := by have := T1.size; simpa using this
    replace h1 := Lib.hid h1
    replace T2 := Lib.hid T2
    clear T1 F1 T0 h0
    go_wp2_with fail
    refine (late_any _ _ _ _ _ _ _ h1.out (by simp)).mono ?_
    rintro e w3 ⟨ad2, cap2, ad3, cap3, he, ow, h5, hf5, T3⟩
    have hlate : List.filter (isLate at_) ([] ++ [⟨0 + 1, 3, 4, now + 6⟩]) = [] := by simp [isLate]; omega
    have hleft : List.filter (fun x => !isLate at_ x) ([] ++ [⟨0 + 1, 3, 4, now + 6⟩]) = [⟨1, 3, 4, now + 6⟩] := by simp [isLate]; omega
    rw [hleft] at h5 hf5
    rw [hlate] at he ow
    have T4 := T2.out.trans (T3.mono (G := fun k => w1.heap.size ≤ k) (fun k hk h => by omega))
    replace h5 := Lib.hid h5
    replace T4 := Lib.hid T4
    clear h1 T2 hlate hleft hf5
    simp only [List.length_cons, List.length_nil, Nat.zero_add] at he ow
    subst he
    clear ow
    have hg3 := Lib.hid T3
    clear T3
    go_wp2_with fail
    refine (take_any _ _ _ _ _ _ _ _ h5.out (by simp)).mono ?_
    rintro e w4 ⟨he, ad4, cap4, h6, hf6, T5⟩
    have he' : e = .returned (.tuple #[.agg #[.int .i64 1, .int .i64 3, .int .i64 4, .int .i64 (now + 6)], .bool true]) := he
    subst he'
    have T6 := Lib.hid (T4.out.trans (T5.mono (G := fun k => w1.heap.size ≤ k) (fun k hk h => by omega)))
    clear he h6 hf6 T5 T4 h5 hg3
    go_wp2
    go_ret
    refine ⟨?_, hb.trans ((T6.out.below (Nat.le_refl _) (fun k hk h => by omega)).mono hb.size |>.alloc (by have := T6.out.size; have := hb.size; omega) _)⟩
    rfl
theorem clate_any (W : World) (now at_ : Int) : Calls Try.prog 4 #[.int .i64 now, .int .i64 at_] W fun e W' => e = .returned (.bool true) ∧ Below W.heap.size W W' := by
  by_cases h : 0 ≤ now ∧ now ≤ 1073741824 ∧ 0 ≤ at_ ∧ at_ ≤ 1073741824
  · exact clate_in W now at_ h.1 h.2.1 h.2.2.1 h.2.2.2
  · exact clate_out W now at_ h
end Go.Proofs.Ytddchhoplomjgaa

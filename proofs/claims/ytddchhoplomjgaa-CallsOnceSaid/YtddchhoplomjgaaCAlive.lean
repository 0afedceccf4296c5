/- alive's walk (calls). -/
import Derived.Test.YtddchhoplomjgaaTake
namespace Go.Proofs.Ytddchhoplomjgaa
open Go.RowKit Go.Proofs.YtddchhoplomjgaaW.PrintLast
set_option linter.unusedVariables false
set_option linter.unusedSimpArgs false
theorem co_new (W : World) : CO (W.alloc (.cells #[.slice none 0 0, .int .i64 0] 27)) W.heap.size none 0 [] 0 :=
  ⟨heap_alloc_new W _, World.ownsRow_nil _ _ _ _⟩
set_option maxHeartbeats 1000000 in
theorem calive_any (W : World) : Calls Try.prog 11 #[] W fun e W' => e = .returned (.bool true) ∧ Below W.heap.size W W' := by
  have h0 := Lib.hid (co_new W)
  have T0 := (Turns.refl (fun k => W.heap.size ≤ k) W).alloc (.cells #[.slice none 0 0, .int .i64 0] 27)
  have hz : (W.alloc (.cells #[.slice none 0 0, .int .i64 0] 27)).heap.size = W.heap.size + 1 := by simp
  replace hz := Lib.hid hz
  go_enter Try.func11, Try.ntmps11
  go_wp2_with fail
  refine (len_any _ _ _ _ _ _ h0.out).mono ?_
  rintro e w1 ⟨rfl, rfl⟩
  go_wp2_with fail
  refine (add_any _ _ _ _ _ _ _ _ _ h0.out (by decide) (by decide) (by decide) (by decide)).mono ?_
  rintro e w1 ⟨rfl, ad1, cap1, h1, T1, F1⟩
  have T2 := T0.trans (T1.mono (G := fun k => W.heap.size ≤ k) (fun k hk h => by rcases h with h | h <;> first | omega | cases h))
  replace h1 := Lib.hid h1
  replace T2 := Lib.hid T2
  clear T1 F1 T0 h0
  go_wp2_with fail
  refine (take_any _ _ _ _ _ _ _ _ h1.out (by decide)).mono ?_
  rintro e w2 ⟨he, ad2, cap2, h2, hf2, T3⟩
  have T4 := T2.out.trans (T3.mono (G := fun k => W.heap.size ≤ k) (fun k hk h => by omega))
  have he' : e = .returned (.tuple #[.agg #[.int .i64 1, .int .i64 1, .int .i64 2, .int .i64 9], .bool true]) := he
  subst he'
  clear he h2 hf2 T3 T2 h1
  replace T4 := Lib.hid T4
  go_wp2
  go_ret
  exact ⟨rfl, (T4.out.below (Nat.le_refl _) (fun k hk h => by omega)).alloc (T4.out.size) _⟩
end Go.Proofs.Ytddchhoplomjgaa

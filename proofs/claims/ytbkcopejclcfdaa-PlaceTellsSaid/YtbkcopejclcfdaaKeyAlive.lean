/- alive: the walk. -/
import Derived.Test.YtbkcopejclcfdaaKeyROf
namespace Go.Proofs.Ytbkcopejclcfdaa
open Go.RowKit Go.Proofs.Ytbkcopejclcfdaa.Sum Go.Proofs.Ytbkcopejclcfdaa.Rand

/-- 20 bytes 0 -/
def z20 : List Int := [0,0,0,0,0,0,0,0,0,0,0,0,0,0,0,0,0,0,0,0]
theorem z20_len : z20.length = 20 := rfl
theorem z20_bytes : Bytes z20 := by
  intro x hx
  simp [z20] at hx
  subst hx
  exact byte0
theorem zero20_kv : zero20 = kv z20 := rfl
theorem dead1 : decide (ofL [1] = ofL [2]) = false := by decide +kernel
theorem dead2 : decide (ofL [] = z20) = false := by decide +kernel
theorem live1 : pz (addRow z20 z20) 0 = 160 := by decide +kernel
theorem neq12 (w : World) : (binOp .neq 23 (.agg (kv (ofL [1]))) (.agg (kv (ofL [2])))).run Try.prog w = .ok (.bool true) w := by
  rw [run_neq_key w _ _ (ofL_length _) (ofL_length _), dead1]
  rfl
theorem neq0 (w : World) : (binOp .neq 23 (.agg (kv (ofL []))) (.agg zero20)).run Try.prog w = .ok (.bool true) w := by
  rw [zero20_kv, run_neq_key w _ _ (ofL_length _) z20_len, dead2]
  rfl
theorem pre0 (w : World) : Calls Try.prog 19 #[.agg zero20, .agg zero20] w fun e w' => e = .returned (.int .i64 160) ∧ Below w.heap.size w w' := by
  have h := prefix_any z20 z20 w z20_len z20_len z20_bytes z20_bytes
  rw [live1] at h
  exact h
theorem of0 (w : World) : Calls Try.prog 14 #[.slice none 0 0] w fun e w' => e = .returned (.agg (kv (ofL []))) ∧ Below w.heap.size w w' :=
  of_any none 0 [] w (by decide) (fun j hj => absurd hj (Nat.not_lt_zero _))
theorem of1 (g cap : Nat) (x : Int) (w : World) (hg : g < w.heap.size) (hc : w.cell? ⟨g, 0, none⟩ = some (.int .i64 x)) : Calls Try.prog 14 #[.slice (some ⟨g, 0, none⟩) 1 cap] w fun e w' => e = .returned (.agg (kv (ofL [x]))) ∧ Below w.heap.size w w' :=
  of_any (some ⟨g, 0, none⟩) cap [x] w (by simp) (fun j hj => by
    obtain rfl : j = 0 := by simpa using hj
    exact ⟨g, 0, rfl, hg, hc⟩)
/-- a row of one cell, new -/
theorem of1_new (x : Int) (w : World) : Calls Try.prog 14 #[.slice (some ⟨w.heap.size, 0, none⟩) 1 1] (w.alloc (.cells #[.int .i64 x] 3 (0, 0))) fun e w' => e = .returned (.agg (kv (ofL [x]))) ∧ Below w.heap.size w w' := by
  refine (of1 w.heap.size 1 x (w.alloc (.cells #[.int .i64 x] 3 (0, 0))) (by simp) ?_).mono fun e w' ⟨he, hb⟩ => ⟨he, ((Below.refl _ _).alloc (Nat.le_refl _) _).trans (hb.mono (by simp))⟩
  rw [cell_of_row _ w.heap.size 0 _ _ _ (heap_alloc_new w _)]
  rfl
theorem Below.step {B : Nat} {a b c : World} (h : Below B a b) (hB : B ≤ b.heap.size) (k : Below b.heap.size b c) : Below B a c ∧ B ≤ c.heap.size := ⟨h.trans (k.mono hB), Nat.le_trans hB k.size⟩
set_option maxHeartbeats 1000000 in
theorem alive_any (w : World) : Calls Try.prog 12 #[] w fun e w' => e = .returned (.bool true) ∧ Below w.heap.size w w' := by
  have bb := And.intro (Below.refl w.heap.size w) (Nat.le_refl w.heap.size)
  have H0 := of0
  have H1 := of1_new 1
  have H2 := of1_new 2
  have N := neq12
  have N0 := neq0
  generalize kv (ofL [1]) = v1 at H1 N
  generalize kv (ofL [2]) = v2 at H2 N
  generalize kv (ofL []) = v0 at H0 N0
  unfold zero20 at N0
  go_enter Try.func12, Try.ntmps12
  go_wp2_with (first | (go_at_call 19; refine (pre0 _).mono ?_; rintro e w1 ⟨rfl, b1⟩; replace bb := Below.step bb.1 bb.2 b1; clear b1) | (go_at_call 14; first | (with_reducible refine (H0 _).mono ?_; rintro e w1 ⟨rfl, b1⟩; replace bb := Below.step bb.1 bb.2 b1; clear b1) | (with_reducible refine (H1 _).mono ?_; rintro e w1 ⟨rfl, b1⟩; replace bb := Below.step bb.1 bb.2 b1; clear b1) | (with_reducible refine (H2 _).mono ?_; rintro e w1 ⟨rfl, b1⟩; replace bb := Below.step bb.1 bb.2 b1; clear b1)))
  go_ret
  exact ⟨rfl, bb.1⟩
end Go.Proofs.Ytbkcopejclcfdaa

/- Two keys held in blocks beside a row of numbers, and calls that keep them. -/
import Derived.Test.YtbkcopejclcfdaaKeyHeld
namespace Go.Proofs.Ytbkcopejclcfdaa
open Go.RowKit Go.Proofs.YtbkcopejclcfdaaW.PrintWords Go.Proofs.YtbkcopejclcfdaaW.PrintLast Go.Proofs.Ytbkcopejclcfdaa.Sum Go.Proofs.Ytbkcopejclcfdaa.Rand
set_option linter.unusedVariables false

/-- numbers that lie in the world as it began -/
def Nums (w : World) (a : Option Addr) (xs : List Int) : Prop := ∀ j, j < xs.length → ∃ b off, a = some ⟨b, off, none⟩ ∧ b < w.heap.size ∧ w.cell? ⟨b, off + j, none⟩ = some (.int .i64 (xs.getD j 0))
theorem Nums.keep {w W : World} {a : Option Addr} {xs : List Int} (h : Nums w a xs) (hb : Below w.heap.size w W) : Nums W a xs := fun j hj => by
  obtain ⟨b, off, h1, h2, h3⟩ := h j hj
  exact ⟨b, off, h1, Nat.lt_of_lt_of_le h2 hb.size, by rw [hb.cell h2]; exact h3⟩
/-- two rows more -/
def Held2 (w : World) (a b : List Value) (W : World) : Prop := Below w.heap.size w W ∧ w.heap.size + 2 ≤ W.heap.size ∧ W.rangeAt w.heap.size 0 a ∧ W.rangeAt (w.heap.size + 1) 0 b
section
variable {w W W' : World} {a b : List Value}
theorem Held2.keep (h : Held2 w a b W) (hb : Below W.heap.size W W') : Held2 w a b W' := by
  obtain ⟨h1, h2, h3, h4⟩ := h
  exact ⟨h1.trans (hb.mono (by omega)), Nat.le_trans h2 hb.size, rangeAt_below hb (by omega) h3, rangeAt_below hb (by omega) h4⟩
theorem Held2.drew (h : Held2 w a b W) : Held2 w a b W.drew := ⟨h.1.drew, h.2.1, (World.rangeAt_drew _ _ _ _).2 h.2.2.1, (World.rangeAt_drew _ _ _ _).2 h.2.2.2⟩
theorem Held2.r0 (h : Held2 w a b W) : W.rangeAt w.heap.size 0 a := h.2.2.1
theorem Held2.r1 (h : Held2 w a b W) : W.rangeAt (w.heap.size + 1) 0 b := h.2.2.2
theorem two_dist (x y : List Int) (hx : Key20 x) (hy : Key20 y) (h : Held2 w a b W) : Calls Try.prog 13 #[.agg (kv x), .agg (kv y)] W fun e W' => e = .returned (.agg (kv (addRow x y))) ∧ Held2 w a b W' :=
  (dist_any x y W hx.len hy.len).mono fun _ _ ⟨he, hb⟩ => ⟨he, h.keep hb⟩
theorem two_rdist (x y : List Int) (hx : Key20 x) (hy : Key20 y) (h : Held2 w a b W) : Calls Try.prog 16 #[.agg (kv x), .agg (kv y)] W fun e W' => e = .returned (.agg (kv (addRow x y))) ∧ Held2 w a b W' :=
  (rdist_any x y W hx.len hy.len).mono fun _ _ ⟨he, hb⟩ => ⟨he, h.keep hb⟩
theorem two_less (x y : List Int) (hx : Key20 x) (hy : Key20 y) (h : Held2 w a b W) : Calls Try.prog 17 #[.agg (kv x), .agg (kv y)] W fun e W' => e = .returned (.bool (lessL x y)) ∧ Held2 w a b W' :=
  (less_any x y W hx hy).mono fun _ _ ⟨he, hb⟩ => ⟨he, h.keep hb⟩
theorem two_rless (x y : List Int) (hx : Key20 x) (hy : Key20 y) (h : Held2 w a b W) : Calls Try.prog 18 #[.agg (kv x), .agg (kv y)] W fun e W' => e = .returned (.bool (lessL x y)) ∧ Held2 w a b W' :=
  (rless_any x y W hx.len hy.len).mono fun _ _ ⟨he, hb⟩ => ⟨he, h.keep hb⟩
theorem two_prefix (x y : List Int) (hx : Key20 x) (hy : Key20 y) (h : Held2 w a b W) : Calls Try.prog 19 #[.agg (kv x), .agg (kv y)] W fun e W' => e = .returned (.int .i64 (pz (addRow x y) 0)) ∧ Held2 w a b W' :=
  (prefix_any x y W hx.len hy.len hx.bytes hy.bytes).mono fun _ _ ⟨he, hb⟩ => ⟨he, h.keep hb⟩
theorem two_rprefix (x y : List Int) (hx : Key20 x) (hy : Key20 y) (h : Held2 w a b W) : Calls Try.prog 20 #[.agg (kv x), .agg (kv y)] W fun e W' => e = .returned (.int .i64 (pz (addRow x y) 0)) ∧ Held2 w a b W' :=
  (rprefix_any x y W hx.len hy.len hx.bytes hy.bytes).mono fun _ _ ⟨he, hb⟩ => ⟨he, h.keep hb⟩
theorem two_of {A : Option Addr} {xs : List Int} (cap : Nat) (hm : xs.length ≤ 9223372036854775807) (hn : Nums w A xs) (h : Held2 w a b W) : Calls Try.prog 14 #[.slice A xs.length cap] W fun e W' => e = .returned (.agg (kv (ofL xs))) ∧ Held2 w a b W' :=
  (of_any A cap xs W hm (hn.keep h.1)).mono fun _ _ ⟨he, hb⟩ => ⟨he, h.keep hb⟩
theorem two_keyOf {A : Option Addr} {xs : List Int} (cap : Nat) (hm : xs.length ≤ 9223372036854775807) (hn : Nums w A xs) (h : Held2 w a b W) : Calls Try.prog 15 #[.slice A xs.length cap] W fun e W' => e = .returned (.agg (kv (ofL xs))) ∧ Held2 w a b W' :=
  (keyOf_any A cap xs W hm (hn.keep h.1)).mono fun _ _ ⟨he, hb⟩ => ⟨he, h.keep hb⟩
end
theorem held2_start (w : World) (a b : List Int) (w1 : World)
    (h : Below ((w.alloc (.cells (kv a) 23 (0, 0))).alloc (.cells (kv b) 23 (0, 0))).heap.size ((w.alloc (.cells (kv a) 23 (0, 0))).alloc (.cells (kv b) 23 (0, 0))) w1) : Held2 w (cv a) (cv b) w1 := by
  have h0 : Held2 w (cv a) (cv b) ((w.alloc (.cells (kv a) 23 (0, 0))).alloc (.cells (kv b) 23 (0, 0))) := by
    refine ⟨((Below.refl _ _).alloc (Nat.le_refl _) _).alloc (by simp) _, by first | (simp; done) | (simp; omega), rangeAt_row ?_, rangeAt_row ?_⟩
    · rw [heap_alloc2_old]
    · rw [heap_alloc2_new]
  exact h0.keep h
end Go.Proofs.Ytbkcopejclcfdaa

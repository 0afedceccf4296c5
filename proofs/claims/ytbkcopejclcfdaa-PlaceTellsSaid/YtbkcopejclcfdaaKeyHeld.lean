/- Three keys held in blocks, and calls that keep them. -/
import Derived.Test.YtbkcopejclcfdaaKeyAlive
import Derived.Deep.RegionHeld3
import Derived.Deep.MidRow
import Derived.Test.YtbkcopejclcfdaaWLast
import Derived.Test.YtbkcopejclcfdaaWTab
namespace Go.Proofs.Ytbkcopejclcfdaa
open Go.RowKit Go.Proofs.YtbkcopejclcfdaaW.PrintWords Go.Proofs.YtbkcopejclcfdaaW.PrintLast Go.Proofs.Ytbkcopejclcfdaa.Sum Go.Proofs.Ytbkcopejclcfdaa.Rand

/-- nothing below is touched, and three rows more lie there -/
def Ov (w W : World) : Prop := Below w.heap.size w W ∧ w.heap.size + 3 ≤ W.heap.size
theorem Ov_drew (w W : World) : Ov w W.drew ↔ Ov w W := ⟨fun h => ⟨⟨h.1.os, h.1.tape, h.1.output, h.1.size, h.1.block⟩, h.2⟩, fun h => ⟨h.1.drew, h.2⟩⟩
theorem rangeAt_below {B : Nat} {W W' : World} (h : Below B W W') {g : Nat} (hg : g < B) {cs : List Value} (hr : W.rangeAt g 0 cs) : W'.rangeAt g 0 cs := fun j v hv => by
  rw [h.cell hg]
  exact hr j v hv
/-- the three rows -/
def Held (w : World) (a b c : List Value) (W : World) : Prop := Ov w W ∧ W.rangeAt w.heap.size 0 a ∧ W.rangeAt (w.heap.size + 1) 0 b ∧ W.rangeAt (w.heap.size + 1 + 1) 0 c
theorem Held.keep {w W W' : World} {a b c : List Value} (h : Held w a b c W) (hb : Below W.heap.size W W') : Held w a b c W' := by
  obtain ⟨⟨h1, h2⟩, h3, h4, h5⟩ := h
  exact ⟨⟨h1.trans (hb.mono (by omega)), Nat.le_trans h2 hb.size⟩, rangeAt_below hb (by omega) h3, rangeAt_below hb (by omega) h4, rangeAt_below hb (by omega) h5⟩
theorem Held.r0 {w W : World} {a b c : List Value} (h : Held w a b c W) : W.rangeAt w.heap.size 0 a := h.2.1
theorem Held.r1 {w W : World} {a b c : List Value} (h : Held w a b c W) : W.rangeAt (w.heap.size + 1) 0 b := h.2.2.1
theorem Held.r2 {w W : World} {a b c : List Value} (h : Held w a b c W) : W.rangeAt (w.heap.size + 1 + 1) 0 c := h.2.2.2
theorem Held.drew {w W : World} {a b c : List Value} (h : Held w a b c W) : Held w a b c W.drew :=
  ⟨(Ov_drew _ _).2 h.1, (World.rangeAt_drew _ _ _ _).2 h.2.1, (World.rangeAt_drew _ _ _ _).2 h.2.2.1, (World.rangeAt_drew _ _ _ _).2 h.2.2.2⟩
theorem less_keep {w W : World} {a b c : List Value} (x y : List Int) (hx : Key20 x) (hy : Key20 y) (h : Held w a b c W) :
    Calls Try.prog 17 #[.agg (kv x), .agg (kv y)] W fun e W' => e = .returned (.bool (lessL x y)) ∧ Held w a b c W' :=
  (less_any x y W hx hy).mono fun _ _ ⟨he, hb⟩ => ⟨he, h.keep hb⟩
/-- the cells of a row -/
def cv (a : List Int) : List Value := a.map (Value.int .u8)
theorem cv_length (a : List Int) : (cv a).length = a.length := by simp [cv]
theorem kv_cv (a : List Int) : kv a = (cv a).toArray := rfl
theorem cv_one (a : List Int) : ∀ v ∈ cv a, v.oneCell' = true := by
  intro v hv
  obtain ⟨x, _, rfl⟩ := List.mem_map.1 hv
  rfl
theorem key_addRow {a b : List Int} (ha : Key20 a) (hb : Key20 b) : Key20 (addRow a b) := ⟨by rw [addRow_length, ha.len], addRow_bytes ha.bytes hb.bytes⟩
theorem prefix_keep {w W : World} {a b c : List Value} (x y : List Int) (hx : Key20 x) (hy : Key20 y) (h : Held w a b c W) :
    Calls Try.prog 19 #[.agg (kv x), .agg (kv y)] W fun e W' => e = .returned (.int .i64 (pz (addRow x y) 0)) ∧ Held w a b c W' :=
  (prefix_any x y W hx.len hy.len hx.bytes hy.bytes).mono fun _ _ ⟨he, hb⟩ => ⟨he, h.keep hb⟩
theorem rprefix_keep {w W : World} {a b c : List Value} (x y : List Int) (hx : Key20 x) (hy : Key20 y) (h : Held w a b c W) :
    Calls Try.prog 20 #[.agg (kv x), .agg (kv y)] W fun e W' => e = .returned (.int .i64 (pz (addRow x y) 0)) ∧ Held w a b c W' :=
  (rprefix_any x y W hx.len hy.len hx.bytes hy.bytes).mono fun _ _ ⟨he, hb⟩ => ⟨he, h.keep hb⟩
theorem dist_keep {w W : World} {a b c : List Value} (x y : List Int) (hx : Key20 x) (hy : Key20 y) (h : Held w a b c W) :
    Calls Try.prog 13 #[.agg (kv x), .agg (kv y)] W fun e W' => e = .returned (.agg (kv (addRow x y))) ∧ Held w a b c W' :=
  (dist_any x y W hx.len hy.len).mono fun _ _ ⟨he, hb⟩ => ⟨he, h.keep hb⟩
theorem rdist_keep {w W : World} {a b c : List Value} (x y : List Int) (hx : Key20 x) (hy : Key20 y) (h : Held w a b c W) :
    Calls Try.prog 16 #[.agg (kv x), .agg (kv y)] W fun e W' => e = .returned (.agg (kv (addRow x y))) ∧ Held w a b c W' :=
  (rdist_any x y W hx.len hy.len).mono fun _ _ ⟨he, hb⟩ => ⟨he, h.keep hb⟩
theorem rless_keep {w W : World} {a b c : List Value} (x y : List Int) (hx : Key20 x) (hy : Key20 y) (h : Held w a b c W) :
    Calls Try.prog 18 #[.agg (kv x), .agg (kv y)] W fun e W' => e = .returned (.bool (lessL x y)) ∧ Held w a b c W' :=
  (rless_any x y W hx.len hy.len).mono fun _ _ ⟨he, hb⟩ => ⟨he, h.keep hb⟩
/-- the beginning: three rows boxed, then a call that makes memory -/
theorem rangeAt_row {W : World} {g : Nat} {a : List Int} (h : W.heap[g]? = some (.cells (kv a) 23 (0, 0))) : W.rangeAt g 0 (cv a) := fun j v hv => by
  rw [Nat.zero_add, cell_of_row W g j _ _ _ h, kv_cv, List.getElem?_toArray]
  exact hv
theorem held_start (w : World) (a b c : List Int) (w1 : World)
    (h : Below (((w.alloc (.cells (kv a) 23 (0, 0))).alloc (.cells (kv b) 23 (0, 0))).alloc (.cells (kv c) 23 (0, 0))).heap.size (((w.alloc (.cells (kv a) 23 (0, 0))).alloc (.cells (kv b) 23 (0, 0))).alloc (.cells (kv c) 23 (0, 0))) w1) : Held w (cv a) (cv b) (cv c) w1 := by
  have h0 : Held w (cv a) (cv b) (cv c) (((w.alloc (.cells (kv a) 23 (0, 0))).alloc (.cells (kv b) 23 (0, 0))).alloc (.cells (kv c) 23 (0, 0))) := by
    refine ⟨⟨(((Below.refl _ _).alloc (Nat.le_refl _) _).alloc (by simp) _).alloc (by first | (simp; done) | (simp; omega)) _, by first | (simp; done) | (simp; omega)⟩, rangeAt_row ?_, rangeAt_row ?_, rangeAt_row ?_⟩
    · rw [heap_alloc_old _ _ (by simp; omega), heap_alloc2_old]
    · rw [heap_alloc_old _ _ (by simp), heap_alloc2_new]
    · have e := heap_alloc_new ((w.alloc (.cells (kv a) 23 (0, 0))).alloc (.cells (kv b) 23 (0, 0))) (.cells (kv c) 23 (0, 0))
      simp only [World.size_alloc] at e
      exact e
  exact h0.keep h
end Go.Proofs.Ytbkcopejclcfdaa

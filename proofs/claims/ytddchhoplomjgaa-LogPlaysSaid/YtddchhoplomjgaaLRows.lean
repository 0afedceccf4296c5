/- The pieces of a log: plain; rows of bytes that lie in the world. No walk here. -/
import Derived.Test.YtddchhoplomjgaaLNext
import Derived.Test.YtddchhoplomjgaaCut
namespace Go.Proofs.Ytddchhoplomjgaa
open Go.RowKit
set_option linter.unusedVariables false
theorem nextP_some {b ys : List Int} {k : Nat} (h : nextP b = some (ys, k)) : 2 ≤ k ∧ k ≤ b.length ∧ ys = (b.take k).drop 2 ∧ ys.length + 2 = k := by
  match b, h with
  | a :: c :: r, h =>
    rw [nextP_cons] at h
    split at h
    · injection h with h
      injection h with h1 h2
      subst h1 h2
      refine ⟨by omega, by simp; omega, ?_, by rw [List.length_take]; omega⟩
      rw [List.take_succ_cons, List.take_succ_cons]
      rfl
    · cases h
/-- all whole pieces from the head on -/
def allP (b : List Int) : List (List Int) := match h : nextP b with
  | none => []
  | some (ys, k) => ys :: allP (b.drop k)
termination_by b.length
decreasing_by
  have := nextP_some h
  rw [List.length_drop]
  omega
/-- how many bytes these take -/
def wholeN (b : List Int) : Nat := match h : nextP b with
  | none => 0
  | some (_, k) => k + wholeN (b.drop k)
termination_by b.length
decreasing_by
  have := nextP_some h
  rw [List.length_drop]
  omega
theorem allP_none {b : List Int} (h : nextP b = none) : allP b = [] := by
  unfold allP
  split
  · rfl
  · rename_i ys k h2
    rw [h] at h2
    cases h2
theorem allP_some {b ys : List Int} {k : Nat} (h : nextP b = some (ys, k)) : allP b = ys :: allP (b.drop k) := by
  rw [allP]
  split
  · rename_i h2
    rw [h] at h2
    cases h2
  · rename_i ys' k' h2
    rw [h] at h2
    injection h2 with h2
    injection h2 with h3 h4
    subst h3 h4
    rfl
theorem wholeN_none {b : List Int} (h : nextP b = none) : wholeN b = 0 := by
  unfold wholeN
  split
  · rfl
  · rename_i ys k h2
    rw [h] at h2
    cases h2
theorem wholeN_some {b ys : List Int} {k : Nat} (h : nextP b = some (ys, k)) : wholeN b = k + wholeN (b.drop k) := by
  rw [wholeN]
  split
  · rename_i h2
    rw [h] at h2
    cases h2
  · rename_i ys' k' h2
    rw [h] at h2
    injection h2 with h2
    injection h2 with h3 h4
    subst h4
    rfl
theorem Bytes.drop {b : List Int} (h : Bytes b) (k : Nat) : Bytes (b.drop k) := fun x hx => h x (List.mem_of_mem_drop hx)
theorem Bytes.take {b : List Int} (h : Bytes b) (k : Nat) : Bytes (b.take k) := fun x hx => h x (List.mem_of_mem_take hx)
/-- rows of bytes that lie in blocks of their own, from B on -/
structure RowsAt (W : World) (B : Nat) (v : Value) (rows : List (List Int)) : Prop where
  cells : ∃ cs : List Value, W.ownsRow B 38 1 v rows.length cs ∧ ∀ i (h : i < rows.length), ∃ ad cap, cs[i]? = some (.slice ad rows[i].length cap) ∧ W.ownsRow B 5 1 (.slice ad rows[i].length cap) rows[i].length (bv rows[i])
theorem RowsAt.nil (W : World) (B : Nat) : RowsAt W B (.slice none 0 0) [] := ⟨[], World.ownsRow_nil _ _ _ _, fun i h => by simp at h⟩
theorem RowsAt.shape {W : World} {B : Nat} {v : Value} {rows : List (List Int)} (h : RowsAt W B v rows) : ∃ ad cap, v = .slice ad rows.length cap := by
  obtain ⟨cs, h1, _⟩ := h.cells
  exact slice_of_own h1
theorem RowsAt.keep {F : Nat → Prop} {W W' : World} {B : Nat} {v : Value} {rows : List (List Int)} (h : RowsAt W B v rows) (T : Turns F W W') (hF : ∀ k, B ≤ k → ¬ F k) : RowsAt W' B v rows := by
  obtain ⟨cs, h1, h2⟩ := h.cells
  refine ⟨cs, T.own h1 (fun k hk => hF k (h1.lt k hk).1), fun i hi => ?_⟩
  obtain ⟨ad, cap, h3, h4⟩ := h2 i hi
  exact ⟨ad, cap, h3, T.own h4 (fun k hk => hF k (h4.lt k hk).1)⟩
theorem own_ne2 {w : World} {B B' : Nat} {e e' : TypeId} {s s' n n' k : Nat} {v v' : Value} {xs xs' : List Value} (h : w.ownsRow B e s v n xs) (h' : w.ownsRow B' e' s' v' n' xs') (hne : e ≠ e') (hk : v.ownBlock = some k) : ¬ v'.ownBlock = some k := by
  rcases h.2 with ⟨rfl, _⟩ | ⟨g, cap, cur, rfl, _, hg, _⟩
  · cases hk
  · injection hk with hk
    subst hk
    intro hv
    exact own_ne h' hg hne hv
/-- one row more -/
theorem RowsAt.snoc {W W1 : World} {B : Nat} {v v' : Value} {rows : List (List Int)} {y : List Int} {ad : Option Addr} {cap : Nat} (cs : List Value) (h1 : W.ownsRow B 38 1 v rows.length cs) (h2 : ∀ i (h : i < rows.length), ∃ ad cap, cs[i]? = some (.slice ad rows[i].length cap) ∧ W.ownsRow B 5 1 (.slice ad rows[i].length cap) rows[i].length (bv rows[i])) (hy : W.ownsRow B 5 1 (.slice ad y.length cap) y.length (bv y))
    (hv : W1.ownsRow B 38 1 v' (rows.length + 1) (cs ++ [.slice ad y.length cap])) (T : Turns (fun k => v.ownBlock = some k) W W1) : RowsAt W1 B v' (rows ++ [y]) := by
  have hlc : cs.length = rows.length := by have := h1.1; omega
  refine ⟨cs ++ [.slice ad y.length cap], by rw [List.length_append]; exact hv, fun i hi => ?_⟩
  by_cases hlt : i < rows.length
  · obtain ⟨a', c', h3, h4⟩ := h2 i hlt
    refine ⟨a', c', ?_, ?_⟩
    · rw [List.getElem?_append_left (by omega), List.getElem_append_left hlt]; exact h3
    · rw [List.getElem_append_left hlt]; exact T.own h4 (fun k hk => own_ne2 h4 h1 (by decide) hk)
  · have hil : i = rows.length := by rw [List.length_append] at hi; simp at hi; omega
    subst hil
    refine ⟨ad, cap, ?_, ?_⟩
    · rw [List.getElem?_append_right (by omega), List.getElem_append_right (Nat.le_refl _), hlc]; simp
    · rw [List.getElem_append_right (Nat.le_refl _)]
      simp only [Nat.sub_self, List.getElem_cons_zero]
      exact T.own hy (fun k hk => own_ne2 hy h1 (by decide) hk)
theorem own_low {W : World} {B B' : Nat} {e : TypeId} {s n : Nat} {v : Value} {xs : List Value} (h : W.ownsRow B e s v n xs) (hB : B' ≤ B) : W.ownsRow B' e s v n xs := by
  refine ⟨h.1, ?_⟩
  rcases h.2 with hh | ⟨g, c, cur, q1, q2, q3⟩
  · exact .inl hh
  · exact .inr ⟨g, c, cur, q1, Nat.le_trans hB q2, q3⟩
theorem RowsAt.base {W : World} {B B' : Nat} {v : Value} {rows : List (List Int)} (h : RowsAt W B v rows) (hB : B' ≤ B) : RowsAt W B' v rows := by
  obtain ⟨cs, h1, h2⟩ := h.cells
  refine ⟨cs, own_low h1 hB, fun i hi => ?_⟩
  obtain ⟨ad, cap, h3, h4⟩ := h2 i hi
  exact ⟨ad, cap, h3, own_low h4 hB⟩
/-- the log, as it lies in the world -/
structure LO (W : World) (p : Nat) (ad : Option Addr) (cap : Nat) (b : List Int) (sure : Int) : Prop where
  blk : W.heap[p]? = some (.cells #[.slice ad b.length cap, .int .i64 sure] 40 (0, 0))
  own : W.ownsRow 0 5 1 (.slice ad b.length cap) b.length (bv b)
  bytes : Bytes b
theorem LO.keep {F : Nat → Prop} {W W' : World} {p : Nat} {ad : Option Addr} {cap : Nat} {b : List Int} {sure : Int} (h : LO W p ad cap b sure) (T : Turns F W W') (hp : ¬ F p) (ho : ∀ k, (Value.slice ad b.length cap).ownBlock = some k → ¬ F k) : LO W' p ad cap b sure :=
  ⟨T.keep h.blk hp, T.own h.own ho, h.bytes⟩
theorem own_cap {w : World} {B : Nat} {e : TypeId} {size n cap : Nat} {ad : Option Addr} {xs : List Value} (h : w.ownsRow B e size (.slice ad n cap) n xs) : n ≤ cap := by
  rcases h.2 with ⟨h2, h3⟩ | ⟨g, c, cur, h2, _, _, hc, _⟩
  · omega
  · injection h2 with _ _ h5
    omega
end Go.Proofs.Ytddchhoplomjgaa

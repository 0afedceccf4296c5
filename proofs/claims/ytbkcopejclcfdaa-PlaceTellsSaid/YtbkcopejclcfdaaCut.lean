/- A piece of a slice, in one form whether or not it begins at the capacity. No walk here. -/
import Derived.Test.YtbkcopejclcfdaaSrc
import Derived.Laws.Slices
namespace Go.Proofs.Ytbkcopejclcfdaa
open Go.RowKit
/-- where a piece begins -/
def cutAt (ad : Option Addr) (cap l s : Nat) : Option Addr := if cap = l then ad else ad.map (·.add (l * s))
section
variable {P : Program}
theorem elem_of {t e : TypeId} (ht : P.underlying t = some (.slice e)) : P.underlying t = some (.slice (P.elem t)) ∧ P.elem t = e := by
  have h : P.elem t = e := by simp [Program.elem, ht]
  exact ⟨by rw [h]; exact ht, h⟩
theorem run_sizeOf {e : TypeId} {s : Nat} (hi : (P.info? e).map (·.size) = some s) (w : World) : (sizeOf e).run P w = .ok s w := by
  cases h : P.info? e with
  | none => rw [h] at hi; cases hi
  | some i =>
    rw [h] at hi
    injection hi with hi
    simp only at hi
    simp [sizeOf, typeInfo, h, hi]
variable {ops : Array Oper} {rest : List Oper} {o : Oper} {a : Act} {w : World} {Q : Exit → Act → World → Prop}
theorem wpList_cut_lo (hgd : o.guard = none) (t e : TypeId) (x lo : Operand) (ho : o.op = .slice t x (some lo) none none) (s : Nat) (ht : P.underlying t = some (.slice e)) (hi : (P.info? e).map (·.size) = some s)
    (ad : Option Addr) (len cap l : Nat) (hx : a.eval x = .slice ad len cap) (hl : a.eval lo = .int .i64 l) (h0 : l ≤ len)
    (h : wpList P ops Q rest (a.put o.dst (.slice (cutAt ad cap l s) (len - l) (cap - l))) w) : wpList P ops Q (o :: rest) a w := by
  obtain ⟨h1, h2⟩ := elem_of ht
  have hr := run_slice_l (P := P) w t ad len cap h1 .i64 (l : Int) (by omega) (by omega)
  rw [h2, run_sizeOf hi w] at hr
  refine wpList_plain hgd fun K hK => ?_
  unfold Oper.wp execOp
  simp only [ho, hx, hl, Option.map_some, Option.map_none, run_sliceAt_slice w t _ _ _ _ h1, Sem.run_bind, hr, Result.andThen_ok, Sem.run_pure]
  simp only [Int.toNat_natCast]
  exact hK _ _ h
theorem wpList_cut_hi (hgd : o.guard = none) (t e : TypeId) (x hi_ : Operand) (ho : o.op = .slice t x none (some hi_) none) (s : Nat) (ht : P.underlying t = some (.slice e)) (hi : (P.info? e).map (·.size) = some s)
    (ad : Option Addr) (len cap r : Nat) (hx : a.eval x = .slice ad len cap) (hl : a.eval hi_ = .int .i64 r) (h0 : r ≤ cap)
    (h : wpList P ops Q rest (a.put o.dst (.slice ad r cap)) w) : wpList P ops Q (o :: rest) a w := by
  obtain ⟨h1, h2⟩ := elem_of ht
  have hr := run_slice_h (P := P) w t ad len cap h1 .i64 (r : Int) (by omega) (by omega)
  rw [h2, run_sizeOf hi w] at hr
  refine wpList_plain hgd fun K hK => ?_
  unfold Oper.wp execOp
  simp only [ho, hx, hl, Option.map_some, Option.map_none, run_sliceAt_slice w t _ _ _ _ h1, Sem.run_bind, hr, Result.andThen_ok, Sem.run_pure]
  have e : sliced ad 0 r cap s = .slice ad r cap := by
    unfold sliced
    by_cases hc : cap = 0
    · simp [hc]
    · simp only [hc, if_false, Nat.zero_mul, Nat.sub_zero]
      cases ad with
      | none => rfl
      | some q => simp [Addr.add]
  simp only [Int.toNat_natCast, e]
  exact hK _ _ h
theorem wpList_cut_both (hgd : o.guard = none) (t e : TypeId) (x lo hi_ : Operand) (ho : o.op = .slice t x (some lo) (some hi_) none) (s : Nat) (ht : P.underlying t = some (.slice e)) (hi : (P.info? e).map (·.size) = some s)
    (ad : Option Addr) (len cap l r : Nat) (hx : a.eval x = .slice ad len cap) (hl : a.eval lo = .int .i64 l) (hh : a.eval hi_ = .int .i64 r) (h0 : l ≤ r) (h3 : r ≤ cap)
    (h : wpList P ops Q rest (a.put o.dst (.slice (cutAt ad cap l s) (r - l) (cap - l))) w) : wpList P ops Q (o :: rest) a w := by
  obtain ⟨h1, h2⟩ := elem_of ht
  have hr := run_slice_lh (P := P) w t ad len cap h1 .i64 .i64 (l : Int) (r : Int) (by omega) (by omega) (by omega)
  rw [h2, run_sizeOf hi w] at hr
  refine wpList_plain hgd fun K hK => ?_
  unfold Oper.wp execOp
  simp only [ho, hx, hl, hh, Option.map_some, Option.map_none, run_sliceAt_slice w t _ _ _ _ h1, Sem.run_bind, hr, Result.andThen_ok, Sem.run_pure]
  simp only [Int.toNat_natCast]
  exact hK _ _ h
end
theorem Reads.cut {W : World} {ad : Option Addr} {xs : List Value} (h : Reads W ad xs) (cap l s : Nat) (hc : cap = l → xs.length ≤ l * s) : Reads W (cutAt ad cap l s) (xs.drop (l * s)) := fun j u hj => by
  unfold cutAt
  by_cases hcl : cap = l
  · rw [List.drop_of_length_le (hc hcl)] at hj
    simp at hj
  · rw [if_neg hcl]
    rw [List.getElem?_drop] at hj
    obtain ⟨b, off, h1, h2, h3⟩ := h (l * s + j) u hj
    subst h1
    refine ⟨b, off + l * s, ?_, h2, by rw [Nat.add_assoc]; exact h3⟩
    simp only [Option.map_some, Addr.add_lit]
theorem Reads.take {W : World} {ad : Option Addr} {xs : List Value} (h : Reads W ad xs) (n : Nat) : Reads W ad (xs.take n) := fun j u hj => by
  rw [List.getElem?_take] at hj
  split at hj
  · exact h j u hj
  · cases hj
end Go.Proofs.Ytbkcopejclcfdaa

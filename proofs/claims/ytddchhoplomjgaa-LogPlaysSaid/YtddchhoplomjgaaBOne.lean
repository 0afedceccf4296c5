/- A slice of one struct, and a store of a whole struct: laws of the model. No walk here. -/
import Derived.Test.YtddchhoplomjgaaBRow
import Derived.Deep.MidRow
import Derived.Laws.Tables
namespace Go.Proofs.Ytddchhoplomjgaa
open Go.RowKit
set_option linter.unusedVariables false
theorem fold_fill : ∀ (l : List Value) (k : Nat) (cs : Array Value), k + l.length ≤ cs.size → ((l.zipIdx k).foldl (fun cs (p : Value × Nat) => cs.setIfInBounds (0 + p.2) p.1) cs).toList = cs.toList.take k ++ l ++ cs.toList.drop (k + l.length)
  | [], k, cs, _ => by simp
  | x :: l, k, cs, h => by
    rw [List.zipIdx_cons, List.foldl_cons, fold_fill l (k + 1) _ (by simpa using (by simp at h; omega))]
    simp only [Nat.zero_add, Array.toList_setIfInBounds]
    simp only [List.length_cons] at h
    have hk : k < cs.toList.length := by simp; omega
    rw [List.take_succ_eq_append_getElem (by simpa using hk), List.drop_set_of_lt (by omega)]
    simp only [List.getElem_set_self, List.take_set_of_le (Nat.le_refl k), List.append_assoc, List.singleton_append, List.length_cons]
    rw [show k + 1 + l.length = k + (l.length + 1) by omega]
theorem fold_all (arr cs : Array Value) (h : arr.size = cs.size) : arr.zipIdx.foldl (fun cs (c, j) => cs.setIfInBounds (0 + j) c) cs = arr := by
  rw [← Array.foldl_toList, Array.toList_zipIdx]
  apply Array.toList_inj.1
  have := fold_fill arr.toList 0 cs (by simp; omega)
  rw [this]
  simp
  omega
section
variable {P : Program} (w : World)
theorem run_buildOne (t e : TypeId) (s : Nat) (z : Value) (arr : Array Value) (ht : P.underlying t = some (.slice e)) (hi : (P.info? e).map (·.size) = some s) (hv : (zeroValue e).run P w = .ok z w) (hs : arr.size = s) (h0 : 0 < s) (h1 : s ≤ 1000) :
    (Instr.buildSlice t 1 #[(0, .agg arr)]).run P w = .ok (.slice (some ⟨w.heap.size, 0, none⟩) 1 1) (w.alloc (.cells arr e)) := by
  have hsz := run_sizeOf (P := P) hi w
  have hf : Instr.fill (fun i => some (i * s, s)) ((Array.range (1 * s)).map (z.cells[· % z.cells.size]!)) [(0, .agg arr)] = some arr := by
    unfold Instr.fill
    simp only [Nat.zero_mul, Value.cells, Nat.one_mul]
    rw [if_neg (by simp [hs])]
    rw [fold_all arr _ (by simp [hs])]
    rfl
  simp only [Instr.buildSlice, Sem.run_bind, run_underlying ht, Result.andThen_ok, hsz]
  rw [if_neg (by omega)]
  rw [if_neg (by omega)]
  simp only [Sem.run_bind, hv, Sem.run_pure, Result.andThen_ok]
  rw [hf]
  simp [newRow]
theorem exec_buildOne {o : Oper} {a : Act} (t : TypeId) (x : Operand) (ho : o.op = .buildSlice t 1 #[(0, x)]) (e : TypeId) (s : Nat) (z : Value) (arr : Array Value) (hx : a.eval x = .agg arr) (ht : P.underlying t = some (.slice e)) (hi : (P.info? e).map (·.size) = some s) (hv : (zeroValue e).run P w = .ok z w) (hs : arr.size = s) (h0 : 0 < s) (h1 : s ≤ 1000) :
    (execOp a.eval o).run P w = .ok (.value (.slice (some ⟨w.heap.size, 0, none⟩) 1 1)) (w.alloc (.cells arr e)) := by
  unfold execOp
  simp only [ho, Sem.run_bind, Sem.run_pure, List.map_toArray, List.map_cons, List.map_nil, hx, run_buildOne w t e s z arr ht hi hv hs h0 h1, Result.andThen_ok]
/-- a store of a whole struct into a block of just its cells -/
theorem wpList_store_row {ops : Array Oper} {rest : List Oper} {o : Oper} {a : Act} {Q : Exit → Act → World → Prop} (hgd : o.guard = none) (ty : TypeId) (x y : Operand) (ho : o.op = .store ty x y)
    (g : Nat) (hx : a.eval x = .pointer (some ⟨g, 0, none⟩)) (cs : Array Value) (hy : a.eval y = .agg cs) (t : TypeId) (old : Array Value) (hg : w.heap[g]? = some (.cells old t (0, 0)))
    (hi : (P.info? ty).map (·.size) = some cs.size) (hz : old.size = cs.size) (h1 : cs.all (·.oneCell') = true)
    (h : wpList P ops Q rest (a.put o.dst undef) (w.setRow g cs)) : wpList P ops Q (o :: rest) a w := by
  refine wpList_plain hgd fun K hK => ?_
  unfold Oper.wp execOp
  simp only [ho, hx, hy, Instr.storeAt, Instr.sureAddr, Sem.run_bind, Sem.run_pure, Result.andThen_ok, run_storeVar_row w g t ty old cs hg hi hz h1]
  exact hK _ _ h
end
theorem Turns.setRow {F : Nat → Prop} {a b : World} (h : Turns F a b) {g : Nat} (hg : a.heap.size ≤ g ∨ F g) (cs : Array Value) : Turns F a (b.setRow g cs) :=
  ⟨h.os, h.tape, h.output, by simpa [World.setRow] using h.size, fun k hk hF => (setRow_other b g k cs (fun e => by subst e; rcases hg with hg | hg; omega; exact hF hg)).trans (h.block k hk hF)⟩
end Go.Proofs.Ytddchhoplomjgaa

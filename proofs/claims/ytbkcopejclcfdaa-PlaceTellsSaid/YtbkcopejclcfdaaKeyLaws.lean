/- Laws of the model for values of the type [20]byte: no walk here. -/
import Derived.Test.YtbkcopejclcfdaaChecked
import Derived.WalkKit
import Derived.KernelRfl
import Derived.ChangeKeysEq
import Derived.Laws.Rows
import Derived.Laws.StructEq
import Derived.Laws.CopyOwn
namespace Go.Proofs.Ytbkcopejclcfdaa
open Go.RowKit

/-- a row of bytes as cells -/
def kv (a : List Int) : Array Value := (a.map (Value.int .u8)).toArray
theorem kv_size (a : List Int) : (kv a).size = a.length := by simp [kv]
theorem kv_get (a : List Int) (i : Nat) : (kv a)[i]? = (a[i]?).map (Value.int .u8) := by simp [kv]
theorem kv_set (a : List Int) (i : Nat) (x : Int) : (kv a).setIfInBounds i (.int .u8 x) = kv (a.set i x) := by
  simp [kv]

theorem eqItems_bytes (w : World) (d : Nat) (a b : List Int) (hab : a.length = b.length) : ∀ (n i : Nat), a.length = i + n →
    (Op.eqItems (d + 1) 5 (Try.prog.cellsOf 5) (kv a) (kv b) (List.range' i n)).run Try.prog w = .ok (decide (a.drop i = b.drop i)) w := by
  have hc : Try.prog.cellsOf 5 = 1 := by kernel_rfl
  intro n
  induction n with
  | zero =>
    intro i hi
    rw [List.drop_of_length_le (by omega), List.drop_of_length_le (by omega)]
    simp [Op.eqItems]
  | succ n ih =>
    intro i hi
    have h1 : i < a.length := by omega
    have h2 : i < b.length := by omega
    have pa := run_part_plain (P := Try.prog) w (e := 5) (by kernel_rfl) (xs := kv a) (off := i * Try.prog.cellsOf 5) (v := .int .u8 a[i]) (by rw [hc, Nat.mul_one, kv_get, List.getElem?_eq_getElem h1]; rfl)
    have pb := run_part_plain (P := Try.prog) w (e := 5) (by kernel_rfl) (xs := kv b) (off := i * Try.prog.cellsOf 5) (v := .int .u8 b[i]) (by rw [hc, Nat.mul_one, kv_get, List.getElem?_eq_getElem h2]; rfl)
    have pe := run_equalIn_int (P := Try.prog) w d 5 .u8 .u8 a[i] b[i] Try.underlying5
    rw [List.range'_succ]
    simp only [Op.eqItems, Sem.run_bind, pa, pb, pe, Result.andThen_ok]
    rw [List.drop_eq_getElem_cons h1, List.drop_eq_getElem_cons h2]
    by_cases he : a[i] = b[i]
    · rw [beq_iff_eq.2 he]
      simp only [Bool.not_true, Bool.false_eq_true, if_false]
      rw [ih (i + 1) (by omega)]
      refine congrArg (fun q => Result.ok q w) (decide_eq_decide.2 ⟨fun h => by rw [he, h], fun h => (List.cons.inj h).2⟩)
    · rw [beq_eq_false_iff_ne.2 he, decide_eq_false (fun h => he (List.cons.inj h).1)]
      rfl
theorem run_equalIn_key (w : World) (d : Nat) (a b : List Int) (ha : a.length = 20) (hb : b.length = 20) : (Op.equalIn (d + 2) 23 (.agg (kv a)) (.agg (kv b))).run Try.prog w = .ok (decide (a = b)) w := by
  obtain ⟨i, hi⟩ : ∃ i, Try.prog.info? 5 = some i := by
    cases h : Try.prog.info? 5 with
    | none =>
      have hh : (Try.prog.info? 5).isSome = true := by kernel_rfl
      rw [h] at hh
      cases hh
    | some i => exact ⟨i, rfl⟩
  rw [run_equalIn_array (P := Try.prog) w (d + 1) (kv a) (kv b) Try.underlying23 hi, List.range_eq_range', eqItems_bytes w d a b (by omega) 20 0 (by omega)]
  simp
theorem run_eql_key (w : World) (a b : List Int) (ha : a.length = 20) (hb : b.length = 20) : (binOp .eql 23 (.agg (kv a)) (.agg (kv b))).run Try.prog w = .ok (.bool (decide (a = b))) w := by
  rw [run_eql_struct, run_equalIn_key w 9998 a b ha hb]
  rfl
theorem run_neq_key (w : World) (a b : List Int) (ha : a.length = 20) (hb : b.length = 20) : (binOp .neq 23 (.agg (kv a)) (.agg (kv b))).run Try.prog w = .ok (.bool (!decide (a = b))) w := by
  rw [run_neq_struct, run_equalIn_key w 9998 a b ha hb]
  rfl
theorem kv_one (a : List Int) : (kv a).all (·.oneCell') = true := by
  rw [Array.all_eq_true_iff_forall_mem]
  intro v hv
  simp only [kv, List.mem_toArray, List.mem_map] at hv
  obtain ⟨x, _, rfl⟩ := hv
  rfl
theorem info23 : (Try.prog.info? 23).map (·.size) = some 20 := by kernel_rfl
theorem wpList_store_row {P : Program} {ops : Array Oper} {rest : List Oper} {o : Oper} {a : Act} {w : World} {Q : Exit → Act → World → Prop} (hgd : o.guard = none) (ty : TypeId) (x y : Operand) (ho : o.op = .store ty x y)
    (g : Nat) (hx : a.eval x = .pointer (some ⟨g, 0, none⟩)) (cs : Array Value) (hy : a.eval y = .agg cs) (t : TypeId) (old : Array Value) (hg : w.heap[g]? = some (.cells old t (0, 0)))
    (hi : (P.info? ty).map (·.size) = some cs.size) (hz : old.size = cs.size) (h1 : cs.all (·.oneCell') = true)
    (h : wpList P ops Q rest (a.put o.dst undef) (w.setRow g cs)) : wpList P ops Q (o :: rest) a w := by
  refine wpList_plain hgd fun K hK => ?_
  unfold Oper.wp execOp
  simp only [ho, hx, hy, Instr.storeAt, Instr.sureAddr, Sem.run_bind, Sem.run_pure, Result.andThen_ok, run_storeVar_row w g t ty old cs hg hi hz h1]
  exact hK _ _ h
end Go.Proofs.Ytbkcopejclcfdaa

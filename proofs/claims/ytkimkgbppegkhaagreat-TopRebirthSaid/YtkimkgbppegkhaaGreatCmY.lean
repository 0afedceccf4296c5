/- The clean machine, walked by hand: operations, one by one. No program is walked here. -/
import Derived.Test.YtkimkgbppegkhaaGreatCmW
namespace Go.Proofs.YtkimkgbppegkhaaGreat.Cm
open Go Go.RowKit
abbrev vi (n : Nat) : V := vf (.int .i64 (n : Int))
abbrev vb (n : Nat) : V := vf (.int .u8 (n : Int))
abbrev vw (n : Nat) : V := vf (.int .u32 (n : Int))
section
variable {P : Program} {H : Heap} {n : Nat} {o : Oper} {r : Operand → Option V}
noncomputable def binK (o : Oper) (r : Operand → Option V) : Option (BinOp × V × V) := match o.op with
  | .binOp op _ x y _ => match r x, r y with
    | some a, some b => some (op, a, b)
    | _, _ => none
  | _ => none
theorem jBin {op : BinOp} {a b : V} {z : F} (h : ∀ t, binA P op t a b = some z) (hk : binK o r = some (op, a, b)) : OpJ P o r H n (vf z) H n := by
  unfold binK at hk
  split at hk
  · rename_i op' t' x y t'' ho
    split at hk
    · rename_i a' b' hx hy
      cases hk
      exact .prim (vf z, [], 0) (by simp only [ho, stepOp, hx, hy, h, Option.map_some])
    · cases hk
  · cases hk
noncomputable def callK (o : Oper) (r : Operand → Option V) : Option (Nat × List V) := match o.op with
  | .call { callee := .value f, args := xs, .. } => match r f, valsA r xs.toList with
    | some (.u (.fn g caps)), some l => some (g, l ++ caps.map fun x => .u (.f x))
    | _, _ => none
  | _ => none
theorem jCall {g : Nat} {args : List V} {v : V} {H' : Heap} {n' : Nat} (hg : fnOk P g = true) (hc : CallsC P g args H n v H' n') (hk : callK o r = some (g, args)) : OpJ P o r H n v H' n' := by
  unfold callK at hk
  split at hk
  · rename_i f xs ats ho
    split at hk
    · rename_i g' caps l hf hl
      cases hk
      exact .call f xs ats g caps l v H' n' ho hf hl hg hc
    · cases hk
  · cases hk
noncomputable def convK (P : Program) (o : Oper) (r : Operand → Option V) : Option (IntKind × Int) := match o.op with
  | .convert s d x => match P.underlying s, P.underlying d, r x with
    | some _, some (.int k), some (.u (.f (.int _ n))) => some (k, n)
    | _, _, _ => none
  | _ => none
theorem jConv {k : IntKind} {x z : Int} (h : k.wrap x = z) (hk : convK P o r = some (k, x)) : OpJ P o r H n (vf (.int k z)) H n := by
  unfold convK at hk
  split at hk
  · rename_i s d y ho
    split at hk
    · rename_i h1 h2 h3
      cases hk
      exact .prim (vf (.int k z), [], 0) (by simp only [ho, stepOp, h1, h2, h3, h])
    · cases hk
  · cases hk
section
theorem wrap_id {k : IntKind} {x : Int} (h0 : 0 ≤ x) (h : x ≤ kTop k) : k.wrap x = x := by
  rw [← wrapI_eq]
  cases x with
  | negSucc n => omega
  | ofNat n =>
    show @Bool.rec (fun _ => Int) (k.wrap (.ofNat n)) (.ofNat n) (Nat.ble n (kTop k)) = _
    have : Nat.ble n (kTop k) = true := by rw [Nat.ble_eq]; simpa using h
    rw [this]
theorem b_add (k : IntKind) (x y z : Int) (h : k.wrap (x + y) = z) (t : TypeId) : binA P .add t (vf (.int k x)) (vf (.int k y)) = some (.int k z) := by
  simp only [binA, (kEq_iff k k).2 rfl, intA, wrapI_eq, addI_eq, h]
theorem b_sub (k : IntKind) (x y z : Int) (h : k.wrap (x - y) = z) (t : TypeId) : binA P .sub t (vf (.int k x)) (vf (.int k y)) = some (.int k z) := by
  simp only [binA, (kEq_iff k k).2 rfl, intA, wrapI_eq, subI_eq, h]
theorem b_mul (k : IntKind) (x y z : Int) (h : k.wrap (x * y) = z) (t : TypeId) : binA P .mul t (vf (.int k x)) (vf (.int k y)) = some (.int k z) := by
  simp only [binA, (kEq_iff k k).2 rfl, intA, wrapI_eq, mulI_eq, h]
theorem b_quo (k : IntKind) (x y z : Int) (h0 : y ≠ 0) (h : k.wrap (x.tdiv y) = z) (t : TypeId) : binA P .quo t (vf (.int k x)) (vf (.int k y)) = some (.int k z) := by
  have : eqI y 0 = false := by rw [eqI_eq]; simpa using h0
  simp only [binA, (kEq_iff k k).2 rfl, intA, this, wrapI_eq, quoI_eq, h]
theorem b_rem (k : IntKind) (x y : Int) (h0 : y ≠ 0) (t : TypeId) : binA P .rem t (vf (.int k x)) (vf (.int k y)) = some (.int k (x.tmod y)) := by
  have : eqI y 0 = false := by rw [eqI_eq]; simpa using h0
  simp only [binA, (kEq_iff k k).2 rfl, intA, this, remI_eq]
theorem b_lss (k : IntKind) (x y : Int) (t : TypeId) : binA P .lss t (vf (.int k x)) (vf (.int k y)) = some (.bool (decide (x < y))) := by
  simp only [binA, (kEq_iff k k).2 rfl, intA, ltI_eq]
theorem b_gtr (k : IntKind) (x y : Int) (t : TypeId) : binA P .gtr t (vf (.int k x)) (vf (.int k y)) = some (.bool (decide (y < x))) := by
  simp only [binA, (kEq_iff k k).2 rfl, intA, ltI_eq]
theorem b_leq (k : IntKind) (x y : Int) (t : TypeId) : binA P .leq t (vf (.int k x)) (vf (.int k y)) = some (.bool (decide (x ≤ y))) := by
  simp only [binA, (kEq_iff k k).2 rfl, intA, ltI_eq]
  congr 2
  rw [Bool.eq_iff_iff]; simp
theorem b_geq (k : IntKind) (x y : Int) (t : TypeId) : binA P .geq t (vf (.int k x)) (vf (.int k y)) = some (.bool (decide (y ≤ x))) := by
  simp only [binA, (kEq_iff k k).2 rfl, intA, ltI_eq]
  congr 2
  rw [Bool.eq_iff_iff]; simp
theorem b_eql (k : IntKind) (x y : Int) (t : TypeId) : binA P .eql t (vf (.int k x)) (vf (.int k y)) = some (.bool (decide (x = y))) := by
  simp only [binA, (kEq_iff k k).2 rfl, intA, eqI_eq]
  congr 2
theorem b_neq (k : IntKind) (x y : Int) (t : TypeId) : binA P .neq t (vf (.int k x)) (vf (.int k y)) = some (.bool (decide (x ≠ y))) := by
  simp only [binA, (kEq_iff k k).2 rfl, intA, eqI_eq]
  congr 2
  rw [Bool.eq_iff_iff]; simp
theorem b_bits {k : IntKind} {op : BinOp} {x y z : Int} (hop : op = .and ∨ op = .or ∨ op = .xor ∨ op = .andNot) (h : bitsA op k x y = some z) (t : TypeId) : binA P op t (vf (.int k x)) (vf (.int k y)) = some (.int k z) := by
  rcases hop with rfl | rfl | rfl | rfl <;> simp only [binA, (kEq_iff k k).2 rfl, intA, h]
theorem b_and (k : IntKind) (a b : Nat) (ha : a ≤ kTop k) (hb : b ≤ kTop k) (t : TypeId) : binA P .and t (vf (.int k a)) (vf (.int k b)) = some (.int k ((a &&& b : Nat) : Int)) := by
  refine b_bits (.inl rfl) ?_ t
  show (match Nat.ble a (kTop k), Nat.ble b (kTop k) with | true, true => bitsN .and k a b | _, _ => bitsZ .and k a b) = _
  rw [Nat.ble_eq_true_of_le ha, Nat.ble_eq_true_of_le hb]
  rfl
theorem b_xor (k : IntKind) (a b : Nat) (ha : a ≤ kTop k) (hb : b ≤ kTop k) (hz : a ^^^ b ≤ kTop k) (t : TypeId) : binA P .xor t (vf (.int k a)) (vf (.int k b)) = some (.int k ((a ^^^ b : Nat) : Int)) := by
  refine b_bits (.inr (.inr (.inl rfl))) ?_ t
  show (match Nat.ble a (kTop k), Nat.ble b (kTop k) with | true, true => bitsN .xor k a b | _, _ => bitsZ .xor k a b) = _
  rw [Nat.ble_eq_true_of_le ha, Nat.ble_eq_true_of_le hb]
  show some (wrapI k ((a ^^^ b : Nat) : Int)) = _
  rw [wrapI_eq, wrap_id (by omega) (by omega)]
theorem b_shl (k j : IntKind) (a s z : Nat) (h : k.wrap ((a * 2 ^ (min s k.bits) : Nat) : Int) = (z : Int)) (t : TypeId) : binA P .shl t (vf (.int k a)) (vf (.int j s)) = some (.int k (z : Int)) := by
  show shiftA .shl k a s = _
  show some (F.int k (wrapI k (mulI (a : Int) (.ofNat (Nat.pow 2 (min s k.bits)))))) = _
  rw [wrapI_eq, mulI_eq]
  congr 2
theorem b_shr (k j : IntKind) (a s : Nat) (t : TypeId) : binA P .shr t (vf (.int k a)) (vf (.int j s)) = some (.int k ((a / 2 ^ (min s k.bits) : Nat) : Int)) := rfl
end
end
end Go.Proofs.YtkimkgbppegkhaaGreat.Cm
/- The clean machine, walked by hand: operations on the heap, one by one. No program is walked here. -/
namespace Go.Proofs.YtkimkgbppegkhaaGreat.Cm
open Go Go.RowKit
section
variable {P : Program} {H : Heap} {n : Nat} {o : Oper} {r : Operand → Option V}
noncomputable def guardK {α : Type} (b : Bool) (x : Option α) : Option α := match b with | true => x | false => none
theorem guardK_some {α : Type} {b : Bool} {x : Option α} {y : α} (h : guardK b x = some y) : b = true ∧ x = some y := by cases b <;> simp_all [guardK]
noncomputable def idxK (P : Program) (o : Oper) (r : Operand → Option V) : Option (Nat × Nat × Nat × Nat × Nat) := match o.op with
  | .indexAddr t x i => match r x, r i with
    | some (.u (.f (.sl id off sz len _))), some iv => match natOf iv, P.underlying t with
      | some k, some (.slice e) => match sizeT P e with
        | some sz' => guardK (Nat.beq sz' sz) (some (id, off, sz, len, k))
        | none => none
      | _, _ => none
    | _, _ => none
  | _ => none
theorem jIdx {id off sz len k : Nat} (hi : k < len) (hk : idxK P o r = some (id, off, sz, len, k)) : OpJ P o r H n (vf (.ptr id (off + k * sz))) H n := by
  unfold idxK at hk
  split at hk
  · rename_i t x i ho
    split at hk
    · rename_i id' off' sz' len' cap iv hx hiv
      split at hk
      · rename_i k' e h1 h2
        split at hk
        · rename_i s hs
          obtain ⟨g1, g2⟩ := guardK_some hk
          have g1 := Nat.eq_of_beq_eq_true g1
          subst g1
          cases g2
          exact .prim (vf (.ptr id (off + k * sz)), [], 0) (by simp only [ho, stepOp, hx, hiv, h1, h2, hs, hi, and_self, if_true])
        · cases hk
      · cases hk
    · cases hk
  · cases hk
noncomputable def idxAK (P : Program) (o : Oper) (r : Operand → Option V) : Option (Nat × Nat × Nat × Nat × Nat) := match o.op with
  | .indexAddr t x i => match r x, r i with
    | some (.u (.f (.ptr id off))), some iv => match natOf iv, P.underlying t with
      | some k, some (.array len e) => match sizeT P e with
        | some sz => some (id, off, sz, len, k)
        | none => none
      | _, _ => none
    | _, _ => none
  | _ => none
theorem jIdxA {id off sz len k : Nat} (hi : k < len) (hk : idxAK P o r = some (id, off, sz, len, k)) : OpJ P o r H n (vf (.ptr id (off + k * sz))) H n := by
  unfold idxAK at hk
  split at hk
  · rename_i t x i ho
    split at hk
    · rename_i id' off' iv hx hiv
      split at hk
      · rename_i k' e h1 h2 h3
        split at hk
        · rename_i s hs
          cases hk
          exact .prim (vf (.ptr id (off + k * sz)), [], 0) (by simp only [ho, stepOp, hx, hiv, h2, h3, hs, hi, if_true])
        · cases hk
      · cases hk
    · cases hk
  · cases hk
/-- a load: which cells, and how many of them if it is of an aggregate -/
noncomputable def ldK (P : Program) (o : Oper) (r : Operand → Option V) : Option (Nat × Nat) := match o.op with
  | .load t a => match r a with
    | some (.u (.f (.ptr id off))) => match aggB P t, sizeT P t with
      | some false, some _ => some (id, off)
      | _, _ => none
    | _ => none
  | _ => none
theorem jLoad {id off : Nat} {cs : List F} {ex : Bool} {x : F} (hh : H id = some (.cells cs ex)) (hx : cs[off]? = some x) (hk : ldK P o r = some (id, off)) : OpJ P o r H n (vf x) H n := by
  unfold ldK at hk
  split at hk
  · rename_i t a ho
    split at hk
    · rename_i id' off' ha
      split at hk
      · rename_i s h1 h2
        cases hk
        exact .prim (vf x, [], 0) (by simp only [ho, stepOp, ha, hh, h1, h2, hx])
      · cases hk
    · cases hk
  · cases hk
noncomputable def ldAK (P : Program) (o : Oper) (r : Operand → Option V) : Option (Nat × Nat × Nat) := match o.op with
  | .load t a => match r a with
    | some (.u (.f (.ptr id off))) => match aggB P t, sizeT P t with
      | some true, some sz => some (id, off, sz)
      | _, _ => none
    | _ => none
  | _ => none
theorem jLoadA {id off sz : Nat} {cs : List F} {ex : Bool} (hh : H id = some (.cells cs ex)) (hx : off + sz ≤ cs.length) (hk : ldAK P o r = some (id, off, sz)) : OpJ P o r H n (.u (.agg ((cs.drop off).take sz))) H n := by
  unfold ldAK at hk
  split at hk
  · rename_i t a ho
    split at hk
    · rename_i id' off' ha
      split at hk
      · rename_i s h1 h2
        cases hk
        exact .prim (.u (.agg ((cs.drop off).take sz)), [], 0) (by simp only [ho, stepOp, ha, hh, h1, h2, hx, if_true])
      · cases hk
    · cases hk
  · cases hk
noncomputable def lenK (P : Program) (o : Oper) (r : Operand → Option V) : Option Nat := match o.op with
  | .call { callee := .builtin .len, args := xs, argTypes := ats } => match valsA r xs.toList, ats[0]? with
    | some [.u (.f x)], some t => match P.underlying t with
      | some (.slice _) => lenA x
      | _ => none
    | _, _ => none
  | _ => none
theorem jLen {l : Nat} (hk : lenK P o r = some l) : OpJ P o r H n (vi l) H n := by
  unfold lenK at hk
  split at hk
  · rename_i xs ats ho
    split at hk
    · rename_i x t h1 h2
      split at hk
      · rename_i e h3
        exact .prim (vi l, [], 0) (by simp only [ho, stepOp, h1, builtinA, h2, lenB, h3, hk])
      · cases hk
    · cases hk
  · cases hk
noncomputable def stK (P : Program) (o : Oper) (r : Operand → Option V) : Option (Nat × Nat × List F) := match o.op with
  | .store t a x => match r a, r x with
    | some (.u (.f (.ptr id off))), some v => match cellsV v, sizeT P t with
      | some new, some sz => guardK (Nat.beq new.length sz) (some (id, off, new))
      | _, _ => none
    | _, _ => none
  | _ => none
theorem jStore {id off : Nat} {new cs : List F} {ex : Bool} (hh : H id = some (.cells cs ex)) (hle : off + new.length ≤ cs.length) (hk : stK P o r = some (id, off, new)) : OpJ P o r H n undefV (upd H id (some (.cells (splice cs off new) ex))) n := by
  unfold stK at hk
  split at hk
  · rename_i t a x ho
    split at hk
    · rename_i id' off' v ha hx
      split at hk
      · rename_i new' sz h1 h2
        obtain ⟨g1, g2⟩ := guardK_some hk
        have g1 := Nat.eq_of_beq_eq_true g1
        cases g2
        exact .prim (undefV, [(id, some (.cells (splice cs off new) ex))], 0) (by simp only [ho, stepOp, ha, hx, hh, h1, h2, g1, true_and]; rw [g1] at hle; rw [if_pos hle])
      · cases hk
    · cases hk
  · cases hk
noncomputable def mkK (P : Program) (o : Oper) (r : Operand → Option V) : Option (TI × Nat) := match o.op with
  | .makeSlice t l c => match sliceE P t, r l, r c with
    | some e, some vl, some vc => match tiOf P e, natOf vl, natOf vc with
      | some ti, some a, some b => guardK (match l, c with | .tmp i, .tmp j => Nat.beq i j | _, _ => Nat.beq a b) (guardK (Nat.ble 1 ti.size) (guardK (Nat.ble 1 ti.bytes) (guardK (Nat.beq ti.zero.length ti.size) (some (ti, a)))))
      | _, _, _ => none
    | _, _, _ => none
  | _ => none
theorem jMake {ti : TI} {a : Nat} (ha : a * ti.bytes ≤ 140737488355328) (hk : mkK P o r = some (ti, a)) : OpJ P o r H n (vf (.sl n 0 ti.size a none)) (upd H n (some (.cells (repeatL ti.zero a) true))) (n + 1) := by
  unfold mkK at hk
  split at hk
  · rename_i t l c ho
    split at hk
    · rename_i e vl vc h1 h2 h3
      split at hk
      · rename_i ti' a' b' h4 h5 h6
        obtain ⟨g1, hk⟩ := guardK_some hk
        obtain ⟨g2, hk⟩ := guardK_some hk
        obtain ⟨g3, hk⟩ := guardK_some hk
        obtain ⟨g4, hk⟩ := guardK_some hk
        cases hk
        have e : l = c → a = b' := by rintro rfl; rw [h2] at h3; cases h3; rw [h5] at h6; cases h6; rfl
        have e2 : a = b' := by
          split at g1
          · exact e (by rw [Nat.eq_of_beq_eq_true g1])
          · exact Nat.eq_of_beq_eq_true g1
        subst e2
        have g2 := Nat.le_of_ble_eq_true g2
        have g3 := Nat.le_of_ble_eq_true g3
        have g4 := Nat.eq_of_beq_eq_true g4
        exact .prim (vf (.sl n 0 ti.size a none), [(n, some (.cells (repeatL ti.zero a) true))], 1) (by simp only [ho, stepOp, h1, h2, h3, h4, h5, h6]; exact if_pos ⟨trivial, g2, g3, g4, ha⟩)
      · cases hk
    · cases hk
  · cases hk
/-- what makes memory, of all that is known -/
noncomputable def freshK (P : Program) (o : Oper) (r : Operand → Option V) (n : Nat) : Option (V × O) := match clsB P o.op with
  | 1 => match stepOp P o.op r (fun _ => none) n with
    | some (v, [(_, some ob)], _) => some (v, ob)
    | _ => none
  | _ => none
theorem jFresh {v : V} {ob : O} (hk : freshK P o r n = some (v, ob)) : OpJ P o r H n v (upd H n (some ob)) (n + 1) := by
  unfold freshK at hk
  split at hk
  · rename_i hc
    have hc : cls P o.op = .fresh := by
      unfold clsB at hc
      split at hc
      · cases hc
      · assumption
      · cases hc
    split at hk
    · rename_i v' k ob' j hs
      cases hk
      obtain ⟨ob2, h1, h2⟩ := fresh_form hc hs
      cases h1
      cases h2
      rw [fresh_dep hc (h' := H)] at hs
      exact .prim _ hs
    · cases hk
  · cases hk
noncomputable def apK (P : Program) (o : Oper) (r : Operand → Option V) : Option (Nat × Nat × F × F) := match o.op with
  | .call { callee := .builtin .append, args := xs, argTypes := ats } => match valsA r xs.toList, ats[0]?, ats[1]? with
    | some [.u (.f s), .u (.f x)], some t, some t' => match sliceE P t, P.underlying t' with
      | some e, some (.slice _) => match tiOf P e with
        | some ti => guardK (Nat.ble 1 ti.size) (guardK (Nat.ble 1 ti.bytes) (guardK (Nat.beq ti.zero.length ti.size) (some (ti.size, ti.bytes, s, x))))
        | none => none
      | _, _ => none
    | _, _, _ => none
  | _ => none
theorem jApp {sz bytes m : Nat} {s x : F} {new : List F} {ef : Ef} (hx : rowA H sz x = some new) (hm : lenA x = some m) (ha : appendA H n sz bytes s new m = some ef) (hk : apK P o r = some (sz, bytes, s, x)) : OpJ P o r H n ef.1 (app H ef.2.1) (n + ef.2.2) := by
  unfold apK at hk
  split at hk
  · rename_i xs ats ho
    split at hk
    · rename_i s' x' t t' h1 h2 h3
      split at hk
      · rename_i e e' h4 h5
        split at hk
        · rename_i ti h6
          obtain ⟨g2, hk⟩ := guardK_some hk
          obtain ⟨g3, hk⟩ := guardK_some hk
          obtain ⟨g4, hk⟩ := guardK_some hk
          cases hk
          have g2 := Nat.le_of_ble_eq_true g2
          have g3 := Nat.le_of_ble_eq_true g3
          have g4 := Nat.eq_of_beq_eq_true g4
          exact .prim ef (by simp only [ho, stepOp, h1, builtinA, h2, h3, appendB, h4, h6, srcA, h5, hx, hm]; rw [if_pos ⟨g2, g3, g4⟩]; exact ha)
        · cases hk
      · cases hk
    · cases hk
  · cases hk
end
end Go.Proofs.YtkimkgbppegkhaaGreat.Cm

/- The clean machine, reckoned: heaps and temporaries as trees, code run by a bound on rounds. No program is walked here. -/
import Derived.Test.YtkimkgbppegkhaaGreatCmQ
namespace Go.Proofs.YtkimkgbppegkhaaGreat.Cm
open Go Go.RowKit

inductive T (α : Type) where
  | leaf
  | node (l : T α) (v : Option α) (r : T α)
namespace T
variable {α : Type}
noncomputable def get (t : T α) : Nat → Option α :=
  @T.rec α (fun _ => Nat → Option α) (fun _ => none) (fun _ v _ gl gr n => @Bool.rec (fun _ => Option α) (@Bool.rec (fun _ => Option α) (gr (Nat.pred (Nat.div n 2))) (gl (Nat.div n 2)) (Nat.beq (Nat.land n 1) 1)) v (Nat.beq n 0)) t
/-- one path -/
noncomputable def sing : Nat → Nat → Option α → T α
  | 0, _, _ => .leaf
  | k + 1, n, x => match Nat.beq n 0 with
    | true => .node .leaf x .leaf
    | false => match Nat.beq (Nat.land n 1) 1 with
      | true => .node (sing k (Nat.div n 2) x) none .leaf
      | false => .node .leaf none (sing k (Nat.pred (Nat.div n 2)) x)
noncomputable def set (t : T α) : Nat → Option α → T α :=
  @T.rec α (fun _ => Nat → Option α → T α) (fun n x => sing 40 n x) (fun l v r sl sr n x => @Bool.rec (fun _ => T α) (@Bool.rec (fun _ => T α) (.node l v (sr (Nat.pred (Nat.div n 2)) x)) (.node (sl (Nat.div n 2) x) v r) (Nat.beq (Nat.land n 1) 1)) (.node l x r) (Nat.beq n 0)) t
theorem bool_rec {β : Type} (c : Bool) (x y : β) : @Bool.rec (fun _ => β) x y c = if c = true then y else x := by cases c <;> rfl
theorem get_leaf (n : Nat) : (T.leaf : T α).get n = none := rfl
theorem beq0 (n : Nat) : Nat.beq n 0 = decide (n = 0) := by
  rw [Bool.eq_iff_iff]; simp
theorem odd_iff (n : Nat) : Nat.beq (Nat.land n 1) 1 = decide (n % 2 = 1) := by
  have : Nat.land n 1 = n % 2 := by
    show n &&& 1 = _
    exact Nat.and_one_is_mod n
  rw [this, Bool.eq_iff_iff]; simp
theorem get_node (l : T α) (v : Option α) (r : T α) (n : Nat) : (T.node l v r).get n = if n = 0 then v else if n % 2 = 1 then l.get (n / 2) else r.get (n / 2 - 1) := by
  show @Bool.rec (fun _ => Option α) (@Bool.rec (fun _ => Option α) (r.get (Nat.pred (Nat.div n 2))) (l.get (Nat.div n 2)) (Nat.beq (Nat.land n 1) 1)) v (Nat.beq n 0) = _
  rw [bool_rec, bool_rec, beq0, odd_iff]
  simp only [decide_eq_true_eq]
  rfl
theorem set_node (l : T α) (v : Option α) (r : T α) (n : Nat) (x : Option α) : (T.node l v r).set n x = if n = 0 then .node l x r else if n % 2 = 1 then .node (l.set (n / 2) x) v r else .node l v (r.set (n / 2 - 1) x) := by
  show @Bool.rec (fun _ => T α) (@Bool.rec (fun _ => T α) (.node l v (r.set (Nat.pred (Nat.div n 2)) x)) (.node (l.set (Nat.div n 2) x) v r) (Nat.beq (Nat.land n 1) 1)) (.node l x r) (Nat.beq n 0) = _
  rw [bool_rec, bool_rec, beq0, odd_iff]
  simp only [decide_eq_true_eq]
  rfl
theorem get_sing : ∀ (k n : Nat) (x : Option α), n + 1 < 2 ^ k → ∀ i, (sing k n x).get i = if i = n then x else none
  | 0, n, x, h, i => by simp at h
  | k + 1, n, x, h, i => by
    rw [Nat.pow_succ] at h
    simp only [sing, beq0, odd_iff]
    by_cases h0 : n = 0
    · subst h0
      simp only [decide_true, get_node, get_leaf]
      by_cases hi : i = 0 <;> simp [hi]
    · by_cases h1 : n % 2 = 1
      · simp only [h0, h1, decide_false, decide_true, get_node, get_leaf]
        have ih := get_sing k (n / 2) x (by omega)
        by_cases hi : i = 0
        · rw [if_pos hi, if_neg (by omega)]
        · rw [if_neg hi]
          by_cases hi1 : i % 2 = 1
          · rw [if_pos hi1]
            show (sing k (n / 2) x).get (i / 2) = _
            rw [ih]
            have : (i / 2 = n / 2) ↔ i = n := by omega
            simp only [this]
          · rw [if_neg hi1, if_neg (by omega)]
      · simp only [h0, h1, decide_false, get_node, get_leaf]
        have ih := get_sing k (n / 2 - 1) x (by omega)
        by_cases hi : i = 0
        · rw [if_pos hi, if_neg (by omega)]
        · rw [if_neg hi]
          by_cases hi1 : i % 2 = 1
          · rw [if_pos hi1, if_neg (by omega)]
          · rw [if_neg hi1]
            show (sing k (n / 2 - 1) x).get (i / 2 - 1) = _
            rw [ih]
            have : (i / 2 - 1 = n / 2 - 1) ↔ i = n := by omega
            simp only [this]
theorem get_set : ∀ (t : T α) (n : Nat) (x : Option α), n < 1000000000000 → ∀ i, (t.set n x).get i = if i = n then x else t.get i
  | .leaf, n, x, h, i => by
    show (sing 40 n x).get i = _
    rw [get_sing 40 n x (by omega)]
    rfl
  | .node l v r, n, x, h, i => by
    rw [set_node]
    by_cases h0 : n = 0
    · subst h0
      simp only [if_true, get_node]
      by_cases hi : i = 0 <;> simp [hi]
    · by_cases h1 : n % 2 = 1
      · rw [if_neg h0, if_pos h1, get_node, get_node]
        have ih := get_set l (n / 2) x (by omega)
        by_cases hi : i = 0
        · rw [if_pos hi, if_pos hi, if_neg (by omega)]
        · rw [if_neg hi, if_neg hi]
          by_cases hi1 : i % 2 = 1
          · rw [if_pos hi1, if_pos hi1, ih]
            have : (i / 2 = n / 2) ↔ i = n := by omega
            simp only [this]
          · rw [if_neg hi1, if_neg hi1, if_neg (by omega)]
      · rw [if_neg h0, if_neg h1, get_node, get_node]
        have ih := get_set r (n / 2 - 1) x (by omega)
        by_cases hi : i = 0
        · rw [if_pos hi, if_pos hi, if_neg (by omega)]
        · rw [if_neg hi, if_neg hi]
          by_cases hi1 : i % 2 = 1
          · rw [if_pos hi1, if_pos hi1, if_neg (by omega)]
          · rw [if_neg hi1, if_neg hi1, ih]
            have : (i / 2 - 1 = n / 2 - 1) ↔ i = n := by omega
            simp only [this]
noncomputable def ofList : List α → Nat → T α → T α
  | [], _, t => t
  | x :: l, k, t => ofList l (Nat.succ k) (t.set k (some x))
theorem get_ofList : ∀ (l : List α) (k : Nat) (t : T α), k + l.length < 1000000000000 → ∀ i, (ofList l k t).get i = if k ≤ i ∧ i < k + l.length then l[i - k]? else t.get i
  | [], k, t, _, i => by simp [ofList]; omega
  | x :: l, k, t, h, i => by
    simp only [List.length_cons] at h
    simp only [ofList]
    rw [get_ofList l (k + 1) _ (by omega) i, get_set _ _ _ (by omega)]
    by_cases e : i = k
    · subst e
      rw [if_neg (by omega), if_pos rfl, if_pos (by simp)]
      simp
    · by_cases hr : k ≤ i ∧ i < k + (l.length + 1)
      · rw [if_pos (by omega), if_pos (by simpa using hr)]
        have : i - k = (i - (k + 1)) + 1 := by omega
        rw [this, List.getElem?_cons_succ]
      · rw [if_neg (by omega), if_neg e, if_neg (by simpa using hr)]
end T
abbrev lim : Nat := 1000000000000
noncomputable def appT (H : T O) : List (Nat × Option O) → T O
  | [] => H
  | (i, o) :: r => appT (H.set i o) r
/-- a call, reckoned: function, arguments, heap, the next name -/
abbrev CallF := FuncId → List V → T O → Nat → Option (V × T O × Nat)
noncomputable def okNames : List (Nat × Option O) → Bool
  | [] => true
  | p :: r => match Nat.ble (Nat.succ p.1) lim with | true => okNames r | false => false
abbrev RunF := (Operand → Option V) → Heap → Nat → Option Ef
/-- an operation made ready: what it reckons (the match on its form is over), or a call -/
inductive CK where
  | prim (run : RunF)
  | call (f : Operand) (xs : List Operand)
noncomputable def onF {α : Type} (v : V) (k : F → α) (d : α) : α := @V.rec (fun _ => α) (fun u => @U.rec (fun _ => α) (fun x => k x) (fun _ => d) (fun _ _ => d) u) (fun _ => d) v
noncomputable def onInt {α : Type} (x : F) (k : IntKind → Int → α) (d : α) : α := @F.rec (fun _ => α) (fun a b => k a b) (fun _ => d) (fun _ => d) d (fun _ _ => d) d (fun _ _ _ _ _ => d) d (fun _ => d) d x
noncomputable def oneF (o : Option F) : Option Ef := @Option.rec F (fun _ => Option Ef) none (fun x => some (vf x, [], 0)) o
noncomputable def oneV (o : Option V) : Option Ef := @Option.rec V (fun _ => Option Ef) none (fun x => some (x, [], 0)) o
/-- two whole numbers of one kind -/
noncomputable def two (g : IntKind → Int → Int → F) (d : V → V → Option F) (a b : V) : Option Ef :=
  onF a (fun x => onF b (fun y => onInt x (fun k i => onInt y (fun j l => @Bool.rec (fun _ => Option Ef) none (some (vf (g k i l), [], 0)) (kEq k j)) (oneF (d a b))) (oneF (d a b))) (oneF (d a b))) (oneF (d a b))
noncomputable def binC (P : Program) (op : BinOp) (t : TypeId) : V → V → Option Ef := match op with
  | .add => two (fun k a b => .int k (wrapI k (addI a b))) (binA P .add t)
  | .sub => two (fun k a b => .int k (wrapI k (subI a b))) (binA P .sub t)
  | .mul => two (fun k a b => .int k (wrapI k (mulI a b))) (binA P .mul t)
  | .eql => two (fun _ a b => .bool (eqI a b)) (binA P .eql t)
  | .neq => two (fun _ a b => .bool (not (eqI a b))) (binA P .neq t)
  | .lss => two (fun _ a b => .bool (ltI a b)) (binA P .lss t)
  | .leq => two (fun _ a b => .bool (not (ltI b a))) (binA P .leq t)
  | .gtr => two (fun _ a b => .bool (ltI b a)) (binA P .gtr t)
  | .geq => two (fun _ a b => .bool (not (ltI a b))) (binA P .geq t)
  | op => fun a b => oneF (binA P op t a b)
noncomputable def loadC (agg : Option Bool) (sz : Option Nat) (h : Heap) (id off : Nat) : Option Ef :=
  match h id, agg, sz with
  | some (.cells cs _), some true, some sz => if off + sz ≤ cs.length then some (.u (.agg ((cs.drop off).take sz)), [], 0) else none
  | some (.cells cs _), some false, some _ => match cs[off]? with | some x => some (vf x, [], 0) | none => none
  | some (.whole rcs _ _), some false, some _ => match rcs[off]? with | some (.int k n) => some (vf (.int k n), [], 0) | _ => none
  | _, _, _ => none
noncomputable def fieldOff (P : Program) (s : TypeId) (f : Nat) : Option Nat := match P.underlying s with
  | some (.struct fs) => match fs[f]? with
    | some fd => match sizeT P fd.type with
      | some sz => if 0 < sz then some fd.offset else none
      | none => none
    | none => none
  | _ => none
noncomputable def onO {α β : Type} (o : Option α) (k : α → Option β) : Option β := @Option.rec α (fun _ => Option β) none (fun x => k x) o
noncomputable def asPtr (v : V) : Option (Nat × Nat) := onF v (fun x => @F.rec (fun _ => Option (Nat × Nat)) (fun _ _ => none) (fun _ => none) (fun _ => none) none (fun a b => some (a, b)) none (fun _ _ _ _ _ => none) none (fun _ => none) none x) none
noncomputable def asBl (v : V) : Option Bool := onF v (fun x => @F.rec (fun _ => Option Bool) (fun _ _ => none) (fun b => some b) (fun _ => none) none (fun _ _ => none) none (fun _ _ _ _ _ => none) none (fun _ => none) none x) none
noncomputable def st_alloc (P : Program) (e : TypeId) (r : Operand → Option V) (h : Heap) (n : Nat) : Option Ef :=
  match tiOf P e with | some ti => some (vf (.ptr n 0), [(n, some (.cells ti.zero true))], 1) | none => none
noncomputable def st_box (x : Operand) (r : Operand → Option V) (h : Heap) (n : Nat) : Option Ef :=
  match r x with
    | some v => match cellsV v with | some cs => some (vf (.ptr n 0), [(n, some (.cells cs true))], 1) | none => none
    | none => none
noncomputable def st_build (P : Program) (t : TypeId) (parts : Array (Nat × Operand)) (r : Operand → Option V) (h : Heap) (n : Nat) : Option Ef :=
  match tiOf P t, partsA r parts.toList with
    | some ti, some ps => match P.underlying t with
      | some (.struct fs) => match fieldsP P fs.toList with
        | some pl => (fillA (pl[·]?) ti.zero ps).map fun cs => (.u (.agg cs), [], 0)
        | none => none
      | some (.array _ e) => match sizeT P e with
        | some sz => (fillA (fun i => some (i * sz, sz)) ti.zero ps).map fun cs => (.u (.agg cs), [], 0)
        | none => none
      | _ => none
    | _, _ => none
noncomputable def st_buildSlice (P : Program) (t : TypeId) (len : Nat) (parts : Array (Nat × Operand)) (r : Operand → Option V) (h : Heap) (n : Nat) : Option Ef :=
  match sliceE P t, partsA r parts.toList with
    | some e, some ps => match tiOf P e with
      | some ti => if 0 < ti.size ∧ ti.zero.length = ti.size ∧ len * ti.size ≤ 16777216 then
          (fillA (fun i => some (i * ti.size, ti.size)) (repeatL ti.zero len) ps).map fun cs => (vf (.sl n 0 ti.size len none), [(n, some (.cells cs true))], 1)
        else none
      | none => none
    | _, _ => none
noncomputable def st_store (P : Program) (t : TypeId) (a : Operand) (x : Operand) (r : Operand → Option V) (h : Heap) (n : Nat) : Option Ef :=
  match r a, r x with
    | some (.u (.f (.ptr id off))), some v => match h id, cellsV v, sizeT P t with
      | some (.cells cs ex), some new, some sz => if new.length = sz ∧ off + sz ≤ cs.length then some (undefV, [(id, some (.cells (splice cs off new) ex))], 0) else none
      | _, _, _ => none
    | _, _ => none
noncomputable def st_nilCheck (x : Operand) (r : Operand → Option V) (h : Heap) (n : Nat) : Option Ef :=
  match r x with
    | some (.u (.f (.ptr id off))) => some (vf (.ptr id off), [], 0)
    | some (.u (.fn g c)) => some (.u (.fn g c), [], 0)
    | _ => none
noncomputable def st_unOp (x : Operand) (r : Operand → Option V) (h : Heap) (n : Nat) : Option Ef :=
  match r x with | some (.u (.f (.bool b))) => some (vf (.bool !b), [], 0) | _ => none
noncomputable def st_convert (P : Program) (s : TypeId) (d : TypeId) (x : Operand) (r : Operand → Option V) (h : Heap) (n : Nat) : Option Ef :=
  match P.underlying s, P.underlying d, r x with
    | some _, some (.int k), some (.u (.f (.int _ n))) => some (vf (.int k (k.wrap n)), [], 0)
    | some (.slice e), some .string, some (.u (.f x)) => match P.underlying e with
      | some (.int .u8) => match rowA h 1 x with
        | some cs => match bytesA cs with | some s => some (vf (.str s), [], 0) | none => none
        | none => none
      | _ => none
    | some (.slice _), some (.slice e), some (.u (.f (.sl id off sz len cap))) => match P.underlying e, h id with
      | some (.int .u8), some (.cells cs ex) => if s = d ∧ 0 < len then some (vf (.sl id off sz len cap), [(id, some (.cells cs ex))], 0) else none
      | _, _ => none
    | some .string, some (.slice e), some (.u (.f (.str s))) => match P.underlying e with
      | some (.int .u8) => some (vf (.sl n 0 1 s.length none), [(n, some (.cells (ofBytes s) false))], 1)
      | _ => none
    | _, _, _ => none
noncomputable def st_makeFunc (g : Nat) (first : Array Operand) (caps : Array Operand) (r : Operand → Option V) (h : Heap) (n : Nat) : Option Ef :=
  if first.size = 0 then match valsA r caps.toList with
      | some vs => match vs.mapM (fun v => match v with | .u (.f x) => some x | _ => none) with
        | some l => some (.u (.fn g l), [], 0)
        | none => none
      | none => none
    else none
noncomputable def st_makeMap (P : Program) (t : TypeId) (r : Operand → Option V) (h : Heap) (n : Nat) : Option Ef :=
  match P.underlying t with | some (.map _ _) => some (vf (.map n), [(n, some (.mp []))], 1) | _ => none
noncomputable def st_makeSlice (P : Program) (t : TypeId) (l : Operand) (c : Operand) (r : Operand → Option V) (h : Heap) (n : Nat) : Option Ef :=
  match sliceE P t, r l, r c with
    | some e, some vl, some vc => match tiOf P e, natOf vl, natOf vc with
      | some ti, some a, some b =>
        if a = b ∧ 0 < ti.size ∧ 0 < ti.bytes ∧ ti.zero.length = ti.size ∧ a * ti.bytes ≤ 140737488355328 then
          some (vf (.sl n 0 ti.size a none), [(n, some (.cells (repeatL ti.zero a) true))], 1)
        else none
      | _, _, _ => none
    | _, _, _ => none
noncomputable def st_slice (P : Program) (t : TypeId) (x : Operand) (lo : Option Operand) (hi : Option Operand) (mx : Option Operand) (r : Operand → Option V) (h : Heap) (n : Nat) : Option Ef :=
  match r x, optNat r lo, optNat r hi, optNat r mx with
    | some (.u (.f x)), some lo, some hi, some mx => match P.underlying t, x with
      | some (.array k e), .ptr id off => match sizeT P e, h id with
        | some sz, some (.cells cs true) => match cutA k k (some k) lo hi mx with
          | some (l, h', some m) => if cs.length = off + k * sz ∧ 0 < sz then some (vf (.sl id (off + l * sz) sz (h' - l) (some (m - l))), [], 0) else none
          | _ => none
        | _, _ => none
      | some (.slice e), .sl0 => match sizeT P e, cutA 0 0 (some 0) lo hi mx with
        | some _, some _ => some (vf .sl0, [], 0)
        | _, _ => none
      | some (.slice e), .sl id off sz len cap => match sizeT P e, (h id).bind sizeO with
        | some sz', some L =>
          match cutA len (cap.getD ((L - off) / sz)) cap lo hi mx with
          | some (l, h', m) => if sz' = sz ∧ 0 < sz ∧ off ≤ L then some (vf (.sl id (off + l * sz) sz (h' - l) (m.map (· - l))), [], 0) else none
          | none => none
        | _, _ => none
      | _, _ => none
    | _, _, _, _ => none
noncomputable def st_indexAddr (P : Program) (t : TypeId) (x : Operand) (i : Operand) (r : Operand → Option V) (h : Heap) (n : Nat) : Option Ef :=
  match r x, r i with
    | some (.u (.f x)), some iv => match natOf iv, P.underlying t, x with
      | some i, some (.array len e), .ptr id off => match sizeT P e with
        | some sz => if i < len then some (vf (.ptr id (off + i * sz)), [], 0) else none
        | none => none
      | some i, some (.slice e), .sl id off sz len _ => match sizeT P e with
        | some sz' => if sz' = sz ∧ i < len then some (vf (.ptr id (off + i * sz)), [], 0) else none
        | none => none
      | _, _, _ => none
    | _, _ => none
noncomputable def st_index (P : Program) (t : TypeId) (x : Operand) (i : Operand) (r : Operand → Option V) (h : Heap) (n : Nat) : Option Ef :=
  match r x, r i with
    | some (.u (.f (.str s))), some iv => match natOf iv, P.underlying t with
      | some i, some .string => match s[i]? with | some b => some (vf (.int .u8 b.toNat), [], 0) | none => none
      | _, _ => none
    | _, _ => none
noncomputable def st_lookup (P : Program) (t : TypeId) (m : Operand) (k : Operand) (ok : Bool) (r : Operand → Option V) (h : Heap) (n : Nat) : Option Ef :=
  match P.underlying t, r m, r k with
    | some (.map kt et), some (.u (.f m)), some (.u k) => match unzero P et, (match m with | .map0 => some [] | .map id => (match h id with | some (.mp es) => some es | _ => none) | _ => none) with
      | some z, some es => if keyT P kt k es.isEmpty then match findA k es 0 with
          | some (some (_, v)) => some (if ok then .tup [v, .f (.bool true)] else .u v, [], 0)
          | some none => some (if ok then .tup [z, .f (.bool false)] else .u z, [], 0)
          | none => none
        else none
      | _, _ => none
    | _, _, _ => none
noncomputable def st_mapUpdate (P : Program) (t : TypeId) (m : Operand) (k : Operand) (x : Operand) (r : Operand → Option V) (h : Heap) (n : Nat) : Option Ef :=
  match P.underlying t, r m, r k, r x with
    | some (.map kt _), some (.u (.f (.map id))), some (.u k), some (.u v) => match h id with
      | some (.mp es) => if keyT P kt k es.isEmpty then match findA k es 0 with
          | some none => some (undefV, [(id, some (.mp (es ++ [(k, v)])))], 0)
          | _ => none
        else none
      | _ => none
    | _, _, _, _ => none
noncomputable def st_range (P : Program) (t : TypeId) (x : Operand) (r : Operand → Option V) (h : Heap) (n : Nat) : Option Ef :=
  match P.underlying t, r x with
    | some (.map _ _), some (.u (.f .map0)) => some (vf (.ptr n 0), [(n, some (.it none))], 1)
    | some (.map _ _), some (.u (.f (.map id))) => match h id with
      | some (.mp _) => some (vf (.ptr n 0), [(n, some (.it (some id)))], 1)
      | _ => none
    | _, _ => none
noncomputable def st_next (x : Operand) (r : Operand → Option V) (h : Heap) (n : Nat) : Option Ef :=
  match r x with
    | some (.u (.f (.ptr id 0))) => match h id with
      | some (.it none) => some (.tup [.f (.bool false)], [], 0)
      | some (.it (some m)) => match h m with
        | some (.mp []) => some (.tup [.f (.bool false)], [], 0)
        | _ => none
      | _ => none
    | _ => none
noncomputable def st_extract (x : Operand) (i : Nat) (r : Operand → Option V) (h : Heap) (n : Nat) : Option Ef :=
  match r x with
    | some (.tup xs) => match xs[i]? with | some u => some (.u u, [], 0) | none => none
    | _ => none
noncomputable def bi_len (P : Program) (ats : Array TypeId) (vs : List V) (h : Heap) : Option Ef := match vs, ats[0]? with
  | [v], some t => oneF (lenB P t v h)
  | _, _ => none
noncomputable def bi_append (P : Program) (ats : Array TypeId) (vs : List V) (h : Heap) (n : Nat) : Option Ef := match vs, ats[0]?, ats[1]? with
  | [.u (.f s), .u (.f x)], some t, some t' => appendB P t t' s x h n
  | _, _, _ => none
noncomputable def mkC (P : Program) (op : Op) : CK := match op with
  | .call c => match c with
    | { callee := .value f, args := xs, .. } => .call f xs.toList
    | { callee := .builtin b, args, argTypes } => match b with
      | .len => .prim fun r h _ => onO (valsA r args.toList) fun vs => bi_len P argTypes vs h
      | .append => .prim fun r h n => onO (valsA r args.toList) fun vs => bi_append P argTypes vs h n
      | b => .prim fun r h n => onO (valsA r args.toList) fun vs => builtinA P b argTypes vs h n
    | _ => .prim fun r h n => stepOp P op r h n
  | .move x => .prim fun r _ _ => oneV (r x)
  | .assign x => .prim fun r _ _ => oneV (r x)
  | .binOp op t x y _ => .prim fun r _ _ => onO (r x) fun a => onO (r y) fun b => binC P op t a b
  | .load t a => .prim fun r h _ => onO (r a) fun v => onO (asPtr v) fun p => loadC (aggB P t) (sizeT P t) h p.1 p.2
  | .fieldAddr s x f => .prim fun r _ _ => onO (r x) fun v => onO (asPtr v) fun p => onO (fieldOff P s f) fun d => some (vf (.ptr p.1 (Nat.add p.2 d)), [], 0)
  | .pick c a b => .prim fun r _ _ => onO (r c) fun v => onO (asBl v) fun t => @Bool.rec (fun _ => Option Ef) (oneV (r b)) (oneV (r a)) t
  | .alloc e => .prim fun r h n => st_alloc P e r h n
  | .box _ x => .prim fun r h n => st_box x r h n
  | .build t parts => .prim fun r h n => st_build P t parts r h n
  | .buildSlice t len parts => .prim fun r h n => st_buildSlice P t len parts r h n
  | .store t a x => .prim fun r h n => st_store P t a x r h n
  | .nilCheck x => .prim fun r h n => st_nilCheck x r h n
  | .unOp u _ x => match u with
    | .not => .prim fun r h n => st_unOp x r h n
    | _ => .prim fun r h n => stepOp P op r h n
  | .convert s d x => .prim fun r h n => st_convert P s d x r h n
  | .makeFunc f first caps => match f with
    | .func g => .prim fun r h n => st_makeFunc g first caps r h n
    | _ => .prim fun r h n => stepOp P op r h n
  | .makeMap t q => match q with
    | none => .prim fun r h n => st_makeMap P t r h n
    | _ => .prim fun r h n => stepOp P op r h n
  | .makeSlice t l c => .prim fun r h n => st_makeSlice P t l c r h n
  | .slice t x lo hi mx => .prim fun r h n => st_slice P t x lo hi mx r h n
  | .indexAddr t x i => .prim fun r h n => st_indexAddr P t x i r h n
  | .index t x i => .prim fun r h n => st_index P t x i r h n
  | .lookup t m k ok => .prim fun r h n => st_lookup P t m k ok r h n
  | .mapUpdate t m k x => .prim fun r h n => st_mapUpdate P t m k x r h n
  | .range t x => .prim fun r h n => st_range P t x r h n
  | .next x q => match q with
    | false => .prim fun r h n => st_next x r h n
    | true => .prim fun r h n => stepOp P op r h n
  | .extract x i => .prim fun r h n => st_extract x i r h n
  | op => .prim fun r h n => stepOp P op r h n
noncomputable def ckOf : CK → Option RunF
  | .prim run => some run
  | .call .. => none
theorem two_eq {g : IntKind → Int → Int → F} {d : V → V → Option F} (hg : ∀ k k' i j, d (.u (.f (.int k i))) (.u (.f (.int k' j))) = match kEq k k' with | true => some (g k i j) | false => none) (a b : V) : two g d a b = oneF (d a b) := by
  cases a with
  | tup l => rfl
  | u a =>
    cases a <;> first
      | rfl
      | skip
    rename_i x
    cases b with
    | tup l => rfl
    | u b =>
      cases b <;> first
        | rfl
        | skip
      rename_i y
      cases x <;> first
        | rfl
        | skip
      cases y <;> first
        | rfl
        | skip
      rename_i k i j l
      rw [hg]
      simp only [two, onF, onInt]
      cases kEq k j <;> rfl
theorem binC_eq (P : Program) (op : BinOp) (t : TypeId) (a b : V) : binC P op t a b = oneF (binA P op t a b) := by
  cases op <;> first
    | rfl
    | exact two_eq (fun k k' i j => rfl) a b
theorem mkC_prim {P : Program} {op : Op} {run : RunF} (h : mkC P op = .prim run) (r : Operand → Option V) (hp : Heap) (n : Nat) : run r hp n = stepOp P op r hp n := by
  cases op <;> simp only [mkC] at h <;> first
    | (cases h; rfl; done)
    | skip
  case move x => cases h; simp only [stepOp, oneV]; cases r x <;> rfl
  case assign x => cases h; simp only [stepOp, oneV]; cases r x <;> rfl
  case pick c a b =>
    cases h
    simp only [stepOp, onO]
    cases hc : r c with
    | none => rfl
    | some v =>
      cases v with
      | tup l => rfl
      | u v => cases v <;> first
        | rfl
        | skip
               rename_i x
               cases x <;> first
                 | rfl
                 | skip
               rename_i bb
               cases bb
               · simp only [asBl, oneV, Bool.false_eq_true, if_false]; cases r b <;> rfl
               · simp only [asBl, oneV, if_true]; cases r a <;> rfl
  case load t a =>
    cases h
    simp only [stepOp, onO]
    cases ha : r a with
    | none => rfl
    | some v =>
      cases v with
      | tup l => rfl
      | u v => cases v <;> first
        | rfl
        | skip
               rename_i x
               cases x <;> rfl
  case fieldAddr s x f =>
    cases h
    simp only [stepOp, onO]
    cases hx : r x with
    | none => rfl
    | some v =>
      cases v with
      | tup l => rfl
      | u v => cases v <;> first
        | rfl
        | skip
               rename_i x
               cases x <;> first
                 | rfl
                 | skip
               rename_i id off
               simp only [asPtr]
               unfold fieldOff
               cases hu : P.underlying s with
               | none => rfl
               | some d =>
                 cases d <;> first
                   | rfl
                   | skip
                 rename_i fs
                 simp only
                 cases hf : fs[f]? with
                 | none => rfl
                 | some fd =>
                   simp only
                   cases hs : sizeT P fd.type with
                   | none => rfl
                   | some sz =>
                     simp only
                     by_cases h0 : 0 < sz
                     · simp only [if_pos h0]; rfl
                     · simp only [if_neg h0]; rfl
  case binOp op t x y t' =>
    cases h
    simp only [stepOp, onO]
    cases hx : r x with
    | none => rfl
    | some a =>
      cases hy : r y with
      | none => rfl
      | some b =>
        simp only [binC_eq]
        cases binA P op t a b <;> rfl
  case unOp u t x => cases u <;> cases h <;> rfl
  case makeFunc f a b => cases f <;> cases h <;> rfl
  case makeMap t q => cases q <;> cases h <;> rfl
  case next x q => cases q <;> cases h <;> rfl
  case call c =>
    obtain ⟨callee, args, ats⟩ := c
    cases callee with
    | value f => cases h
    | invoke a b => cases h; rfl
    | builtin b =>
      cases b <;> cases h <;> simp only [stepOp, onO] <;> (cases valsA r args.toList <;> first | rfl | skip)
      rename_i vs
      show bi_len P ats vs hp = builtinA P .len ats vs hp n
      cases vs with
      | nil => rfl
      | cons v l => cases l with
        | cons a b => simp only [bi_len, builtinA]
        | nil =>
          simp only [bi_len, builtinA, oneF]
          cases ats[0]? with
          | none => rfl
          | some t => simp only; cases lenB P t v hp <;> rfl
theorem mkC_call {P : Program} {op : Op} {f : Operand} {xs : List Operand} (h : mkC P op = .call f xs) : ∃ ats, op = .call { callee := .value f, args := xs.toArray, argTypes := ats } := by
  cases op <;> simp only [mkC] at h <;> first
    | (cases h; done)
    | (split at h <;> cases h; done)
    | skip
  rename_i c
  obtain ⟨callee, args, ats⟩ := c
  cases callee with
  | value f => cases h; exact ⟨ats, by simp⟩
  | invoke a b => cases h
  | builtin b => cases b <;> cases h
structure St where
  A : T V
  H : T O
  n : Nat
/-- an operation of a region, made ready: from a state to a state -/
structure CS where
  st : CallF → T V → T O → Nat → Option St
noncomputable def eqB (a b : Bool) : Bool := @Bool.rec (fun _ => Bool) (@Bool.rec (fun _ => Bool) true false b) b a
/-- is it wanted? (the temporary that says it) -/
noncomputable def wantV (want : Bool) (v : Option V) : Option Bool := @Option.rec V (fun _ => Option Bool) none (fun v => @V.rec (fun _ => Option Bool) (fun _ => onO (asBl v) fun b => some (eqB b want)) (fun l => @List.rec U (fun _ => Option Bool) (some false) (fun _ _ _ => none) l) v) v
noncomputable def putT (A : T V) (dst : Option Tmp) (v : V) : T V := @Option.rec Tmp (fun _ => T V) A (fun d => A.set d (some v)) dst
/-- behind a reckoning -/
noncomputable def behind (A : T V) (dst : Option Tmp) (H : T O) (n : Nat) (ef : Option Ef) : Option St :=
  @Option.rec Ef (fun _ => Option St) none (fun ef => @Prod.rec V (List (Nat × Option O) × Nat) (fun _ => Option St) (fun v q => @Prod.rec (List (Nat × Option O)) Nat (fun _ => Option St) (fun us j =>
    @List.rec (Nat × Option O) (fun _ => Option St) (some ⟨putT A dst v, H, Nat.add n j⟩) (fun u us _ => @Bool.rec (fun _ => Option St) none (some ⟨putT A dst v, appT H (u :: us), Nat.add n j⟩) (okNames (u :: us))) us) q) ef) ef
noncomputable def callS (P : Program) (call : CallF) (dst : Option Tmp) (A : T V) (H : T O) (n : Nat) (f : Option V) (args : Option (List V)) : Option St :=
  match f, args with
  | some (.u (.fn g caps)), some args => match fnOk P g with
    | true => match call g (args ++ caps.map fun x => .u (.f x)) H n with
      | some (v, H', n') => some ⟨putT A dst v, H', n'⟩
      | none => none
    | false => none
  | _, _ => none
/-- an operation, wanted -/
noncomputable def mkS1 (P : Program) (dst : Option Tmp) (k : CK) : CS := match k with
  | .prim run => ⟨fun _ A H n => behind A dst H n (run (evA A.get) H.get n)⟩
  | .call f xs => ⟨fun call A H n => callS P call dst A H n (evA A.get f) (valsA (evA A.get) xs)⟩
/-- an operation -/
noncomputable def mkS (P : Program) (ops : Array Oper) (o : Oper) : CS := match o.guard with
  | none => mkS1 P o.dst (mkC P o.op)
  | some (j, want) => match (ops[j]?).bind (·.dst) with
    | some d => ⟨fun call A H n => onO (wantV want (A.get d)) fun b => @Bool.rec (fun _ => Option St) (some ⟨putT A o.dst undefV, H, n⟩) ((mkS1 P o.dst (mkC P o.op)).st call A H n) b⟩
    | none => ⟨fun _ _ _ _ => none⟩
noncomputable def mkSs (P : Program) (ops : Array Oper) : List Oper → List CS
  | [] => []
  | o :: r => mkS P ops o :: mkSs P ops r
noncomputable def thenS (o : Option St) (k : T V → T O → Nat → Option St) : Option St := @Option.rec St (fun _ => Option St) none (fun s => @St.rec (fun _ => Option St) k s) o
noncomputable def evSeq (call : CallF) (l : List CS) : T V → T O → Nat → Option St :=
  @List.rec CS (fun _ => T V → T O → Nat → Option St) (fun A H n => some ⟨A, H, n⟩) (fun c _ ih A H n => thenS (c.st call A H n) ih) l
/-- what was done in a region that draws: which operation, from what, to what -/
structure Rec where
  i : Nat
  o : Oper
  want : Bool
  A : T V
  H : T O
  lo : Nat
  H' : T O
  hi : Nat
noncomputable def wantO (ops : Array Oper) (A : T V) (o : Oper) : Option Bool := match o.guard with
  | none => some true
  | some (j, want) => match (ops[j]?).bind (·.dst) with
    | some d => wantV want (A.get d)
    | none => none
noncomputable def evRec (P : Program) (call : CallF) (ops : Array Oper) : List Nat → St → Option (List Rec × St)
  | [], s => some ([], s)
  | i :: L, s =>
    match ops[i]? with
    | some o => match (mkS P ops o).st call s.A s.H s.n with
      | some s1 => match evRec P call ops L s1 with
        | some (rs, s') => match wantO ops s.A o with
          | some w => some (⟨i, o, w, s.A, s.H, s.n, s1.H, s1.n⟩ :: rs, s')
          | none => none
        | none => none
      | none => none
    | none => none
noncomputable def dstOk (m : Nat) (o : Oper) : Bool := match o.dst with | some d => d < m && d < lim | none => true
/-- all destinations of a code are temporaries -/
noncomputable def dstsOk (m : Nat) : Code → Bool
  | .region _ ops _ => ops.toList.all (dstOk m)
  | .seq a b => dstsOk m a && dstsOk m b
  | .cond _ a b => dstsOk m a && dstsOk m b
  | .block _ a => dstsOk m a
  | .loop a => dstsOk m a
  | _ => true
noncomputable def clsB (P : Program) (op : Op) : Nat := match cls P op with | .quiet => 0 | .fresh => 1 | .eff => 2
/-- does a quiet operation read the heap? -/
noncomputable def reads : Op → Bool
  | .load .. | .slice .. | .lookup .. | .convert .. => true
  | .call { callee := .builtin .len, .. } => true
  | _ => false
noncomputable def beqF : F → F → Bool
  | .int k a, .int j b => k == j && a == b
  | .bool a, .bool b => a == b
  | .str a, .str b => a == b
  | .ptr0, .ptr0 => true
  | .ptr a b, .ptr c d => a == c && b == d
  | .sl0, .sl0 => true
  | .sl a b c d e, .sl a' b' c' d' e' => a == a' && b == b' && c == c' && d == d' && e == e'
  | .map0, .map0 => true
  | .map a, .map b => a == b
  | .nilf, .nilf => true
  | _, _ => false
noncomputable def beqL {α : Type} (f : α → α → Bool) : List α → List α → Bool
  | [], [] => true
  | a :: l, b :: k => f a b && beqL f l k
  | _, _ => false
noncomputable def beqU : U → U → Bool
  | .f a, .f b => beqF a b
  | .agg a, .agg b => beqL beqF a b
  | .fn g a, .fn j b => g == j && beqL beqF a b
  | _, _ => false
noncomputable def beqV : V → V → Bool
  | .u a, .u b => beqU a b
  | .tup a, .tup b => beqL beqU a b
  | _, _ => false
noncomputable def beqO : Option V → Option V → Bool
  | none, none => true
  | some a, some b => beqV a b
  | _, _ => false
noncomputable def quietAt (P : Program) (q : Rec) (H : T O) : Option V := match stepOp P q.o.op (evA q.A.get) H.get 0 with | some ef => some ef.1 | none => none
/-- nothing that a quiet operation reads is turned by one that is not ordered with it -/
noncomputable def stableB (P : Program) (b : Nat → Nat) (rs : List Rec) : Bool :=
  rs.all fun x => !x.want || clsB P x.o.op == 0 || rs.all fun q => q.i == x.i || !q.want || clsB P q.o.op != 0 || !reads q.o.op || (b x.i).testBit q.i || (b q.i).testBit x.i || beqO (quietAt P q x.H) (quietAt P q x.H')
/-- an order: ahead of each effect just what it needs -/
noncomputable def emitB (bits : Nat) : List Nat → Nat × List Nat → Nat × List Nat
  | [], d => d
  | i :: l, (done, acc) => emitB bits l (if bits.testBit i && !done.testBit i then (done ||| 2 ^ i, i :: acc) else (done, acc))
noncomputable def canonB (P : Program) (b : Nat → Nat) (n : Nat) : List (Oper × Nat) → Nat × List Nat → Nat × List Nat
  | [], d => d
  | (o, i) :: l, d => canonB P b n l (if clsB P o.op == 2 then (emitB (2 ^ i) (List.range n) (emitB (b i) (List.range n) d)) else d)
noncomputable def canon (P : Program) (b : Nat → Nat) (ops : Array Oper) : List Nat :=
  (emitB (2 ^ ops.size - 1) (List.range ops.size) (canonB P b ops.size ops.toList.zipIdx (0, []))).2.reverse
noncomputable def befores (ops : Array Oper) : Array Nat := Region.before ops
noncomputable def bOf (ops : Array Oper) (i : Nat) : Nat := (befores ops).getD i 0
/-- code made ready -/
inductive CC where
  | skip
  | exit (i : Nat)
  | ret
  | region (l : List CS)
  | drawn (ops : Array Oper) (L : List Nat) (b : Nat → Nat)
  | seq (a b : CC)
  | cond (x : Operand) (a b : CC)
  | block (id : Nat) (a : CC)
  | loop (a : CC)
  | bad
noncomputable def mkCC (P : Program) : Code → CC
  | .skip => .skip
  | .exit i => .exit i
  | .ret => .ret
  | .region _ ops d => match d with
    | false => .region (mkSs P ops ops.toList)
    | true => .drawn ops (canon P (bOf ops) ops) (bOf ops)
  | .seq a b => .seq (mkCC P a) (mkCC P b)
  | .cond x a b => .cond x (mkCC P a) (mkCC P b)
  | .block id a => .block id (mkCC P a)
  | .loop a => .loop (mkCC P a)
  | _ => .bad
noncomputable def argsOk (args : List V) (fn : Func) : Bool := match Nat.ble args.length fn.ntmps with | true => Nat.ble (Nat.succ fn.ntmps) lim | false => false
noncomputable def resF (P : Program) (fn : Func) : Exit → St → Option (V × T O × Nat)
  | .normal, s | .ret, s => match resA P s.A.get s.H.get fn.results.toList with
    | some vs => match resV vs with
      | some v => some (v, s.H, s.n)
      | none => none
    | none => none
  | _, _ => none
/-- a function's body, made ready -/
noncomputable def bodyOf (P : Program) (f : FuncId) : Option (Func × CC) := @Option.rec Func (fun _ => Option (Func × CC)) none (fun fn => @Option.rec Code (fun _ => Option (Func × CC)) none (fun c => some (fn, mkCC P c)) fn.body) P.funcs[f]?
noncomputable def callC (P : Program) (orc : CallF) (ev : CC → St → Option (Exit × St)) : CallF := fun f args H n =>
  match orc f args H n with
  | some r => some r
  | none => match bodyOf P f with
    | some (fn, c) => match argsOk args fn with
      | true => match ev c ⟨T.ofList args 0 .leaf, H, n⟩ with
        | some (x, s') => resF P fn x s'
        | none => none
      | false => none
    | none => none
noncomputable def nextC (x : Option (Exit × St)) (k : St → Option (Exit × St)) : Option (Exit × St) := @Option.rec (Exit × St) (fun _ => Option (Exit × St)) none (fun p => @Prod.rec Exit St (fun _ => Option (Exit × St)) (fun e s => @Exit.rec (fun _ => Option (Exit × St)) (k s) (fun i => some (.exit i, s)) (fun i => some (.goto i, s)) (some (.ret, s)) (fun c => some (.panic c, s)) (some (.outgrown, s)) e) p) x
noncomputable def normC (x : Option St) : Option (Exit × St) := @Option.rec St (fun _ => Option (Exit × St)) none (fun s => some (.normal, s)) x
noncomputable def drawC (P : Program) (b : Nat → Nat) (x : Option (List Rec × St)) : Option (Exit × St) := match x with
  | some (rs, s') => match stableB P b rs with | true => some (.normal, s') | false => none
  | none => none
noncomputable def condC (v : Option V) (x y : Option (Exit × St)) : Option (Exit × St) := onO v fun v => onO (asBl v) fun t => @Bool.rec (fun _ => Option (Exit × St)) y x t
noncomputable def blockC (id : Nat) (x : Option (Exit × St)) : Option (Exit × St) := match x with
  | some (x, s') => some (outBlock id x, s')
  | none => none
/-- one level: what lies below is 'ev' -/
noncomputable def evStep (P : Program) (orc : CallF) (ev : CC → St → Option (Exit × St)) (c : CC) (s : St) : Option (Exit × St) :=
  @CC.rec (fun _ => Option (Exit × St)) (some (.normal, s)) (fun i => some (.exit i, s)) (some (.ret, s)) (fun l => normC (@St.rec (fun _ => Option St) (fun A H n => evSeq (callC P orc ev) l A H n) s)) (fun ops L b => drawC P b (evRec P (callC P orc ev) ops L s))
    (fun a b _ _ => nextC (ev a s) (ev b)) (fun x a b _ _ => condC (evA s.A.get x) (ev a s) (ev b s)) (fun id b _ => blockC id (ev b s)) (fun b _ => nextC (ev b s) (ev (.loop b))) none c
noncomputable def evC (P : Program) (orc : CallF) (k : Nat) : CC → St → Option (Exit × St) :=
  @Nat.rec (fun _ => CC → St → Option (Exit × St)) (fun _ _ => none) (fun _ ih => evStep P orc ih) k
/-- a call, from a heap -/
noncomputable def evCall (P : Program) (orc : CallF) (k : Nat) (f : FuncId) (args : List V) (H : T O) (n : Nat) : Option (V × T O × Nat) := callC P orc (evC P orc k) f args H n
end Go.Proofs.YtkimkgbppegkhaaGreat.Cm

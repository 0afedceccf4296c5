/- Records in rows; Spread. -/
import Derived.Test.YtbkcopejclcfdaaPlBase
import Derived.Laws.Tables
import Derived.Laws.MakeOwn
namespace Go.Proofs.Ytbkcopejclcfdaa
open Go.RowKit Go.Proofs.YtbkcopejclcfdaaW.PrintLast Go.Proofs.Ytbkcopejclcfdaa.Sum
set_option linter.unusedVariables false
set_option linter.unusedSimpArgs false
theorem fold_fill : ∀ (l : List Value) (k : Nat) (cs : Array Value), k + l.length ≤ cs.size → ((l.zipIdx k).foldl (fun cs (p : Value × Nat) => cs.setIfInBounds (0 + p.2) p.1) cs).toList = cs.toList.take k ++ l ++ cs.toList.drop (k + l.length)
  | [], k, cs, _ => by simp
  | x :: l, k, cs, h => by
    rw [List.zipIdx_cons, List.foldl_cons, fold_fill l (k + 1) _ (by simpa using (by simp at h; omega))]
    simp only [Nat.zero_add, Array.toList_setIfInBounds]
    simp only [List.length_cons] at h
    have hk : k < cs.toList.length := by simp; omega
    rw [List.take_succ_eq_append_getElem (by simpa using hk), List.drop_set_of_lt (by omega)]
    simp only [List.getElem_set_self, List.take_set_of_le (Nat.le_refl k), List.append_assoc, List.singleton_append, List.length_cons]
    rw [show k + 1 + l.length = k + (l.length + 1) by omega]
theorem fold_all (arr cs : Array Value) (h : arr.size = cs.size) : arr.zipIdx.foldl (fun cs (c, j) => cs.setIfInBounds (0 + j) c) cs = arr := by
  rw [← Array.foldl_toList, Array.toList_zipIdx]
  apply Array.toList_inj.1
  have := fold_fill arr.toList 0 cs (by simp; omega)
  rw [this]
  simp
  omega
section
variable {P : Program} (w : World)
theorem run_buildOne (t e : TypeId) (s : Nat) (z : Value) (arr : Array Value) (ht : P.underlying t = some (.slice e)) (hi : (P.info? e).map (·.size) = some s) (hv : (zeroValue e).run P w = .ok z w) (hs : arr.size = s) (h0 : 0 < s) (h1 : s ≤ 1000) :
    (Instr.buildSlice t 1 #[(0, .agg arr)]).run P w = .ok (.slice (some ⟨w.heap.size, 0, none⟩) 1 1) (w.alloc (.cells arr e)) := by
  have hsz := run_sizeOf (P := P) hi w
  have hf : Instr.fill (fun i => some (i * s, s)) ((Array.range (1 * s)).map (z.cells[· % z.cells.size]!)) [(0, .agg arr)] = some arr := by
    unfold Instr.fill
    simp only [Nat.zero_mul, Value.cells, Nat.one_mul]
    rw [if_neg (by simp [hs])]
    rw [fold_all arr _ (by simp [hs])]
    rfl
  simp only [Instr.buildSlice, Sem.run_bind, run_underlying ht, Result.andThen_ok, hsz]
  rw [if_neg (by omega)]
  rw [if_neg (by omega)]
  simp only [Sem.run_bind, hv, Sem.run_pure, Result.andThen_ok]
  rw [hf]
  simp [newRow]
theorem exec_buildOne {o : Oper} {a : Act} (t : TypeId) (x : Operand) (ho : o.op = .buildSlice t 1 #[(0, x)]) (e : TypeId) (s : Nat) (z : Value) (arr : Array Value) (hx : a.eval x = .agg arr) (ht : P.underlying t = some (.slice e)) (hi : (P.info? e).map (·.size) = some s) (hv : (zeroValue e).run P w = .ok z w) (hs : arr.size = s) (h0 : 0 < s) (h1 : s ≤ 1000) :
    (execOp a.eval o).run P w = .ok (.value (.slice (some ⟨w.heap.size, 0, none⟩) 1 1)) (w.alloc (.cells arr e)) := by
  unfold execOp
  simp only [ho, Sem.run_bind, Sem.run_pure, List.map_toArray, List.map_cons, List.map_nil, hx, run_buildOne w t e s z arr ht hi hv hs h0 h1, Result.andThen_ok]
end
theorem zero53 (w : World) : (zeroValue 53).run Try.prog w = .ok (.agg #[.int .i64 0, .int .i64 0, .int .i64 0, .int .i64 0, .int .i64 0, .int .i64 0, .int .i64 0, .bool false, .int .i64 0, .slice none 0 0]) w := by kernel_rfl
theorem info53p : (Try.prog.info? 53).map (fun i => (i.zero, i.size, i.bytes)) = some (some (.agg #[.int .i64 0, .int .i64 0, .int .i64 0, .int .i64 0, .int .i64 0, .int .i64 0, .int .i64 0, .bool false, .int .i64 0, .slice none 0 0]), 10, 96) := by kernel_rfl
/-- records, as they can be read -/
def Recs (W : World) (A : Option Addr) (xs : List Rc) : Prop := ∀ i (h : i < xs.length), ∃ b off v, A = some ⟨b, off, none⟩ ∧ b < W.heap.size ∧ W.rangeAt b (off + i * 10) (xs[i].cells v) ∧ DataV W v xs[i].data
theorem Recs.below {W W' : World} {A : Option Addr} {xs : List Rc} (h : Recs W A xs) (hb : Below W.heap.size W W') : Recs W' A xs := fun i hi => by
  obtain ⟨b, off, v, h1, h2, h3, h4⟩ := h i hi
  exact ⟨b, off, v, h1, Nat.lt_of_lt_of_le h2 hb.size, range_below hb h2 h3, h4.below hb⟩
/-- to whom a record goes -/
def tgt (l : List Int) (r : Rc) : Nat := (l.findIdx? (fun y => minL (ofL r.nums) l == y)).getD 0
theorem minL_in (k : List Int) (l : List Int) (h : l.length ≠ 0) : minL k l ∈ l := by
  cases l with
  | nil => simp at h
  | cons x l =>
    show l.foldl (fun m y => if nearB k y m then y else m) x ∈ x :: l
    have key : ∀ (l : List Int) (x : Int), l.foldl (fun m y => if nearB k y m then y else m) x = x ∨ l.foldl (fun m y => if nearB k y m then y else m) x ∈ l := by
      intro l
      induction l with
      | nil => intro x; exact .inl rfl
      | cons y l ih =>
        intro x
        rw [List.foldl_cons]
        rcases ih (if nearB k y x then y else x) with h | h
        · rw [h]
          split
          · exact .inr (by simp)
          · exact .inl rfl
        · exact .inr (by simp [h])
    rcases key l x with h1 | h1
    · rw [h1]; simp
    · simp [h1]
theorem tgt_idx (l : List Int) (r : Rc) (h : l.length ≠ 0) : idxI (fun y => minL (ofL r.nums) l == y) l = (tgt l r : Nat) ∧ tgt l r < l.length := by
  unfold tgt idxI
  rcases hx : l.findIdx? (fun y => minL (ofL r.nums) l == y) with _ | i
  · have := List.findIdx?_eq_none_iff.1 hx _ (minL_in (ofL r.nums) l h)
    simp at this
  · obtain ⟨hi, _, _⟩ := List.findIdx?_eq_some_iff_getElem.1 hx
    exact ⟨rfl, hi⟩
theorem own_ne2 {w : World} {B B' : Nat} {e e' : TypeId} {s s' m n k : Nat} {v u : Value} {xs ys : List Value} (h : w.ownsRow B e s v n xs) (h2 : w.ownsRow B' e' s' u m ys) (hne : e' ≠ e) (hv : v.ownBlock = some k) : u.ownBlock ≠ some k := by
  intro hu
  rcases h2.2 with ⟨rfl, _⟩ | ⟨g, cap, cur, rfl, _, hg, _⟩
  · cases hu
  · simp only [Value.ownBlock, Option.some.injEq] at hu
    subst hu
    exact own_ne h hg hne hv
def pcells (l : List (Rc × Value)) : List Value := l.flatMap fun pr => pr.1.cells pr.2
theorem pcells_append (a b : List (Rc × Value)) : pcells (a ++ b) = pcells a ++ pcells b := by simp [pcells]
/-- the rows of Spread -/
structure SP (W wr : World) (g n : Nat) (rows : List (List (Rc × Value))) (vs : List Value) : Prop where
  bel : Below W.heap.size W wr
  ge : W.heap.size ≤ g
  blk : wr.heap[g]? = some (.cells vs.toArray 35 (0, 0))
  lv : vs.length = n
  lr : rows.length = n
  own : ∀ i, i < n → wr.ownsRow W.heap.size 53 10 (vs.getD i undef) (rows.getD i []).length (pcells (rows.getD i []))
  data : ∀ i, i < n → ∀ pr ∈ rows.getD i [], wr.ownsRow 0 5 1 pr.2 pr.1.data.length (cv pr.1.data)
  ne : ∀ i j b, i < n → j < n → i ≠ j → (vs.getD i undef).ownBlock = some b → (vs.getD j undef).ownBlock ≠ some b
section
variable {W wr w1 w2 w3 : World} {g n : Nat} {rows : List (List (Rc × Value))} {vs : List Value}
theorem SP.keep (h : SP W wr g n rows vs) (hb : Below wr.heap.size wr w1) : SP W w1 g n rows vs := by
  have T := Turns.of_below hb (fun _ => False)
  exact ⟨h.bel.trans (hb.mono h.bel.size), h.ge, T.keep h.blk (fun h => h), h.lv, h.lr, fun i hi => T.own (h.own i hi) (fun _ _ h => h), fun i hi pr hp => T.own (h.data i hi pr hp) (fun _ _ h => h), h.ne⟩
theorem getD_set {α : Type} (l : List α) (i j : Nat) (x d : α) (hi : i < l.length) : (l.set i x).getD j d = if i = j then x else l.getD j d := by
  rw [List.getD_eq_getElem?_getD, List.getElem?_set]
  split
  · rename_i h
    subst h
    simp [hi]
  · rw [List.getD_eq_getElem?_getD]
theorem SP.put (h : SP W wr g n rows vs) {i : Nat} (hi : i < n) (r : Rc) (v v' : Value) (o : Obj) (hd : wr.ownsRow 0 5 1 v r.data.length (cv r.data))
    (ow : w3.ownsRow W.heap.size 53 10 v' ((rows.getD i []).length + 1) (pcells (rows.getD i []) ++ r.cells v)) (T : Turns (fun k => (vs.getD i undef).ownBlock = some k) (wr.alloc o) w3) (F : Fresh (wr.alloc o) (vs.getD i undef) v') :
    SP W (w3.setCell ⟨g, i, none⟩ v') g n (rows.set i (rows.getD i [] ++ [(r, v)])) (vs.set i v') := by
  have h2 := h.keep ((Below.refl wr.heap.size wr).alloc (Nat.le_refl _) o)
  have hd2 := hd.alloc o
  have hg2 := T.keep h2.blk (fun e => own_ne (h2.own i hi) h2.blk (by decide) e)
  have hlt : i < vs.length := by rw [h.lv]; exact hi
  have hlr : i < rows.length := by rw [h.lr]; exact hi
  have new : ∀ b, v'.ownBlock = some b → (vs.getD i undef).ownBlock = some b ∨ (wr.alloc o).heap.size ≤ b := fun b hb => by
    rcases F with e | ⟨q, e, hq⟩
    · exact .inl (by rw [← e]; exact hb)
    · rw [e] at hb; injection hb with hb; exact .inr (by omega)
  refine ⟨(h2.bel.trans (T.below h2.bel.size (fun k hk e => by have := ((h2.own i hi).lt k e).1; omega))).setCell h.ge _, h.ge, ?_, by rw [List.length_set]; exact h.lv, by rw [List.length_set]; exact h.lr, fun j hj => ?_, fun j hj pr hp => ?_, fun a b k ha hb hab e => ?_⟩
  · have := blk_setCell hg2 i v'
    rw [List.setIfInBounds_toArray] at this
    exact this
  · rw [getD_set vs i j v' undef hlt, getD_set rows i j _ [] hlr]
    by_cases hij : i = j
    · rw [if_pos hij, if_pos hij]
      rw [pcells_append, List.length_append]
      have e1 : pcells [(r, v)] = r.cells v := by simp [pcells]
      rw [e1]
      exact ownsRow_setCell_other ow (fun e => own_ne ow hg2 (by decide) e) _
    · rw [if_neg hij, if_neg hij]
      have o1 := T.own (h2.own j hj) (fun k hk e => h2.ne i j k hi hj hij e hk)
      exact ownsRow_setCell_other o1 (fun e => own_ne o1 hg2 (by decide) e) _
  · rw [getD_set rows i j _ [] hlr] at hp
    have key : ∀ pr : Rc × Value, (wr.alloc o).ownsRow 0 5 1 pr.2 pr.1.data.length (cv pr.1.data) → (w3.setCell ⟨g, i, none⟩ v').ownsRow 0 5 1 pr.2 pr.1.data.length (cv pr.1.data) := fun pr hpr => by
      have o1 := T.own hpr (fun k hk e => own_ne2 hpr (h2.own i hi) (by decide) hk e)
      exact ownsRow_setCell_other o1 (fun e => own_ne o1 hg2 (by decide) e) _
    by_cases hij : i = j
    · rw [if_pos hij] at hp
      subst hij
      rcases List.mem_append.1 hp with hp | hp
      · exact key pr (h2.data i hi pr hp)
      · simp only [List.mem_cons, List.not_mem_nil, or_false] at hp
        subst hp
        exact key (r, v) hd2
    · rw [if_neg hij] at hp
      exact key pr (h2.data j hj pr hp)
  · rw [getD_set vs i a v' undef hlt] at e
    rw [getD_set vs i b v' undef hlt]
    by_cases h1 : i = a
    · rw [if_pos h1] at e
      rw [if_neg (by omega)]
      subst h1
      rcases new k e with h3 | h3
      · exact h2.ne i b k ha hb hab h3
      · intro e2
        have := ((h2.own b hb).lt k e2).2
        omega
    · rw [if_neg h1] at e
      by_cases h4 : i = b
      · rw [if_pos h4]
        subst h4
        intro e2
        rcases new k e2 with h3 | h3
        · exact h2.ne a i k ha hb hab e h3
        · have := ((h2.own a ha).lt k e).2
          omega
      · rw [if_neg h4]
        exact h2.ne a b k ha hb hab e
theorem rc_len (r : Rc) (v : Value) : (r.cells v).length = 10 := rfl
theorem pcells_len (l : List (Rc × Value)) : (pcells l).length = l.length * 10 := by
  induction l with
  | nil => rfl
  | cons x l ih =>
    unfold pcells at *
    rw [List.flatMap_cons, List.length_append, ih, rc_len, List.length_cons]
    omega
theorem pcells_get (l : List (Rc × Value)) (k : Nat) (hk : k < l.length) (j : Nat) (u : Value) (hu : (l[k].1.cells l[k].2)[j]? = some u) : (pcells l)[k * 10 + j]? = some u := by
  induction l generalizing k with
  | nil => simp at hk
  | cons x l ih =>
    have e : pcells (x :: l) = x.1.cells x.2 ++ pcells l := by simp [pcells]
    rw [e]
    cases k with
    | zero =>
      rw [List.getElem?_append_left (by have := (List.getElem?_eq_some_iff.1 hu).1; simpa using this)]
      simpa using hu
    | succ k =>
      rw [List.getElem?_append_right (by rw [rc_len]; omega), rc_len]
      have h1 := ih k (by simpa using hk) (by simpa using hu)
      rw [← h1]
      congr 1
      omega
/-- a row of these can be read -/
theorem SP.recs (h : SP W wr g n rows vs) (i : Nat) (hi : i < n) : ∃ ad cap, vs.getD i undef = .slice ad ((rows.getD i []).map (·.1)).length cap ∧ Recs wr ad ((rows.getD i []).map (·.1)) := by
  have ho := h.own i hi
  obtain ⟨ad, cap, e⟩ := slice_of_own ho
  refine ⟨ad, cap, by rw [List.length_map]; exact e, fun j hj => ?_⟩
  have hj2 : j < (rows.getD i []).length := by simpa using hj
  rw [e] at ho
  have hrd := Reads.of_own ho
  obtain ⟨b, off, h1, h2, _⟩ := hrd (j * 10) _ (pcells_get _ j hj2 0 _ rfl)
  have hdt := h.data i hi _ (List.getElem_mem hj2)
  obtain ⟨ad2, cap2, e2⟩ := slice_of_own hdt
  rw [List.getElem_map]
  refine ⟨b, off, (rows.getD i [])[j].2, h1, h2, fun q u hu => ?_, ⟨ad2, cap2, e2, ?_, ?_⟩⟩
  · obtain ⟨b', off', h3, _, h4⟩ := hrd (j * 10 + q) u (pcells_get _ j hj2 q u hu)
    rw [h1] at h3
    injection h3 with h3
    injection h3 with h5 h6
    subst h5 h6
    rw [← Nat.add_assoc] at h4
    exact h4
  · rw [e2] at hdt
    exact Reads.of_own hdt
  · intro e3
    subst e3
    rw [e2] at hdt
    rcases hdt.2 with ⟨h7, _⟩ | ⟨g', c, cur, h7, _⟩
    · injection h7
    · injection h7 with h8; cases h8
end
def SpreadPost (W : World) (l : List Int) (xs : List Rc) (e : Ending) (W' : World) : Prop :=
  ∃ g rows vs, e = .returned (.slice (some ⟨g, 0, none⟩) l.length l.length) ∧ SP W W' g l.length rows vs ∧ ∀ i, i < l.length → (rows.getD i []).map (·.1) = xs.filter (fun r => tgt l r == i)
theorem SP.start (W : World) (n : Nat) : SP W (W.alloc (.cells (List.replicate n (Value.slice none 0 0)).toArray 35)) W.heap.size n (List.replicate n []) (List.replicate n (.slice none 0 0)) := by
  have hv : ∀ i, i < n → (List.replicate n (Value.slice none 0 0)).getD i undef = .slice none 0 0 := fun i hi => by simp [List.getD_eq_getElem?_getD, hi]
  have hr : ∀ i, (List.replicate n ([] : List (Rc × Value))).getD i [] = [] := fun i => by
    rw [List.getD_eq_getElem?_getD, List.getElem?_replicate]
    split <;> rfl
  exact ⟨(Below.refl _ _).alloc (Nat.le_refl _) _, Nat.le_refl _, heap_alloc_new _ _, by simp, by simp, fun i hi => by rw [hv i hi, hr]; exact World.ownsRow_nil _ _ _ _, fun i hi pr hp => by rw [hr] at hp; simp at hp, fun i j b hi hj _ e => by rw [hv i hi] at e; cases e⟩
theorem info35p : (Try.prog.info? 35).map (fun i => (i.zero, i.size, i.bytes)) = some (some (.slice none 0 0), 1, 24) := by kernel_rfl
theorem make35 (w : World) (n : Nat) (hn : n ≤ 1000) : (Instr.makeSlice 40 (.int .i64 n) (.int .i64 n)).run Try.prog w = .ok (.slice (some ⟨w.heap.size, 0, none⟩) n n) (w.alloc (.cells (List.replicate n (Value.slice none 0 0)).toArray 35)) := by
  obtain ⟨i0, hi, hz0, hz1, hz2⟩ := info_parts info35p
  have h := run_make (P := Try.prog) w 40 35 i0 _ Try.underlying40 hi hz0 .i64 .i64 (n : Int) (n : Int) (by omega) (by omega) (by rw [hz2]; omega) (by omega)
  rw [h]
  have e : madeCells (Value.slice none 0 0).cells ((n : Int).toNat * i0.size) = (List.replicate n (Value.slice none 0 0)).toArray := by
    rw [hz1]
    apply Array.ext'
    apply List.ext_getElem
    · simp [madeCells]
    · intro i h1 h2
      have h3 : (Value.slice none 0 0).cells = #[.slice none 0 0] := rfl
      simp [madeCells, h3, Nat.mod_one]
  rw [e]
  simp
theorem rec_at {w : World} {a1 a2 a3 a4 a5 a6 a7 a8 a9 a10 : Value} : ∀ j u, [a1, a2, a3, a4, a5, a6, a7, a8, a9, a10][j]? = some u → (w.alloc (.cells [a1, a2, a3, a4, a5, a6, a7, a8, a9, a10].toArray 53)).cell? ((⟨w.heap.size, 0, none⟩ : Addr).add j) = some u := fun j u hu => by
  rw [Addr.add_lit, Nat.zero_add, World.cell?_alloc_new, List.getElem?_toArray]
  exact hu
theorem rec_one {a b c d e f g i : Int} {h : Bool} {ad : Option Addr} {n m : Nat} : ∀ u ∈ [Value.int .i64 a, .int .i64 b, .int .i64 c, .int .i64 d, .int .i64 e, .int .i64 f, .int .i64 g, .bool h, .int .i64 i, .slice ad n m], u.oneCell' = true := by
  intro u hu
  simp only [List.mem_cons, List.not_mem_nil, or_false] at hu
  rcases hu with rfl | rfl | rfl | rfl | rfl | rfl | rfl | rfl | rfl | rfl <;> rfl
set_option maxHeartbeats 4000000 in
set_option maxRecDepth 20000 in
theorem spread_any (W : World) (A1 A2 : Option Addr) (n1 n2 cap1 cap2 : Nat) (xs : List Rc) (l : List Int) (hn1 : n1 = xs.length) (hn2 : n2 = l.length) (hl1 : n1 ≤ 1000) (hl2 : n2 ≤ 1000) (h0 : n2 ≠ 0) (hd : ∀ r ∈ xs, r.data.length ≤ 1000) (hr1 : Recs W A1 xs) (hr2 : Reads W A2 (ints l)) :
    Calls Try.prog 25 #[.slice A1 n1 cap1, .slice A2 n2 cap2] W (SpreadPost W l xs) := by
  have HN1 := Lib.hid hn1
  have HN2 := Lib.hid hn2
  have HD := Lib.hid hd
  have HR1 := Lib.hid hr1
  have HR2 := Lib.hid hr2
  obtain ⟨i0, hi0, hz0, hz1, hz2⟩ := info_parts info53p
  have hu53 := Try.underlying53
  have c0 : ((n2 : Int) == 0) = false := by simp; omega
  have HS0 := Lib.hid (SP.start W n2)
  obtain ⟨W1, hW1⟩ : ∃ W1, W.alloc (.cells (List.replicate n2 (Value.slice none 0 0)).toArray 35) = W1 := ⟨_, rfl⟩
  rw [hW1] at HS0
  have HW1 := Lib.hid hW1
  have hmk := make35 W n2 hl2
  rw [hW1] at hmk
  clear hn1 hn2 hd hr1 hr2 hW1
  go_enter Try.func25, Try.ntmps25
  go_wp2
  go_loopw [19] (fun i wr => ∃ j : Nat, j ≤ n1 ∧ i = .int .i64 j ∧ ∃ rows vs, SP W wr W.heap.size n2 rows vs ∧ ∀ i, i < n2 → (rows.getD i []).map (·.1) = (xs.take j).filter (fun r => tgt l r == i)) (fun i _ => n1 - (intOf i).toNat)
  case atStart =>
    refine ⟨0, Nat.zero_le _, rfl, _, _, HS0.out, fun i hi => ?_⟩
    rw [List.getD_eq_getElem?_getD, List.getElem?_replicate, if_pos hi]
    simp
  case round =>
    obtain ⟨j, hj, rfl, rows, vs, hSP, hrows⟩ := hrel
    have HSP := Lib.hid hSP
    have HROWS := Lib.hid hrows
    clear hSP hrows
    by_cases hlt : j < n1
    · have hjx : j < xs.length := by rw [← HN1.out]; exact hlt
      have i1 : (j : Int) < (n1 : Int) := by omega
      obtain ⟨b, off, v, rfl, hb, hcl, hdv⟩ := (HR1.out.below HSP.out.bel) j hjx
      have HDL := Lib.hid (HD.out _ (List.getElem_mem hjx))
      obtain ⟨r, hr⟩ : ∃ r, xs[j] = r := ⟨_, rfl⟩
      rw [hr] at hcl hdv HDL
      have HR := Lib.hid hr
      obtain ⟨ad, cap, hv, hrd, hA⟩ := hdv
      have HDV := Lib.hid (⟨ad, cap, hv, hrd, hA⟩ : DataV wr v r.data)
      obtain ⟨dl, hdl⟩ : ∃ dl, r.data.length = dl := ⟨_, rfl⟩
      rw [hdl] at hv HDL
      subst hv
      obtain ⟨q, hq⟩ : ∃ q, tgt l r = q := ⟨_, rfl⟩
      have htg := tgt_idx l r (by rw [← HN2.out]; exact h0)
      rw [hq, ← HN2.out] at htg
      have HTG := Lib.hid htg.1
      have hqn := htg.2
      obtain ⟨mn, hmn⟩ : ∃ mn, minL (ofL r.nums) l = mn := ⟨_, rfl⟩
      rw [hmn] at HTG
      have HOF := Lib.hid (fun w => of57_any w r (.slice ad dl cap) rfl)
      have HPE := Lib.hid (fun (w : World) (hb : Below W.heap.size W w) => peer_any w (ofL r.nums) (key_of _) A2 n2 cap2 l HN2.out (by omega) (HR2.out.below hb))
      rw [hmn] at HPE
      have HIX := Lib.hid (fun (w : World) (hb : Below W.heap.size W w) => index_any w A2 n2 cap2 l mn HN2.out (by omega) (HR2.out.below hb))
      rw [HTG.out] at HIX
      have HQ := Lib.hid hq
      obtain ⟨key, hkey⟩ : ∃ key, ofL r.nums = key := ⟨_, rfl⟩
      rw [hkey] at HOF HPE
      have HRLEN := Lib.hid hdl
      obtain ⟨peer, number, s1, s2, s3, bl, es, gn, ti, dt⟩ := r
      have HG := Lib.hid (show wr.rangeAt b (off + j * 10) [.int .i64 peer, .int .i64 number, .int .i64 s1, .int .i64 s2, .int .i64 s3, .int .i64 bl, .int .i64 es, .bool gn, .int .i64 ti, .slice ad dl cap] from hcl)
      replace HOF : Hid (∀ w : World, Calls Try.prog 57 #[.agg ([.int .i64 peer, .int .i64 number, .int .i64 s1, .int .i64 s2, .int .i64 s3, .int .i64 bl, .int .i64 es, .bool gn, .int .i64 ti, .slice ad dl cap] : List Value).toArray] w fun e W' => e = .returned (.agg (kv key)) ∧ Below w.heap.size w W') := HOF
      obtain ⟨w0, hw0⟩ : ∃ w0, wr.alloc (.cells #[.int .i64 peer, .int .i64 number, .int .i64 s1, .int .i64 s2, .int .i64 s3, .int .i64 bl, .int .i64 es, .bool gn, .int .i64 ti, .slice ad dl cap] 53) = w0 := ⟨_, rfl⟩
      have hb0 : Below wr.heap.size wr w0 := by rw [← hw0]; exact (Below.refl _ _).alloc (Nat.le_refl _) _
      have hrow : w0.heap[wr.heap.size]? = some (.cells ([.int .i64 peer, .int .i64 number, .int .i64 s1, .int .i64 s2, .int .i64 s3, .int .i64 bl, .int .i64 es, .bool gn, .int .i64 ti, .slice ad dl cap] : List Value).toArray 53 (0, 0)) := by rw [← hw0, heap_alloc_new]
      have hi53 : (Try.prog.info? 53).map (·.size) = some ([.int .i64 peer, .int .i64 number, .int .i64 s1, .int .i64 s2, .int .i64 s3, .int .i64 bl, .int .i64 es, .bool gn, .int .i64 ti, .slice ad dl cap] : List Value).toArray.size := info53
      have hgw := lt_of_block hrow
      have HROW := Lib.hid hrow
      have HB0 := Lib.hid hb0
      clear hr hcl hmn htg hq hkey hdl hrd hA hb0 hrow
      go_wp2_with (first | (refine wpList_load_mid rfl 53 (.tmp 21) rfl b (off + j * 10) rfl [.int .i64 peer, .int .i64 number, .int .i64 s1, .int .i64 s2, .int .i64 s3, .int .i64 bl, .int .i64 es, .bool gn, .int .i64 ti, .slice ad dl cap] _ HG.out hu53 rfl info53 ?_) | (refine wpList_load_row rfl 53 (.tmp 7) rfl wr.heap.size rfl 53 ([.int .i64 peer, .int .i64 number, .int .i64 s1, .int .i64 s2, .int .i64 s3, .int .i64 bl, .int .i64 es, .bool gn, .int .i64 ti, .slice ad dl cap] : List Value).toArray (0, 0) _ HROW.out hu53 rfl hi53 ?_))
      refine (HOF.out _).mono ?_
      rintro e w1 ⟨rfl, hb1⟩
      have hbw1 : Below wr.heap.size wr w1 := HB0.out.trans (hb1.mono HB0.out.size)
      have HBW1 := Lib.hid hbw1
      have HR1' := Lib.hid ((hb1.block wr.heap.size hgw).trans HROW.out)
      have HPE1 := Lib.hid (HPE.out w1 (HSP.out.bel.trans (hbw1.mono HSP.out.bel.size)))
      clear hb1 hbw1
      go_wp2_with fail
      refine HPE1.out.mono ?_
      rintro e w2 ⟨rfl, hb2⟩
      have hbw2 : Below wr.heap.size wr w2 := HBW1.out.trans (hb2.mono HBW1.out.size)
      have HBW2 := Lib.hid hbw2
      have HR2' := Lib.hid ((hb2.block wr.heap.size (lt_of_block HR1'.out)).trans HR1'.out)
      have HIX2 := Lib.hid (HIX.out w2 (HSP.out.bel.trans (hbw2.mono HSP.out.bel.size)))
      clear hb2 hbw2
      go_wp2_with fail
      refine HIX2.out.mono ?_
      rintro e w3 ⟨rfl, hb3⟩
      have hbw3 : Below wr.heap.size wr w3 := HBW2.out.trans (hb3.mono HBW2.out.size)
      have HBW3 := Lib.hid hbw3
      have hr3 := (hb3.block wr.heap.size (lt_of_block HR2'.out)).trans HR2'.out
      have HR3' := Lib.hid hr3
      have c9 : w3.cell? ⟨wr.heap.size, 9, none⟩ = some (.slice ad dl cap) := by rw [cell_of_blk hr3]; rfl
      have HCL := Lib.hid (clone59_any w3 (.slice ad dl cap) dt (DataV.below (W := wr) (v := .slice ad dl cap) (d := dt) HDV.out hbw3) (by have := HRLEN.out; have := HDL.out; omega))
      clear hb3 hbw3 hr3
      go_wp2_with fail
      refine HCL.out.mono ?_
      rintro e w5 ⟨ad', cap', rfl, ho5, hb5⟩
      rw [HRLEN.out] at ho5 ⊢
      have hbw5 : Below wr.heap.size wr w5 := HBW3.out.trans (hb5.mono HBW3.out.size)
      have hr5 := (hb5.block wr.heap.size (lt_of_block HR3'.out)).trans HR3'.out
      have c95 : w5.cell? ⟨wr.heap.size, 9, none⟩ = some (.slice ad dl cap) := by rw [cell_of_blk hr5]; rfl
      have f95 : w5.frozen? ⟨wr.heap.size, 9, none⟩ = false := free_of_blk hr5
      obtain ⟨w6, hw6⟩ : ∃ w6, w5.setCell ⟨wr.heap.size, 9, none⟩ (.slice ad' dl cap') = w6 := ⟨_, rfl⟩
      have hr6 : w6.heap[wr.heap.size]? = some (.cells ([.int .i64 peer, .int .i64 number, .int .i64 s1, .int .i64 s2, .int .i64 s3, .int .i64 bl, .int .i64 es, .bool gn, .int .i64 ti, .slice ad' dl cap'] : List Value).toArray 53 (0, 0)) := by rw [← hw6]; exact blk_setCell hr5 9 _
      have ho6 : w6.ownsRow 0 5 1 (.slice ad' dl cap') dl (cv dt) := by
        rw [← hw6]
        refine ownsRow_setCell_other ⟨ho5.1, ?_⟩ (fun e => own_ne ho5 hr5 (by decide) e) _
        rcases ho5.2 with h4 | ⟨g, c, cur, h4, h5, h6⟩
        · exact .inl h4
        · exact .inr ⟨g, c, cur, h4, by omega, h6⟩
      have hbw6 : Below wr.heap.size wr w6 := by rw [← hw6]; exact hbw5.setCell (Nat.le_refl _) _
      have hb9 : Below wr.heap.size wr w6.drew := Below.drew hbw6
      have h9 := HSP.out.keep hb9
      obtain ⟨adq, cq, hvq⟩ := slice_of_own (h9.own q hqn)
      obtain ⟨rq, hrq⟩ : ∃ rq, (rows.getD q []).length = rq := ⟨_, rfl⟩
      have hrq1000 : rq ≤ 1000 := by
        have h1 := congrArg List.length (HROWS.out q hqn)
        rw [List.length_map, hrq] at h1
        have h2 := List.length_filter_le (fun r => tgt l r == q) (xs.take j)
        rw [List.length_take] at h2
        omega
      rw [hrq] at hvq
      have hvl : vs[q]? = some (.slice adq rq cq) := by
        have := h9.lv
        rw [List.getD_eq_getElem?_getD, List.getElem?_eq_getElem (by omega)] at hvq
        rw [List.getElem?_eq_getElem (by omega)]
        exact congrArg some hvq
      have hS0 : w6.drew.cell? ⟨W.heap.size, q, none⟩ = some (.slice adq rq cq) ∧ w6.drew.rangeAt wr.heap.size 0 [.int .i64 peer, .int .i64 number, .int .i64 s1, .int .i64 s2, .int .i64 s3, .int .i64 bl, .int .i64 es, .bool gn, .int .i64 ti, .slice ad' dl cap'] := ⟨by rw [cell_of_blk h9.blk, List.getElem?_toArray]; exact hvl, fun j' u hj' => by rw [Nat.zero_add, cell_of_row w6.drew _ j' _ _ _ hr6, List.getElem?_toArray]; exact hj'⟩
      have how := h9.own q hqn
      rw [hvq, hrq] at how
      have ow1 : (w6.drew.alloc (.cells ([.int .i64 peer, .int .i64 number, .int .i64 s1, .int .i64 s2, .int .i64 s3, .int .i64 bl, .int .i64 es, .bool gn, .int .i64 ti, .slice ad' dl cap'] : List Value).toArray 53)).ownsRow W.heap.size 53 10 (.slice adq rq cq) rq (pcells (rows.getD q [])) := how.alloc _
      have hge9 : W.heap.size ≤ (w6.drew.alloc (.cells ([.int .i64 peer, .int .i64 number, .int .i64 s1, .int .i64 s2, .int .i64 s3, .int .i64 bl, .int .i64 es, .bool gn, .int .i64 ti, .slice ad' dl cap'] : List Value).toArray 53)).heap.size := by have := h9.bel.size; rw [World.size_alloc]; omega
      have hne9 := own_ne how h9.blk (by decide)
      have hbk9 : (w6.drew.alloc (.cells ([.int .i64 peer, .int .i64 number, .int .i64 s1, .int .i64 s2, .int .i64 s3, .int .i64 bl, .int .i64 es, .bool gn, .int .i64 ti, .slice ad' dl cap'] : List Value).toArray 53)).heap[W.heap.size]? = some (.cells vs.toArray 35 (0, 0)) := by rw [heap_alloc_old _ _ (lt_of_block h9.blk)]; exact h9.blk
      have HC7 := Lib.hid (fun (w7 : World) (T : Turns (fun k => (Value.slice adq rq cq).ownBlock = some k) (w6.drew.alloc (.cells ([.int .i64 peer, .int .i64 number, .int .i64 s1, .int .i64 s2, .int .i64 s3, .int .i64 bl, .int .i64 es, .bool gn, .int .i64 ti, .slice ad' dl cap'] : List Value).toArray 53)) w7) => (show w7.cell? ⟨W.heap.size, q, none⟩ = some (.slice adq rq cq) by rw [cell_of_blk (T.keep hbk9 (fun e => hne9 e)), List.getElem?_toArray]; exact hvl))
      have HF7 := Lib.hid (fun (w7 : World) (T : Turns (fun k => (Value.slice adq rq cq).ownBlock = some k) (w6.drew.alloc (.cells ([.int .i64 peer, .int .i64 number, .int .i64 s1, .int .i64 s2, .int .i64 s3, .int .i64 bl, .int .i64 es, .bool gn, .int .i64 ti, .slice ad' dl cap'] : List Value).toArray 53)) w7) => (free_of_blk (T.keep hbk9 (fun e => hne9 e)) : w7.frozen? ⟨W.heap.size, q, none⟩ = false))
      have HPUT := Lib.hid (fun (w7 : World) (v7 : Value) (ow7 : w7.ownsRow W.heap.size 53 10 v7 (rq + 1) (pcells (rows.getD q []) ++ [.int .i64 peer, .int .i64 number, .int .i64 s1, .int .i64 s2, .int .i64 s3, .int .i64 bl, .int .i64 es, .bool gn, .int .i64 ti, .slice ad' dl cap'])) (T : Turns (fun k => (Value.slice adq rq cq).ownBlock = some k) (w6.drew.alloc (.cells ([.int .i64 peer, .int .i64 number, .int .i64 s1, .int .i64 s2, .int .i64 s3, .int .i64 bl, .int .i64 es, .bool gn, .int .i64 ti, .slice ad' dl cap'] : List Value).toArray 53)) w7) (F : Fresh (w6.drew.alloc (.cells ([.int .i64 peer, .int .i64 number, .int .i64 s1, .int .i64 s2, .int .i64 s3, .int .i64 bl, .int .i64 es, .bool gn, .int .i64 ti, .slice ad' dl cap'] : List Value).toArray 53)) (.slice adq rq cq) v7) =>
        h9.put hqn ⟨peer, number, s1, s2, s3, bl, es, gn, ti, dt⟩ (.slice ad' dl cap') v7 (.cells ([.int .i64 peer, .int .i64 number, .int .i64 s1, .int .i64 s2, .int .i64 s3, .int .i64 bl, .int .i64 es, .bool gn, .int .i64 ti, .slice ad' dl cap'] : List Value).toArray 53) (by have := HRLEN.out; show w6.drew.ownsRow 0 5 1 (.slice ad' dl cap') dt.length (cv dt); rw [show dt.length = dl from this]; exact ho6) (by rw [hrq]; exact ow7) (by rw [hvq]; exact T) (by rw [hvq]; exact F))
      have iq : (q : Int) < (n2 : Int) := by omega
      clear ho5 hb5 hbw5 hr5 ho6 hbw6 hb9 h9 how hne9 hbk9 hvl hvq hr6
      have HS0' := Lib.hid hS0
      have HOW1 := Lib.hid ow1
      have HGE9 := Lib.hid hge9
      clear hS0 ow1 hge9
      go_wp2
      have hS0 := HS0'.out
      have ow1 := HOW1.out
      have hge9 := HGE9.out
      refine start_ (n := 11) (S := fun w' => w'.cell? ⟨W.heap.size, q, none⟩ = some (.slice adq rq cq) ∧ w'.rangeAt wr.heap.size 0 [.int .i64 peer, .int .i64 number, .int .i64 s1, .int .i64 s2, .int .i64 s3, .int .i64 bl, .int .i64 es, .bool gn, .int .i64 ti, .slice ad' dl cap']) (ds := [8, 10]) #[false, false, false, false, false, false, false, false, false, false, false] (by kernel_rfl) rfl rfl (hS0) (fun hHeld => ?_)
      generalize hW9 : w6.drew = W9 at *
      refine pure_ (i := 0) (N := some 37) (v := ?_) (a' := ?_) #[true, false, false, false, false, false, false, false, false, false, false] rfl rfl (by kernel_rfl) (fun _ _ _ h => h) (Or.inl ⟨by rfl, ?_⟩) ?_ ?_
      rotate_left
      · intro w'
        go_simp
        with_reducible rfl
      rotate_left
      · simp only [Act.put, List.setIfInBounds_toArray, List.set_cons_zero, List.set_cons_succ]
        rfl
      refine pure_ (i := 1) (N := some 38) (v := ?_) (a' := ?_) #[true, true, false, false, false, false, false, false, false, false, false] rfl rfl (by kernel_rfl) (fun _ _ _ h => h) (Or.inl ⟨by rfl, ?_⟩) ?_ ?_
      rotate_left
      · intro w'
        go_simp
        with_reducible rfl
      rotate_left
      · simp only [Act.put, List.setIfInBounds_toArray, List.set_cons_zero, List.set_cons_succ]
        rfl
      refine pure_ (i := 2) (N := some 39) (v := ?_) (a' := ?_) #[true, true, true, false, false, false, false, false, false, false, false] rfl rfl (by kernel_rfl) (fun _ _ _ h => h) (Or.inl ⟨by rfl, ?_⟩) ?_ ?_
      rotate_left
      · intro w'
        go_simp
        with_reducible rfl
      rotate_left
      · simp only [Act.put, List.setIfInBounds_toArray, List.set_cons_zero, List.set_cons_succ]
        rfl
      refine pure_ (i := 3) (N := some 40) (v := ?_) (a' := ?_) #[true, true, true, true, false, false, false, false, false, false, false] rfl rfl (by kernel_rfl) (fun _ _ _ h => h) (Or.inl ⟨by rfl, ?_⟩) ?_ ?_
      rotate_left
      · intro w'
        go_simp
        with_reducible rfl
      rotate_left
      · simp only [Act.put, List.setIfInBounds_toArray, List.set_cons_zero, List.set_cons_succ]
        rfl
      refine pure_ (i := 4) (N := some 41) (v := ?_) (a' := ?_) #[true, true, true, true, true, false, false, false, false, false, false] rfl rfl (by kernel_rfl) (fun _ _ _ h => h) (Or.inl ⟨by rfl, ?_⟩) ?_ ?_
      rotate_left
      · intro w'
        go_simp
        with_reducible rfl
      rotate_left
      · simp only [Act.put, List.setIfInBounds_toArray, List.set_cons_zero, List.set_cons_succ]
        rfl
      refine take_ (i := 5) (N := some 42) (v := ?_) (a' := ?_) #[true, true, true, true, true, true, false, false, false, false, false] rfl rfl (by kernel_rfl) (fun _ _ _ h => h) (Or.inl ⟨by rfl, ?_⟩) hHeld ?_ ?_
      rotate_left
      · intro w' hSw
        obtain ⟨h1, h2⟩ := hSw
        go_simp
        with_reducible rfl
      rotate_left
      · simp only [Act.put, List.setIfInBounds_toArray, List.set_cons_zero, List.set_cons_succ]
        rfl
      refine take_ (i := 6) (N := some 43) (v := .agg [.int .i64 peer, .int .i64 number, .int .i64 s1, .int .i64 s2, .int .i64 s3, .int .i64 bl, .int .i64 es, .bool gn, .int .i64 ti, .slice ad' dl cap'].toArray) (a' := ?_) #[true, true, true, true, true, true, true, false, false, false, false] rfl rfl (by kernel_rfl) (fun _ _ _ h => h) (yieldsIf_load_mid (by rfl) _ _ rfl _ _ rfl _ _ (fun w' s => s.2) hu53 rfl info53) hHeld ?_ ?_
      rotate_left
      · simp only [Act.put, List.setIfInBounds_toArray, List.set_cons_zero, List.set_cons_succ]
        rfl
      refine one_ (i := 7) (N := some 44) #[true, true, true, true, true, true, true, true, false, false, false] rfl rfl (by kernel_rfl) (by decide) (fun K hK => ?_)
      refine value_ (by rfl) rfl (exec_buildOne _ 35 (.tmp 43) rfl 53 10 _ [.int .i64 peer, .int .i64 number, .int .i64 s1, .int .i64 s2, .int .i64 s3, .int .i64 bl, .int .i64 es, .bool gn, .int .i64 ti, .slice ad' dl cap'].toArray rfl Try.underlying35 info53 (zero53 _) rfl (by decide) (by decide)) ?_
      refine hK.out _ _ ⟨by rw [World.cell?_alloc_some _ _ _ (by rw [hHeld.1]; rfl)]; exact hHeld.1, World.rangeAt_alloc hHeld.2 _⟩ (fun hHeld => ?_)
      clear hK K
      refine norm_ (a' := ?_) ?_ ?_
      rotate_left
      · (try unfold Act.put); (try simp only [putAll, Act.put, List.setIfInBounds_toArray, List.set_cons_zero, List.set_cons_succ])
        rfl
      refine last_ (i := 8) (N := some 45) #[true, true, true, true, true, true, true, true, true, false, false] rfl rfl (by kernel_rfl) (by decide) (fun K hK => ?_)
      rw [if_pos (by rfl)]
      refine wp_row_append _ (.tmp 42) (.tmp 44) 35 rfl W.heap.size hge9 53 i0 _ 10 96 Try.underlying35 hi0 hz0 hz1 hz2 rfl (by decide) (.slice adq rq cq) rq _ rfl ow1 ⟨W9.heap.size, 0, none⟩ 1 1 [.int .i64 peer, .int .i64 number, .int .i64 s1, .int .i64 s2, .int .i64 s3, .int .i64 bl, .int .i64 es, .bool gn, .int .i64 ti, .slice ad' dl cap'] rfl rfl rec_at rec_one (by omega) (by decide) ?_
      intro v7 w7 ow7 hg7 hf7
      obtain ⟨ad8, cap8, rfl⟩ := slice_of_own ow7
      have hfin := HPUT.out w7 _ ow7 hg7 hf7
      have c7 := HC7.out w7 hg7
      have f7 := HF7.out w7 hg7
      have HFIN := Lib.hid hfin
      clear ow7 hg7 hf7 hfin ow1 hHeld
      refine hK.out _ _ ?_
      clear hK K
      refine norm_ (a' := ?_) ?_ ?_
      rotate_left
      · (try unfold Act.put); (try simp only [putAll, Act.put, List.setIfInBounds_toArray, List.set_cons_zero, List.set_cons_succ])
        rfl
      refine pure_ (i := 9) (N := some 46) (v := ?_) (a' := ?_) #[true, true, true, true, true, true, true, true, true, true, false] rfl rfl (by kernel_rfl) (fun _ _ _ h => h) (Or.inl ⟨by rfl, ?_⟩) ?_ ?_
      rotate_left
      · intro w'
        go_simp
        with_reducible rfl
      rotate_left
      · simp only [Act.put, List.setIfInBounds_toArray, List.set_cons_zero, List.set_cons_succ]
        rfl
      refine last_ (i := 10) (N := none) #[true, true, true, true, true, true, true, true, true, true, true] rfl rfl (by kernel_rfl) (by decide) (fun K hK => ?_)
      go_simp
      refine hK.out _ _ ?_
      clear hK K
      refine done_ (by kernel_rfl) ?_
      go_wp2
      go_roundw
      case rel =>
        refine ⟨j + 1, by omega, by go_num, _, _, HFIN.out, fun i hi => ?_⟩
        rw [getD_set rows q i _ [] (by have := HSP.out.lr; omega), List.take_succ_eq_append_getElem hjx, List.filter_append, HR.out, ← HROWS.out i hi]
        by_cases hqi : q = i
        · subst hqi
          rw [if_pos rfl, List.map_append, List.filter_cons_of_pos (by rw [HQ.out]; simp)]
          rfl
        · rw [if_neg hqi, List.filter_cons_of_neg (by rw [HQ.out]; simpa using hqi)]
          simp
      case measure => simp [intOf]; omega
    · have hjn : j = n1 := by omega
      subst hjn
      have hI : xs.take j = xs := List.take_of_length_le (by rw [← HN1.out]; exact Nat.le_refl _)
      have hrr := HROWS.out
      rw [hI] at hrr
      have HRR := Lib.hid hrr
      clear hrr hI
      go_wp2
      go_ret
      refine ⟨W.heap.size, rows, vs, by rw [← HN2.out]; rfl, by rw [← HN2.out]; exact HSP.out, fun i hi => HRR.out i (by rw [HN2.out]; exact hi)⟩
end Go.Proofs.Ytbkcopejclcfdaa

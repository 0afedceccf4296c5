/- The clean machine's steps on the true world: new blocks, writes, loads, stores. No program is walked here. -/
import Derived.Test.YtkimkgbppegkhaaGreatCmB
import Derived.Laws.IdiomCopy
import Derived.Laws.StructEq
import Derived.ChangeKeysEq
import Derived.WalkKit
namespace Go.Proofs.YtkimkgbppegkhaaGreat.Cm
open Go Go.RowKit

def ins (ε : Env) (n : Nat) (p : Nat × Nat) : Env := fun id => if id = n then some p else ε id
def upd (H : Heap) (id : Nat) (o : Option O) : Heap := fun i => if i = id then o else H i
theorem ins_same (ε : Env) (n : Nat) (p : Nat × Nat) : ins ε n p n = some p := by simp [ins]
theorem ins_ne (ε : Env) {n id : Nat} (p : Nat × Nat) (h : id ≠ n) : ins ε n p id = ε id := by simp [ins, h]
theorem upd_same (H : Heap) (id : Nat) (o : Option O) : upd H id o id = o := by simp [upd]
theorem upd_ne (H : Heap) {id i : Nat} (o : Option O) (h : i ≠ id) : upd H id o i = H i := by simp [upd, h]
theorem le_ins {ε : Env} {n : Nat} (h : ε n = none) (p : Nat × Nat) : Le ε (ins ε n p) := fun id q hq => by
  rw [ins_ne]; exact hq; rintro rfl; rw [h] at hq; cases hq
theorem Rel.name {ε : Env} {H : Heap} {w : World} (R : Rel ε H w) {n : Nat} (h : ε n = none) : H n = none := by
  cases ho : H n with
  | none => rfl
  | some o => obtain ⟨b, K, ob, h1, _⟩ := (R.obj n o ho).env; rw [h] at h1; cases h1
theorem RelF.one {ε : Env} {x : F} {v : Value} (h : RelF ε x v) : v.oneCell' = true := by
  cases x <;> simp only [RelF] at h <;> first
    | (subst h; rfl)
    | (obtain ⟨b, K, _, rfl⟩ := h; rfl)
    | (obtain ⟨b, K, ad, c, _, rfl, _⟩ := h; rfl)
structure NewW (w : World) (ob : Obj) (w' : World) : Prop where
  os : w'.os = w.os
  tape : w'.tape = w.tape
  output : w'.output = w.output
  heap : w'.heap = w.heap.push ob
structure WrW (w : World) (b : Nat) (w' : World) : Prop where
  os : w'.os = w.os
  tape : w'.tape = w.tape
  output : w'.output = w.output
  size : w'.heap.size = w.heap.size
  block : ∀ k, k ≠ b → w'.heap[k]? = w.heap[k]?
theorem NewW.old {w w' : World} {ob : Obj} (h : NewW w ob w') {k : Nat} (hk : k < w.heap.size) : w'.heap[k]? = w.heap[k]? := by
  rw [h.heap, Array.getElem?_push_lt hk, Array.getElem?_eq_getElem hk]
theorem NewW.new {w w' : World} {ob : Obj} (h : NewW w ob w') : w'.heap[w.heap.size]? = some ob := by
  rw [h.heap]; simp
theorem Rel.lt {ε : Env} {H : Heap} {w : World} (R : Rel ε H w) {id b K : Nat} (h : H id ≠ none) (he : ε id = some (b, K)) : b < w.heap.size := Owned.lt R ⟨id, K, h, he⟩
theorem step_new {ε : Env} {H : Heap} {n : Nat} {w w' : World} (R : Rel ε H w) (hf : ε n = none) {o : O} {ob : Obj} {K : Nat} (hw : NewW w ob w')
    (ho : RelO (ins ε n (w.heap.size, K)) w' n o) : Step ε H n w (ins ε n (w.heap.size, K)) (upd H n (some o)) (n + 1) w' where
  le := by omega
  ext := le_ins hf _
  names := fun id h h' => by
    by_cases e : id = n
    · subst e; omega
    · rw [ins_ne _ _ e] at h'; exact absurd h h'
  new := fun id b K' h h' => by
    by_cases e : id = n
    · subst e; rw [ins_same] at h; injection h with h; injection h with h _; exact .inl (by omega)
    · rw [ins_ne _ _ e, h'] at h; cases h
  dom := fun id h => by
    by_cases e : id = n
    · subst e; exact .inr ⟨by omega, by omega, hf⟩
    · rw [upd_ne _ _ e] at h; exact .inl h
  keeps := ⟨hw.os, hw.tape, hw.output, by rw [hw.heap]; simp, fun k hk _ => hw.old hk⟩
  rel := by
    refine ⟨fun id x h => ?_, fun i j b K1 K2 hi hj h1 h2 => ?_⟩
    · by_cases e : id = n
      · subst e; rw [upd_same] at h; cases h; exact ho
      · rw [upd_ne _ _ e] at h
        exact (R.obj id x h).mono (le_ins hf _) fun b K hb => hw.old (R.lt (by simp [h]) hb)
    · by_cases ei : i = n <;> by_cases ej : j = n
      · rw [ei, ej]
      · subst ei
        rw [ins_same] at h1; injection h1 with h1; injection h1 with h1 _
        rw [upd_ne _ _ ej] at hj; rw [ins_ne _ _ ej] at h2
        have := R.lt hj h2; omega
      · subst ej
        rw [ins_same] at h2; injection h2 with h2; injection h2 with h2 _
        rw [upd_ne _ _ ei] at hi; rw [ins_ne _ _ ei] at h1
        have := R.lt hi h1; omega
      · rw [upd_ne _ _ ei] at hi; rw [upd_ne _ _ ej] at hj; rw [ins_ne _ _ ei] at h1; rw [ins_ne _ _ ej] at h2
        exact R.inj i j b K1 K2 hi hj h1 h2
theorem step_write {ε : Env} {H : Heap} {n : Nat} {w w' : World} (R : Rel ε H w) {id b K : Nat} {o' : O} (hid : H id ≠ none) (he : ε id = some (b, K)) (hw : WrW w b w')
    (ho : RelO ε w' id o') : Step ε H n w ε (upd H id (some o')) n w' where
  le := Nat.le_refl _
  ext := Le.refl _
  names := fun _ h h' => absurd h h'
  new := fun _ _ _ h h' => by rw [h'] at h; cases h
  dom := fun i h => by
    by_cases e : i = id
    · subst e; exact .inl hid
    · rw [upd_ne _ _ e] at h; exact .inl h
  keeps := ⟨hw.os, hw.tape, hw.output, by rw [hw.size]; omega, fun k _ hF => hw.block k fun e => by subst e; exact hF ⟨id, K, hid, he⟩⟩
  rel := by
    refine ⟨fun i x h => ?_, fun i j b K1 K2 hi hj h1 h2 => ?_⟩
    · by_cases e : i = id
      · subst e; rw [upd_same] at h; cases h; exact ho
      · rw [upd_ne _ _ e] at h
        refine (R.obj i x h).mono (Le.refl _) fun b' K' hb => hw.block b' fun e' => e ?_
        subst e'
        exact R.inj i id b' K' K (by simp [h]) hid hb he
    · have hh : ∀ i, upd H id (some o') i ≠ none → H i ≠ none := fun i h => by
        by_cases e : i = id
        · subst e; exact hid
        · rw [upd_ne _ _ e] at h; exact h
      exact R.inj i j b K1 K2 (hh i hi) (hh j hj) h1 h2
/-- the old name is given up: what it stood for bears the new one -/
theorem step_rename {ε : Env} {H : Heap} {n : Nat} {w w' : World} (R : Rel ε H w) (hf : ε n = none) {id b K : Nat} {o' : O} (hid : H id ≠ none) (he : ε id = some (b, K)) (hw : WrW w b w')
    (ho : RelO (ins ε n (b, K)) w' n o') : Step ε H n w (ins ε n (b, K)) (upd (upd H id none) n (some o')) (n + 1) w' where
  le := by omega
  ext := le_ins hf _
  names := fun id h h' => by
    by_cases e : id = n
    · subst e; omega
    · rw [ins_ne _ _ e] at h'; exact absurd h h'
  new := fun i b' K' h h' => by
    by_cases e : i = n
    · subst e; rw [ins_same] at h; injection h with h; injection h with h _; subst h; exact .inr ⟨id, K, hid, he⟩
    · rw [ins_ne _ _ e, h'] at h; cases h
  dom := fun i h => by
    by_cases e : i = n
    · subst e; exact .inr ⟨by omega, by omega, hf⟩
    · rw [upd_ne _ _ e] at h
      by_cases e' : i = id
      · subst e'; exact .inl hid
      · rw [upd_ne _ _ e'] at h; exact .inl h
  keeps := ⟨hw.os, hw.tape, hw.output, by rw [hw.size]; omega, fun k _ hF => hw.block k fun e => by subst e; exact hF ⟨id, K, hid, he⟩⟩
  rel := by
    refine ⟨fun i x h => ?_, fun i j b' K1 K2 hi hj h1 h2 => ?_⟩
    · by_cases e : i = n
      · subst e; rw [upd_same] at h; cases h; exact ho
      · rw [upd_ne _ _ e] at h
        by_cases e' : i = id
        · subst e'; rw [upd_same] at h; cases h
        · rw [upd_ne _ _ e'] at h
          refine (R.obj i x h).mono (le_ins hf _) fun b' K' hb => hw.block b' fun e'' => e' ?_
          subst e''
          exact R.inj i id b' K' K (by simp [h]) hid hb he
    · have hh : ∀ i, i ≠ n → upd (upd H id none) n (some o') i ≠ none → H i ≠ none ∧ i ≠ id := fun i hn h => by
        rw [upd_ne _ _ hn] at h
        by_cases e : i = id
        · subst e; rw [upd_same] at h; exact absurd rfl h
        · rw [upd_ne _ _ e] at h; exact ⟨h, e⟩
      by_cases ei : i = n <;> by_cases ej : j = n
      · rw [ei, ej]
      · subst ei
        rw [ins_same] at h1; injection h1 with h1; injection h1 with h1 _; subst h1
        obtain ⟨h3, h4⟩ := hh j ej hj
        rw [ins_ne _ _ ej] at h2
        exact absurd (R.inj j id b K2 K h3 hid h2 he) h4
      · subst ej
        rw [ins_same] at h2; injection h2 with h2; injection h2 with h2 _; subst h2
        obtain ⟨h3, h4⟩ := hh i ei hi
        rw [ins_ne _ _ ei] at h1
        exact absurd (R.inj i id b K1 K h3 hid h1 he) h4
      · obtain ⟨h3, _⟩ := hh i ei hi
        obtain ⟨h4, _⟩ := hh j ej hj
        rw [ins_ne _ _ ei] at h1; rw [ins_ne _ _ ej] at h2
        exact R.inj i j b' K1 K2 h3 h4 h1 h2
/-- a give-up where a new block is made -/
theorem step_drop {ε ε' : Env} {H H' : Heap} {n n' : Nat} {w w' : World} (S : Step ε H n w ε' H' n' w') (id : Nat) (h : ε id ≠ none) : Step ε H n w ε' (upd H' id none) n' w' :=
  S.sub fun i o hi => by
    by_cases e : i = id
    · subst e; rw [upd_same] at hi; cases hi
    · rw [upd_ne _ _ e] at hi; exact hi

theorem addr_add (b o i : Nat) : (⟨b, o, none⟩ : Addr).add i = ⟨b, o + i, none⟩ := by unfold Addr.add; split <;> simp_all
/-- the cells of a name, read -/
theorem cell_at {w : World} {b : Nat} {rcs : Array Value} {elem : TypeId} {fz : Nat × Nat} (h : w.heap[b]? = some (.cells rcs elem fz)) (o : Nat) : w.cell? ⟨b, o, none⟩ = rcs[o]? := by
  simp [World.cell?, h]
theorem all2_at {ε : Env} {cs : List F} {rcs : Array Value} (h : All2 (RelF ε) cs (rcs.toList.take cs.length)) {o : Nat} {x : F} (hx : cs[o]? = some x) : ∃ v, rcs[o]? = some v ∧ RelF ε x v := by
  obtain ⟨v, h1, h2⟩ := h.get o x hx
  refine ⟨v, ?_, h2⟩
  have ho : o < cs.length := by
    rcases Nat.lt_or_ge o cs.length with h' | h'
    · exact h'
    · simp [List.getElem?_eq_none h'] at hx
  rw [List.getElem?_take_of_lt ho] at h1
  simpa using h1
theorem all2_len {ε : Env} {cs : List F} {rcs : Array Value} (h : All2 (RelF ε) cs (rcs.toList.take cs.length)) : cs.length ≤ rcs.size := by
  have := h.length
  simp at this
  omega
theorem run_loadCells_at {P : Program} {w : World} {b off sz : Nat} {rcs : Array Value} {elem : TypeId} {fz : Nat × Nat} (h : w.heap[b]? = some (.cells rcs elem fz)) (hl : off + sz ≤ rcs.size) :
    (loadCells ⟨b, off, none⟩ sz).run P w = .ok ((rcs.toList.drop off).take sz).toArray w := by
  have hlen : ((rcs.toList.drop off).take sz).length = sz := by simp; omega
  have := run_loadCells_list (P := P) w ⟨b, off, none⟩ ((rcs.toList.drop off).take sz) (fun j v hj => by
    rw [addr_add, cell_at h]
    have hj' : j < sz := by
      rcases Nat.lt_or_ge j sz with h' | h'
      · exact h'
      · rw [List.getElem?_eq_none (by simp; omega)] at hj; cases hj
    rw [List.getElem?_take_of_lt hj', List.getElem?_drop] at hj
    simpa using hj)
  rw [hlen] at this
  exact this
theorem setCell_heap {w : World} {b o : Nat} {rcs : Array Value} {elem : TypeId} {fz : Nat × Nat} (h : w.heap[b]? = some (.cells rcs elem fz)) (v : Value) : (w.setCell ⟨b, o, none⟩ v).heap[b]? = some (.cells (rcs.setIfInBounds o v) elem fz) := by
  simp [World.setCell, Array.getElem?_modify, h]
theorem run_storeCells_any {P : Program} {b : Nat} {elem : TypeId} {fz : Nat × Nat} (off : Nat) : ∀ (vs : List Value) (i : Nat) (rcs : Array Value) (w : World), w.heap[b]? = some (.cells rcs elem fz) →
    (fz.1 = fz.2 ∨ rcs.size ≤ fz.1) → off + i + vs.length ≤ rcs.size → (∀ v ∈ vs, v.oneCell' = true) →
    ∃ w', (storeCells ⟨b, off, none⟩ vs i).run P w = .ok () w' ∧ WrW w b w' ∧ w'.heap[b]? = some (.cells (rcs.toList.take (off + i) ++ vs ++ rcs.toList.drop (off + i + vs.length)).toArray elem fz)
  | [], i, rcs, w, h, _, hl, _ => ⟨w, rfl, ⟨rfl, rfl, rfl, rfl, fun _ _ => rfl⟩, by simp [h]⟩
  | v :: r, i, rcs, w, h, hz, hl, h1 => by
    simp only [List.length_cons] at hl
    have hi : off + i < rcs.size := by omega
    have hst : (store ((⟨b, off, none⟩ : Addr).add i) v).run P w = .ok () (w.setCell ⟨b, off + i, none⟩ v) := by
      rw [addr_add, run_store P w _ v _ (h1 v (by simp)), cell_at h]
      have hfz : ¬ (fz.1 ≤ off + i ∧ off + i < fz.2) := by omega
      simp only [Array.getElem?_eq_getElem hi, World.frozen?, h]
      obtain ⟨lo, hi2⟩ := fz
      rw [if_neg (by simpa using hfz)]
    obtain ⟨w', g1, g2, g3⟩ := run_storeCells_any (P := P) off r (i + 1) (rcs.setIfInBounds (off + i) v) (w.setCell ⟨b, off + i, none⟩ v) (setCell_heap h v) (by simpa using hz) (by simp; omega) (fun x hx => h1 x (by simp [hx]))
    refine ⟨w', by simp only [storeCells, Sem.run_bind, hst, Result.andThen_ok, g1], ⟨g2.os, g2.tape, g2.output, by rw [g2.size]; simp [World.setCell], fun k hk => by rw [g2.block k hk]; exact Below.heap_setCell w _ v k hk⟩, ?_⟩
    rw [g3]
    congr 2
    apply Array.ext'
    simp only [Array.toList_setIfInBounds]
    apply List.ext_getElem?
    intro j
    simp only [List.getElem?_append, List.length_append, List.length_take, List.length_set, List.length_cons, Array.length_toList, List.getElem?_take, List.getElem?_drop, List.getElem?_set]
    grind
end Go.Proofs.YtkimkgbppegkhaaGreat.Cm
/- The clean machine's operations are the true ones' (1): values, memory, structs. No program is walked here. -/
namespace Go.Proofs.YtkimkgbppegkhaaGreat.Cm
open Go Go.RowKit

def app (H : Heap) : List (Nat × Option O) → Heap
  | [] => H
  | (i, o) :: r => app (upd H i o) r
/-- the true operation does what the abstract one says -/
def Ok (P : Program) (o : Oper) (ρ : Operand → Value) (ε : Env) (H : Heap) (n : Nat) (w : World) (ef : Ef) : Prop :=
  ∃ rv w' ε', ((execOp ρ o).run P w = .ok (.value rv) w' ∨ ((execOp ρ o).run P w = .ok .skip w' ∧ rv = undef)) ∧ RelV ε' ef.1 rv ∧ Step ε H n w ε' (app H ef.2.1) (n + ef.2.2) w'
section
variable {P : Program} {o : Oper} {ρ : Operand → Value} {ε : Env} {H : Heap} {n : Nat} {w : World}
theorem Ok.pure {v : V} {rv : Value} (R : Rel ε H w) (h : (execOp ρ o).run P w = .ok (.value rv) w) (hv : RelV ε v rv) : Ok P o ρ ε H n w (v, [], 0) :=
  ⟨rv, w, ε, .inl h, hv, by simpa [app] using Step.refl R⟩
theorem ofConstF_rel {v : Value} {x : F} (h : ofConstF v = some x) (ε : Env) : RelF ε x v := by
  unfold ofConstF at h
  split at h <;> first
    | (cases h; rfl)
    | (cases h; simp [RelF]; done)
    | cases h
theorem ofConstFs_rel : ∀ {l : List Value} {xs : List F}, ofConstFs l = some xs → ∀ ε, All2 (RelF ε) xs l
  | [], xs, h, ε => by simp [ofConstFs] at h; subst h; trivial
  | v :: r, xs, h, ε => by
    simp only [ofConstFs] at h
    split at h
    · rename_i x l h1 h2
      cases h
      exact ⟨ofConstF_rel h1 ε, ofConstFs_rel h2 ε⟩
    · cases h
theorem ofConst_rel {v : Value} {x : V} (h : ofConst v = some x) (ε : Env) : RelV ε x v := by
  unfold ofConst at h
  split at h
  · rename_i cs
    simp only [Option.map_eq_some_iff] at h
    obtain ⟨l, h1, rfl⟩ := h
    exact ⟨cs.toList, by simp, ofConstFs_rel h1 ε⟩
  · simp only [Option.map_eq_some_iff] at h
    obtain ⟨l, h1, rfl⟩ := h
    exact ofConstF_rel h1 ε
theorem tiOf_spec {t : TypeId} {ti : TI} (h : tiOf P t = some ti) : ∃ i z, P.info? t = some i ∧ i.zero = some z ∧ i.size = ti.size ∧ i.bytes = ti.bytes ∧ ∀ ε, All2 (RelF ε) ti.zero z.cells.toList := by
  unfold tiOf at h
  split at h
  · rename_i i hi
    split at h
    · rename_i z hz
      split at h
      · rename_i l hl
        cases h
        exact ⟨i, z, hi, hz, rfl, rfl, ofConstFs_rel hl⟩
      · cases h
    · cases h
  · cases h
theorem run_info {t : TypeId} {i : TypeInfo} (h : P.info? t = some i) (w : World) : (typeInfo t).run P w = .ok i w := by simp [typeInfo, h]
theorem run_size {t : TypeId} {i : TypeInfo} (h : P.info? t = some i) (w : World) : (sizeOf t).run P w = .ok i.size w := by simp [sizeOf, run_info h]
theorem run_zero {t : TypeId} {i : TypeInfo} {z : Value} (h : P.info? t = some i) (hz : i.zero = some z) (w : World) : (zeroValue t).run P w = .ok z w := by simp [zeroValue, run_info h, hz]
theorem run_under {t : TypeId} {d : TypeDesc} (h : P.underlying t = some d) (w : World) : (underlying t).run P w = .ok d w := run_underlying h w
theorem sizeT_spec {t : TypeId} {s : Nat} (h : sizeT P t = some s) : ∃ i, P.info? t = some i ∧ i.size = s := by
  unfold sizeT at h
  split at h
  · rename_i i hi; cases h; exact ⟨i, hi, rfl⟩
  · cases h
theorem sliceE_spec {t e : TypeId} (h : sliceE P t = some e) : P.underlying t = some (.slice e) := by
  unfold sliceE at h
  split at h
  · rename_i e' he; cases h; exact he
  · cases h
theorem run_aggB {t : TypeId} {b : Bool} (h : aggB P t = some b) (w : World) : (isAgg t).run P w = .ok b w := by
  unfold aggB at h
  split at h <;> rename_i hu
  · cases h; simp [isAgg, run_under hu]
  · cases h; simp [isAgg, run_under hu]
  · rename_i d h1 h2
    cases h
    simp only [isAgg, Sem.run_bind, run_under hu, Result.andThen_ok]
    rfl
  · cases h
theorem cellsU_rel {x : U} {cs : List F} {v : Value} (h : cellsU x = some cs) (hv : RelU ε x v) : All2 (RelF ε) cs v.cells.toList := by
  cases x with
  | f y =>
    simp only [cellsU] at h; cases h
    have h1 := hv.one
    have : v.cells = #[v] := by cases v <;> first | rfl | (simp [Value.oneCell'] at h1)
    rw [this]
    exact ⟨hv, trivial⟩
  | agg l => simp only [cellsU] at h; cases h; obtain ⟨k, rfl, h2⟩ := hv; simpa [Value.cells] using h2
  | fn g c => simp [cellsU] at h
theorem cellsV_rel {x : V} {cs : List F} {v : Value} (h : cellsV x = some cs) (hv : RelV ε x v) : All2 (RelF ε) cs v.cells.toList := by
  cases x with
  | u y => exact cellsU_rel h hv
  | tup l => simp [cellsV] at h
theorem all2_one {cs : List F} {l : List Value} (h : All2 (RelF ε) cs l) : ∀ v ∈ l, v.oneCell' = true := by
  intro v hv
  obtain ⟨i, hi, rfl⟩ := List.getElem_of_mem hv
  have hl := h.length
  have hi' : i < cs.length := by omega
  obtain ⟨b, h1, h2⟩ := h.get i cs[i] (List.getElem?_eq_getElem hi')
  rw [List.getElem?_eq_getElem hi] at h1
  cases h1
  exact h2.one
/-- a new row of cells -/
theorem new_cells {cs : List F} {vs : List Value} (R : Rel ε H w) (hf : ε n = none) (h : All2 (RelF ε) cs vs) (ex : Bool) (rest : List Value) (hex : ex = true → rest = []) (elem : TypeId) (fz : Nat × Nat) {w' : World}
    (hz : fz.1 = fz.2 ∨ vs.length + rest.length ≤ fz.1) (hw : NewW w (.cells (vs ++ rest).toArray elem fz) w') :
    Step ε H n w (ins ε n (w.heap.size, vs.length + rest.length)) (upd H n (some (.cells cs ex))) (n + 1) w' := by
  refine step_new R hf hw ?_
  refine ⟨w.heap.size, vs.length + rest.length, (vs ++ rest).toArray, elem, fz, ins_same _ _ _, hw.new, by simp, ?_, ?_, hz⟩
  · have := h.length
    have e : (vs ++ rest).take cs.length = vs := by rw [← this]; simp
    show All2 _ cs (List.take cs.length (vs ++ rest))
    rw [e]
    exact h.mono fun _ _ k => RelF.mono (le_ins hf _) k
  · intro he; have := h.length; rw [hex he]; simp; omega
theorem alloc_new (w : World) (ob : Obj) : NewW w ob (w.alloc ob) := ⟨rfl, rfl, rfl, rfl⟩

theorem s_alloc {e : TypeId} {ef : Ef} {r : Operand → Option V} (R : Rel ε H w) (hf : Free ε n (n + ef.2.2)) (ho : o.op = .alloc e) (h : stepOp P o.op r H n = some ef) : Ok P o ρ ε H n w ef := by
  rw [ho] at h
  simp only [stepOp] at h
  split at h
  · rename_i ti hti
    cases h
    obtain ⟨i, z, h1, h2, h3, h4, h5⟩ := tiOf_spec hti
    have S := new_cells (n := n) R (hf n (by omega) (by simp)) (h5 ε) true [] (fun _ => rfl) e (0, 0) (w' := w.alloc (.cells z.cells e)) (by simp) (by simpa using alloc_new w _)
    refine ⟨.pointer (some ⟨w.heap.size, 0, none⟩), _, _, .inl ?_, ?_, by simpa [app] using S⟩
    · simp [execOp, ho, Instr.alloc, run_zero h1 h2, newVar, newRow]
    · exact ⟨w.heap.size, _, ins_same _ _ _, rfl⟩
  · cases h
theorem s_box {e : TypeId} {x : Operand} {ef : Ef} {r : Operand → Option V} (hr : ∀ x u, r x = some u → RelV ε u (ρ x)) (R : Rel ε H w) (hf : Free ε n (n + ef.2.2)) (ho : o.op = .box e x) (h : stepOp P o.op r H n = some ef) : Ok P o ρ ε H n w ef := by
  rw [ho] at h
  simp only [stepOp] at h
  split at h
  · rename_i v hv
    split at h
    · rename_i cs hcs
      cases h
      have hc := cellsV_rel hcs (hr x v hv)
      have S := new_cells (n := n) R (hf n (by omega) (by simp)) hc true [] (fun _ => rfl) e (0, 0) (w' := w.alloc (.cells (ρ x).cells e)) (by simp) (by simpa using alloc_new w _)
      refine ⟨.pointer (some ⟨w.heap.size, 0, none⟩), _, _, .inl ?_, ?_, by simpa [app] using S⟩
      · simp [execOp, ho, Instr.box, newVar, newRow]
      · exact ⟨w.heap.size, _, ins_same _ _ _, rfl⟩
    · cases h
  · cases h
theorem s_load {t : TypeId} {a : Operand} {ef : Ef} {r : Operand → Option V} (hr : ∀ x u, r x = some u → RelV ε u (ρ x)) (R : Rel ε H w) (ho : o.op = .load t a) (h : stepOp P o.op r H n = some ef) : Ok P o ρ ε H n w ef := by
  rw [ho] at h
  simp only [stepOp] at h
  split at h
  · rename_i id off hv
    obtain ⟨b, K, he, ha⟩ := hr a _ hv
    split at h
    · rename_i cs ex sz hc hag hsz
      obtain ⟨i, hi, rfl⟩ := sizeT_spec hsz
      obtain ⟨b', K', rcs, elem, fz, h1, h2, h3, h4, h5, h6⟩ := R.obj id _ hc
      rw [he] at h1; cases h1
      split at h
      · rename_i hle
        cases h
        have hl := all2_len h4
        refine Ok.pure R ?_ ⟨_, rfl, ?_⟩ (rv := .agg ((rcs.toList.drop off).take i.size).toArray)
        · simp only [execOp, ho, Instr.loadAt, ha, Instr.sureAddr, Sem.run_bind, Sem.run_pure, Result.andThen_ok, loadVar, run_aggB hag, if_true, run_size hi, run_loadCells_at h2 (show off + i.size ≤ rcs.size by omega)]
        · have := (h4.drop off).take i.size
          rw [List.drop_take, List.take_take, Nat.min_eq_left (by omega)] at this
          exact this
      · cases h
    · rename_i cs ex sz hc hag hsz
      obtain ⟨b', K', rcs, elem, fz, h1, h2, h3, h4, h5, h6⟩ := R.obj id _ hc
      rw [he] at h1; cases h1
      split at h
      · rename_i x hx
        cases h
        obtain ⟨v, g1, g2⟩ := all2_at h4 hx
        refine Ok.pure R (rv := v) ?_ g2
        simp only [execOp, ho, Instr.loadAt, ha, Instr.sureAddr, Sem.run_bind, Sem.run_pure, Result.andThen_ok, loadVar, run_aggB hag, if_false, Bool.false_eq_true, run_load, cell_at h2, g1]
      · cases h
    · rename_i rcs elem fz sz hc hag hsz
      obtain ⟨b', K', h1, h2, h3⟩ := R.obj id _ hc
      rw [he] at h1; cases h1
      split at h
      · rename_i k nn hx
        cases h
        refine Ok.pure R (rv := .int k nn) ?_ rfl
        simp only [execOp, ho, Instr.loadAt, ha, Instr.sureAddr, Sem.run_bind, Sem.run_pure, Result.andThen_ok, loadVar, run_aggB hag, if_false, Bool.false_eq_true, run_load, cell_at h2, hx]
      · cases h
    · cases h
  · cases h
/-- cells written over others, in the abstract and truly -/
theorem splice_rel {cs new : List F} {rcs : Array Value} {vs : List Value} (off : Nat) (h : All2 (RelF ε) cs (rcs.toList.take cs.length)) (hn : All2 (RelF ε) new vs) (hl : off + new.length ≤ cs.length) :
    (splice cs off new).length = cs.length ∧ All2 (RelF ε) (splice cs off new) ((rcs.toList.take off ++ vs ++ rcs.toList.drop (off + vs.length)).take (splice cs off new).length) := by
  have hlen : (splice cs off new).length = cs.length := by simp [splice]; omega
  refine ⟨hlen, ?_⟩
  have hc := all2_len h
  have hv := hn.length
  have e : (rcs.toList.take off ++ vs ++ rcs.toList.drop (off + vs.length)).take cs.length = rcs.toList.take off ++ vs ++ (rcs.toList.take cs.length).drop (off + vs.length) := by
    rw [List.take_append, List.take_of_length_le (by simp; omega), List.drop_take]
    congr 2
    simp
    omega
  rw [hlen, e, splice]
  refine All2.append (All2.append ?_ hn) ?_
  · have := h.take off
    rwa [List.take_take, Nat.min_eq_left (by omega)] at this
  · have := h.drop (off + vs.length)
    rw [hv] at this ⊢
    exact this
/-- a write of cells: what the world is then -/
theorem write_cells {id off b K : Nat} {cs new : List F} {ex : Bool} {vs : List Value} (R : Rel ε H w) (hc : H id = some (.cells cs ex)) (he : ε id = some (b, K)) (hn : All2 (RelF ε) new vs) (hl : off + new.length ≤ cs.length) :
    ∃ w', (storeCells ⟨b, off, none⟩ vs).run P w = .ok () w' ∧ Step ε H n w ε (upd H id (some (.cells (splice cs off new) ex))) n w' := by
  obtain ⟨b', K', rcs, elem, fz, h1, h2, h3, h4, h5, h6⟩ := R.obj id _ hc
  rw [he] at h1; cases h1
  have hl2 := all2_len h4
  have hv := hn.length
  obtain ⟨w', g1, g2, g3⟩ := run_storeCells_any (P := P) off vs 0 rcs w h2 (by rw [h3]; exact h6) (by simp; omega) (all2_one hn)
  refine ⟨w', g1, step_write R (by simp [hc]) he g2 ?_⟩
  obtain ⟨q1, q2⟩ := splice_rel off h4 hn hl
  refine ⟨b, K, _, elem, fz, he, g3, ?_, ?_, ?_, h6⟩
  · simp; omega
  · simpa using q2
  · intro hx; rw [q1]; exact h5 hx
theorem s_store {t : TypeId} {a x : Operand} {ef : Ef} {r : Operand → Option V} (hr : ∀ x u, r x = some u → RelV ε u (ρ x)) (R : Rel ε H w) (ho : o.op = .store t a x) (h : stepOp P o.op r H n = some ef) : Ok P o ρ ε H n w ef := by
  rw [ho] at h
  simp only [stepOp] at h
  split at h
  · rename_i id off v hv hx
    obtain ⟨b, K, he, ha⟩ := hr a _ hv
    split at h
    · rename_i cs ex new sz hc hcs hsz
      obtain ⟨i, hi, rfl⟩ := sizeT_spec hsz
      split at h
      · rename_i hle
        cases h
        have hn := cellsV_rel hcs (hr x v hx)
        have hnl := hn.length
        obtain ⟨w', g1, g2⟩ := write_cells (P := P) (n := n) (off := off) R hc he hn (by omega)
        refine ⟨undef, w', ε, .inr ⟨?_, rfl⟩, ⟨[], rfl, trivial⟩, by simpa [app] using g2⟩
        have hsz' : (ρ x).cells.size = i.size := by have := hnl; simp at this; omega
        simp only [execOp, ho, Instr.storeAt, ha, Instr.sureAddr, Sem.run_bind, Sem.run_pure, Result.andThen_ok, storeVar, run_size hi, hsz', ne_eq, not_true_eq_false, if_false, g1]
      · cases h
    · cases h
  · cases h
end
end Go.Proofs.YtkimkgbppegkhaaGreat.Cm
/- The clean machine's operations are the true ones' (2): numbers, structs made, addresses, slices. No program is walked here. -/
namespace Go.Proofs.YtkimkgbppegkhaaGreat.Cm
open Go Go.RowKit
theorem All2.of_get {α β : Type} {R : α → β → Prop} : ∀ {l : List α} {k : List β}, k.length = l.length → (∀ (i : Nat) (a : α) (b : β), l[i]? = some a → k[i]? = some b → R a b) → All2 R l k
  | [], [], _, _ => trivial
  | a :: as, b :: bs, hl, h => ⟨h 0 a b (by simp) (by simp), All2.of_get (by simpa using hl) fun i x y hx hy => h (i + 1) x y (by simpa using hx) (by simpa using hy)⟩
  | [], _ :: _, hl, _ => by simp at hl
  | _ :: _, [], hl, _ => by simp at hl
section
variable {P : Program} {o : Oper} {ρ : Operand → Value} {ε : Env} {H : Heap} {n : Nat} {w : World}
theorem fold_set (off : Nat) : ∀ (l : List Value) (k : Nat) (cells : Array Value), off + k + l.length ≤ cells.size →
    ((l.zipIdx k).foldl (fun cs (c : Value × Nat) => cs.setIfInBounds (off + c.2) c.1) cells).toList = cells.toList.take (off + k) ++ l ++ cells.toList.drop (off + k + l.length)
  | [], k, cells, _ => by simp
  | v :: r, k, cells, h => by
    simp only [List.length_cons] at h
    simp only [List.zipIdx_cons, List.foldl_cons]
    rw [fold_set off r (k + 1) _ (by simp; omega)]
    simp only [Array.toList_setIfInBounds]
    apply List.ext_getElem?
    intro j
    simp only [List.getElem?_append, List.length_append, List.length_take, List.length_set, List.length_cons, Array.length_toList, List.getElem?_take, List.getElem?_drop, List.getElem?_set]
    grind
theorem fill_rel (place : Nat → Option (Nat × Nat)) : ∀ (ps : List (Nat × List F)) (qs : List (Nat × Value)) (cells : List F) (rc : Array Value) (res : List F),
    All2 (fun (p : Nat × List F) (q : Nat × Value) => p.1 = q.1 ∧ All2 (RelF ε) p.2 q.2.cells.toList) ps qs → All2 (RelF ε) cells rc.toList → fillA place cells ps = some res →
    ∃ rr, Instr.fill place rc qs = some rr ∧ All2 (RelF ε) res rr.toList
  | [], [], cells, rc, res, _, hc, h => by simp [fillA] at h; subst h; exact ⟨rc, rfl, hc⟩
  | (i, p) :: ps, (j, q) :: qs, cells, rc, res, ⟨⟨h1, h2⟩, h3⟩, hc, h => by
    simp only at h1 h2
    subst h1
    simp only [fillA] at h
    split at h
    · cases h
    · rename_i off size hp
      split at h
      · rename_i hs
        obtain ⟨hs1, hs2⟩ := hs
        have hl := h2.length
        have hcl := hc.length
        simp only [Array.length_toList] at hl hcl
        obtain ⟨rr, g1, g2⟩ := fill_rel place ps qs (splice cells off p) (q.cells.zipIdx.foldl (fun cs (c : Value × Nat) => cs.setIfInBounds (off + c.2) c.1) rc) res h3 (by
          have := fold_set off q.cells.toList 0 rc (by simp; omega)
          simp only [Nat.add_zero] at this
          have e : (q.cells.zipIdx.foldl (fun cs (c : Value × Nat) => cs.setIfInBounds (off + c.2) c.1) rc).toList = ((q.cells.toList.zipIdx 0).foldl (fun cs (c : Value × Nat) => cs.setIfInBounds (off + c.2) c.1) rc).toList := by
            rw [← Array.foldl_toList]; simp
          rw [e, this, splice]
          refine All2.append (All2.append (hc.take off) h2) ?_
          have := hc.drop (off + p.length)
          rw [show p.length = q.cells.size from by omega] at this ⊢
          simpa using this) h
        refine ⟨rr, ?_, g2⟩
        simp only [Instr.fill, hp]
        have hq : ¬ (q.cells.size ≠ size ∨ off + q.cells.size > rc.size) := by omega
        rw [if_neg (by simpa using hq)]
        exact g1
      · cases h
  | [], _ :: _, _, _, _, H, _, _ => H.elim
  | _ :: _, [], _, _, _, H, _, _ => H.elim
theorem parts_rel {r : Operand → Option V} (hr : ∀ x u, r x = some u → RelV ε u (ρ x)) : ∀ (l : List (Nat × Operand)) (ps : List (Nat × List F)), partsA r l = some ps →
    All2 (fun (p : Nat × List F) (q : Nat × Value) => p.1 = q.1 ∧ All2 (RelF ε) p.2 q.2.cells.toList) ps (l.map fun p => (p.1, ρ p.2))
  | [], ps, h => by simp [partsA] at h; subst h; trivial
  | (i, x) :: rest, ps, h => by
    simp only [partsA] at h
    split at h
    · rename_i v l hv hl
      split at h
      · rename_i cs hcs
        cases h
        exact ⟨⟨rfl, cellsV_rel hcs (hr x v hv)⟩, parts_rel hr rest l hl⟩
      · cases h
    · cases h
theorem vals_rel {r : Operand → Option V} (hr : ∀ x u, r x = some u → RelV ε u (ρ x)) : ∀ (l : List Operand) (vs : List V), valsA r l = some vs → All2 (RelV ε) vs (l.map ρ)
  | [], vs, h => by simp [valsA] at h; subst h; trivial
  | x :: rest, vs, h => by
    simp only [valsA] at h
    split at h
    · rename_i v l hv hl
      cases h
      exact ⟨hr x v hv, vals_rel hr rest l hl⟩
    · cases h
theorem repeatL_get (z : List F) : ∀ (k j : Nat), j < k * z.length → (repeatL z k)[j]? = z[j % z.length]?
  | 0, j, h => by omega
  | k + 1, j, h => by
    have hz : 0 < z.length := by
      rcases Nat.eq_zero_or_pos z.length with h' | h'
      · rw [h'] at h; omega
      · exact h'
    rw [Nat.add_mul] at h
    simp only [repeatL]
    by_cases hj : j < z.length
    · rw [List.getElem?_append_left hj, Nat.mod_eq_of_lt hj]
    · rw [List.getElem?_append_right (by omega), repeatL_get z k (j - z.length) (by omega), Nat.mod_eq_sub_mod (a := j) (by omega)]
theorem repeatL_len (z : List F) : ∀ k, (repeatL z k).length = k * z.length
  | 0 => by simp [repeatL]
  | k + 1 => by simp [repeatL, repeatL_len z k, Nat.add_mul]; omega
theorem zeros_rel {z : List F} {rz : Array Value} (h : All2 (RelF ε) z rz.toList) (k sz : Nat) (hz : z.length = sz) : All2 (RelF ε) (repeatL z k) ((Array.range (k * sz)).map (fun i => rz[i % rz.size]!)).toList := by
  have hl := h.length
  simp only [Array.length_toList] at hl
  refine All2.of_get (by simp [repeatL_len, hz]) fun i a b ha hb => ?_
  have hi : i < k * sz := by
    rcases Nat.lt_or_ge i (k * sz) with h' | h'
    · exact h'
    · rw [List.getElem?_eq_none (by rw [repeatL_len, hz]; exact h')] at ha; cases ha
  rw [repeatL_get z k i (by rw [hz]; exact hi)] at ha
  obtain ⟨v, h1, h2⟩ := h.get _ a ha
  have hsz : 0 < rz.size := by
    rcases Nat.eq_zero_or_pos sz with h' | h'
    · rw [h'] at hi; omega
    · omega
  have hm : i % rz.size < rz.size := Nat.mod_lt _ hsz
  rw [hl] at *
  simp only [Array.getElem?_toList] at h1
  have e : rz[i % z.length]! = v := by
    rw [getElem!_def, h1]
  simp only [Array.toList_map, Array.toList_range, List.getElem?_map] at hb
  rw [List.getElem?_range hi] at hb
  simp only [Option.map_some, Option.some.injEq] at hb
  rw [← hb, e]
  exact h2
theorem run_places : ∀ (fs : List Field) (pl : List (Nat × Nat)), fieldsP P fs = some pl → ∀ w : World, (fs.mapM (fun f => do pure (f.offset, ← sizeOf f.type) : Field → Sem (Nat × Nat))).run P w = .ok pl w
  | [], pl, h, w => by simp [fieldsP] at h; subst h; simp
  | f :: r, pl, h, w => by
    simp only [fieldsP] at h
    split at h
    · rename_i i l hi hl
      cases h
      simp only [List.mapM_cons, Sem.run_bind, run_size hi, Result.andThen_ok, Sem.run_pure, run_places r l hl]
    · cases h
theorem s_build {t : TypeId} {parts : Array (Nat × Operand)} {ef : Ef} {r : Operand → Option V} (hr : ∀ x u, r x = some u → RelV ε u (ρ x)) (R : Rel ε H w) (ho : o.op = .build t parts) (h : stepOp P o.op r H n = some ef) : Ok P o ρ ε H n w ef := by
  rw [ho] at h
  simp only [stepOp] at h
  split at h
  · rename_i ti ps hti hps
    obtain ⟨i, z, h1, h2, h3, h4, h5⟩ := tiOf_spec hti
    have hp := parts_rel hr _ _ hps
    split at h
    · rename_i fs hu
      split at h
      · rename_i pl hpl
        simp only [Option.map_eq_some_iff] at h
        obtain ⟨cs, hcs, rfl⟩ := h
        obtain ⟨rr, g1, g2⟩ := fill_rel _ _ _ _ _ _ hp (h5 ε) hcs
        refine Ok.pure R (rv := .agg rr) ?_ ⟨rr.toList, by simp, g2⟩
        have e : (fun (x : Nat) => (pl.toArray)[x]?) = fun (x : Nat) => pl[x]? := by funext x; simp
        simp only [execOp, ho, Instr.build, Sem.run_bind, run_zero h1 h2, Result.andThen_ok, run_under hu, Array.mapM_eq_mapM_toList, Sem.run_map, run_places _ _ hpl, e, Array.toList_map, g1, Sem.run_pure]
      · cases h
    · rename_i k e hu
      split at h
      · rename_i sz hsz
        obtain ⟨ie, hie, rfl⟩ := sizeT_spec hsz
        simp only [Option.map_eq_some_iff] at h
        obtain ⟨cs, hcs, rfl⟩ := h
        obtain ⟨rr, g1, g2⟩ := fill_rel _ _ _ _ _ _ hp (h5 ε) hcs
        refine Ok.pure R (rv := .agg rr) ?_ ⟨rr.toList, by simp, g2⟩
        simp only [execOp, ho, Instr.build, Sem.run_bind, run_zero h1 h2, Result.andThen_ok, run_under hu, run_size hie, Array.toList_map, g1, Sem.run_pure]
      · cases h
    · cases h
  · cases h
theorem s_buildSlice {t : TypeId} {len : Nat} {parts : Array (Nat × Operand)} {ef : Ef} {r : Operand → Option V} (hr : ∀ x u, r x = some u → RelV ε u (ρ x)) (R : Rel ε H w) (hf : Free ε n (n + ef.2.2)) (ho : o.op = .buildSlice t len parts) (h : stepOp P o.op r H n = some ef) : Ok P o ρ ε H n w ef := by
  rw [ho] at h
  simp only [stepOp] at h
  split at h
  · rename_i e ps he hps
    have hu := sliceE_spec he
    have hp := parts_rel hr _ _ hps
    split at h
    · rename_i ti hti
      obtain ⟨i, z, h1, h2, h3, h4, h5⟩ := tiOf_spec hti
      split at h
      · rename_i hc
        obtain ⟨c1, c2, c3⟩ := hc
        simp only [Option.map_eq_some_iff] at h
        obtain ⟨cs, hcs, rfl⟩ := h
        have hz := zeros_rel (h5 ε) len ti.size c2
        obtain ⟨rr, g1, g2⟩ := fill_rel _ _ _ _ _ _ hp hz hcs
        have hrl : rr.size = len * ti.size := by
          have a1 := g2.length
          have : ∀ (ps : List (Nat × List F)) (cells res : List F), fillA (fun i => some (i * ti.size, ti.size)) cells ps = some res → res.length = cells.length := by
            intro ps
            induction ps with
            | nil => intro cells res h; simp [fillA] at h; rw [h]
            | cons p ps ih =>
              intro cells res h
              obtain ⟨i, p⟩ := p
              simp only [fillA] at h
              split at h
              · rename_i hs
                rw [ih _ _ h]
                simp [splice]; omega
              · cases h
          have a2 := this _ _ _ hcs
          rw [repeatL_len, c2] at a2
          simp at a1
          omega
        have S := new_cells (n := n) R (hf n (by omega) (by simp)) g2 true [] (fun _ => rfl) e (0, 0) (w' := w.alloc (.cells rr e)) (by simp) (by simpa using alloc_new w _)
        refine ⟨.slice (some ⟨w.heap.size, 0, none⟩) len len, _, _, .inl ?_, ?_, by simpa [app] using S⟩
        · have h0 : (if len * ti.size = 0 then #[] else (Array.range (len * ti.size)).map (fun i => z.cells[i % z.cells.size]!)) = (Array.range (len * ti.size)).map (fun i => z.cells[i % z.cells.size]!) := by
            split
            · rename_i h0; simp [h0]
            · rfl
          simp only [execOp, ho, Instr.buildSlice, Sem.run_bind, run_under hu, Result.andThen_ok, run_size h1, h3, Array.toList_map]
          rw [if_neg (by omega)]
          have har : (Array.range 0).map (fun x => (#[] : Array Value)[x % (#[] : Array Value).size]!) = #[] := by simp
          by_cases hq : len * ti.size = 0
          · rw [if_pos hq] at h0
            rw [← h0] at g1
            simp only [if_pos hq, Sem.run_bind, Sem.run_pure, Result.andThen_ok]
            simp only [hq, har, g1, newRow, Sem.run_bind, run_newObj_alloc, Result.andThen_ok, Sem.run_pure]
          · simp only [if_neg hq, Sem.run_bind, run_zero h1 h2, Result.andThen_ok, Sem.run_pure, g1, newRow, run_newObj_alloc]
        · refine ⟨w.heap.size, _, _, len, ins_same _ _ _, rfl, fun _ => rfl, Nat.le_refl _, ?_⟩
          simp [hrl]
      · cases h
    · cases h
  · cases h
theorem s_makeSlice {t : TypeId} {l c : Operand} {ef : Ef} {r : Operand → Option V} (hr : ∀ x u, r x = some u → RelV ε u (ρ x)) (R : Rel ε H w) (hf : Free ε n (n + ef.2.2)) (ho : o.op = .makeSlice t l c) (h : stepOp P o.op r H n = some ef) : Ok P o ρ ε H n w ef := by
  rw [ho] at h
  simp only [stepOp] at h
  split at h
  · rename_i e vl vc he hvl hvc
    have hu := sliceE_spec he
    split at h
    · rename_i ti a b hti ha hb
      obtain ⟨i, z, h1, h2, h3, h4, h5⟩ := tiOf_spec hti
      split at h
      · rename_i hc
        obtain ⟨rfl, c1, c2, c3, c4⟩ := hc
        cases h
        have nat : ∀ {v : V} {a : Nat}, natOf v = some a → ∀ {x : Value}, RelV ε v x → ∃ k, x = .int k a := by
          intro v a hv x hx
          unfold natOf at hv
          split at hv
          · rename_i k m
            cases hv
            exact ⟨k, hx⟩
          · cases hv
        obtain ⟨k1, e1⟩ := nat ha (hr l vl hvl)
        obtain ⟨k2, e2⟩ := nat hb (hr c vc hvc)
        have hz := zeros_rel (h5 ε) a ti.size c3
        have hal : a ≤ 140737488355328 := Nat.le_trans (Nat.le_mul_of_pos_right a c2) c4
        have hwr : IntKind.i64.wrap (a : Int) = a := by unfold IntKind.wrap IntKind.bits; simp [IntKind.signed]; omega
        have S := new_cells (n := n) R (hf n (by omega) (by simp)) hz true [] (fun _ => rfl) e (0, 0) (w' := w.alloc (.cells ((Array.range (a * ti.size)).map (fun i => z.cells[i % z.cells.size]!)) e)) (by simp) (by rw [List.append_nil, Array.toArray_toList]; exact alloc_new w _)
        refine ⟨.slice (some ⟨w.heap.size, 0, none⟩) a a, _, _, .inl ?_, ?_, by simpa [app] using S⟩
        · have hb1 : ¬ ((i.bytes : Int) * (a : Int) > 2 ^ 48) := by
            rw [h4]
            have : ((ti.bytes * a : Nat) : Int) ≤ ((140737488355328 : Nat) : Int) := Int.ofNat_le.2 (by rw [Nat.mul_comm]; exact c4)
            rw [Int.natCast_mul] at this
            omega
          simp only [execOp, ho, Instr.makeSlice, Sem.run_bind, run_under hu, Result.andThen_ok, e1, e2, asInt, asIntOf, Sem.run_pure, run_info h1, hwr]
          have hb2 : (decide ((a : Int) < 0) || decide ((i.bytes : Int) * (a : Int) > 2 ^ 48)) = false := by
            rw [Bool.or_eq_false_iff]
            exact ⟨decide_eq_false (by omega), decide_eq_false hb1⟩
          have hb3 : (decide ((a : Int) < 0) || decide ((a : Int) > a)) = false := by
            rw [Bool.or_eq_false_iff]
            exact ⟨decide_eq_false (by omega), decide_eq_false (by omega)⟩
          rw [if_neg (by rw [hb2, Bool.false_or, hb3]; exact Bool.false_ne_true)]
          simp only [Sem.run_bind, run_askRoom, Result.andThen_ok, run_size h1, Int.toNat_natCast, h3]
          have har : (Array.range 0).map (fun x => (#[] : Array Value)[x % (#[] : Array Value).size]!) = #[] := by simp
          have hae : (Array.range 0).map (fun i => z.cells[i % z.cells.size]!) = #[] := by simp
          by_cases hq : a * ti.size = 0
          · simp only [if_pos hq, Sem.run_bind, Sem.run_pure, Result.andThen_ok]
            simp only [hq, har, hae, newRow, Sem.run_bind, run_newObj_alloc, Result.andThen_ok, Sem.run_pure]
          · simp only [if_neg hq, Sem.run_bind, run_zero h1 h2, Result.andThen_ok, Sem.run_pure, newRow, run_newObj_alloc]
        · refine ⟨w.heap.size, _, _, a, ins_same _ _ _, rfl, fun _ => rfl, Nat.le_refl _, ?_⟩
          simp
      · cases h
    · cases h
  · cases h
end
end Go.Proofs.YtkimkgbppegkhaaGreat.Cm

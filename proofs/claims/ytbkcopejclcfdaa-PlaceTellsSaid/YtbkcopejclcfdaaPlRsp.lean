/- The document's Spread. -/
import Derived.Test.YtbkcopejclcfdaaPlRef
import Derived.Test.YtbkcopejclcfdaaLkHas
namespace Go.Proofs.Ytbkcopejclcfdaa
open Go.RowKit Go.Proofs.YtbkcopejclcfdaaW.PrintLast Go.Proofs.Ytbkcopejclcfdaa.Sum
set_option linter.unusedVariables false
set_option linter.unusedSimpArgs false
/-- rows that were put out -/
structure SQ (W wr : World) (vo : Value) (rows : List (List (Rc × Value))) (vs : List Value) : Prop where
  bel : Below W.heap.size W wr
  lv : vs.length = rows.length
  oo : wr.ownsRow W.heap.size 35 1 vo rows.length vs
  own : ∀ i, i < rows.length → wr.ownsRow W.heap.size 53 10 (vs.getD i undef) (rows.getD i []).length (pcells (rows.getD i []))
  data : ∀ i, i < rows.length → ∀ pr ∈ rows.getD i [], wr.ownsRow 0 5 1 pr.2 pr.1.data.length (cv pr.1.data)
/-- and one that is being made -/
structure SM (W wr : World) (vo : Value) (rows : List (List (Rc × Value))) (vs : List Value) (vm : Value) (rm : List (Rc × Value)) : Prop where
  q : SQ W wr vo rows vs
  own : wr.ownsRow W.heap.size 53 10 vm rm.length (pcells rm)
  data : ∀ pr ∈ rm, wr.ownsRow 0 5 1 pr.2 pr.1.data.length (cv pr.1.data)
  ne : ∀ i, i < rows.length → ∀ b, vm.ownBlock = some b → (vs.getD i undef).ownBlock ≠ some b
section
variable {W wr w1 w2 w3 : World} {vo vm v' : Value} {rows : List (List (Rc × Value))} {vs : List Value} {rm : List (Rc × Value)}
theorem SQ.keep (h : SQ W wr vo rows vs) (hb : Below wr.heap.size wr w1) : SQ W w1 vo rows vs := by
  have T := Turns.of_below hb (fun _ => False)
  exact ⟨h.bel.trans (hb.mono h.bel.size), h.lv, T.own h.oo (fun _ _ h => h), fun i hi => T.own (h.own i hi) (fun _ _ h => h), fun i hi pr hp => T.own (h.data i hi pr hp) (fun _ _ h => h)⟩
theorem SM.keep (h : SM W wr vo rows vs vm rm) (hb : Below wr.heap.size wr w1) : SM W w1 vo rows vs vm rm := by
  have T := Turns.of_below hb (fun _ => False)
  exact ⟨h.q.keep hb, T.own h.own (fun _ _ h => h), fun pr hp => T.own (h.data pr hp) (fun _ _ h => h), h.ne⟩
theorem SM.start (h : SQ W wr vo rows vs) : SM W wr vo rows vs (.slice none 0 0) [] := ⟨h, World.ownsRow_nil _ _ _ _, fun pr hp => by simp at hp, fun i hi b e => by cases e⟩
theorem SM.put (h : SM W wr vo rows vs vm rm) (r : Rc) (v : Value) (o : Obj) (hd : wr.ownsRow 0 5 1 v r.data.length (cv r.data)) (ow : w3.ownsRow W.heap.size 53 10 v' (rm.length + 1) (pcells rm ++ r.cells v)) (T : Turns (fun k => vm.ownBlock = some k) (wr.alloc o) w3) (F : Fresh (wr.alloc o) vm v') :
    SM W w3 vo rows vs v' (rm ++ [(r, v)]) := by
  have h2 := h.keep ((Below.refl wr.heap.size wr).alloc (Nat.le_refl _) o)
  have hd2 := hd.alloc o
  have dk : ∀ pr : Rc × Value, (wr.alloc o).ownsRow 0 5 1 pr.2 pr.1.data.length (cv pr.1.data) → w3.ownsRow 0 5 1 pr.2 pr.1.data.length (cv pr.1.data) := fun pr hpr => T.own hpr (fun k hk e => own_ne2 hpr h2.own (by decide) hk e)
  refine ⟨⟨h2.q.bel.trans (T.below h2.q.bel.size (fun k hk e => by have := (h2.own.lt k e).1; omega)), h.q.lv, T.own h2.q.oo (fun k hk e => own_ne2 h2.q.oo h2.own (by decide) hk e), fun i hi => T.own (h2.q.own i hi) (fun k hk e => h2.ne i hi k e hk), fun i hi pr hp => dk pr (h2.q.data i hi pr hp)⟩, ?_, fun pr hp => ?_, fun i hi b hb e => ?_⟩
  · rw [pcells_append, List.length_append]
    have e1 : pcells [(r, v)] = r.cells v := by simp [pcells]
    rw [e1]
    exact ow
  · rcases List.mem_append.1 hp with hp | hp
    · exact dk pr (h2.data pr hp)
    · simp only [List.mem_cons, List.not_mem_nil, or_false] at hp
      subst hp
      exact dk (r, v) hd2
  · rcases F with F | ⟨q, F, hq⟩
    · rw [F] at hb; exact h2.ne i hi b hb e
    · rw [F] at hb
      injection hb with hb
      have := ((h2.q.own i hi).lt b e).2
      omega
theorem getD_append_lt {α : Type} (l : List α) (x d : α) (i : Nat) (h : i < l.length) : (l ++ [x]).getD i d = l.getD i d := by
  rw [List.getD_eq_getElem?_getD, List.getElem?_append_left h, List.getD_eq_getElem?_getD]
theorem getD_append_eq {α : Type} (l : List α) (x d : α) (i : Nat) (h : i = l.length) : (l ++ [x]).getD i d = x := by
  subst h
  simp
theorem SM.push (h : SM W wr vo rows vs vm rm) {o : Obj} (ow : w3.ownsRow W.heap.size 35 1 v' (rows.length + 1) (vs ++ [vm])) (T : Turns (fun k => vo.ownBlock = some k) (wr.alloc o) w3) : SQ W w3 v' (rows ++ [rm]) (vs ++ [vm]) := by
  have h2 := h.keep ((Below.refl wr.heap.size wr).alloc (Nat.le_refl _) o)
  refine ⟨h2.q.bel.trans (T.below h2.q.bel.size (fun k hk e => by have := (h2.q.oo.lt k e).1; omega)), by simp [h.q.lv], by rw [List.length_append]; exact ow, fun i hi => ?_, fun i hi pr hp => ?_⟩
  · by_cases hi2 : i < rows.length
    · rw [getD_append_lt vs vm undef i (by rw [h.q.lv]; exact hi2), getD_append_lt rows rm [] i hi2]
      exact T.own (h2.q.own i hi2) (fun k hk e => own_ne2 (h2.q.own i hi2) h2.q.oo (by decide) hk e)
    · have hi3 : i = rows.length := by simp at hi; omega
      rw [getD_append_eq vs vm undef i (by rw [h.q.lv]; exact hi3), getD_append_eq rows rm [] i hi3]
      exact T.own h2.own (fun k hk e => own_ne2 h2.own h2.q.oo (by decide) hk e)
  · have key : ∀ pr : Rc × Value, (wr.alloc o).ownsRow 0 5 1 pr.2 pr.1.data.length (cv pr.1.data) → w3.ownsRow 0 5 1 pr.2 pr.1.data.length (cv pr.1.data) := fun pr hpr => T.own hpr (fun k hk e => own_ne2 hpr h2.q.oo (by decide) hk e)
    by_cases hi2 : i < rows.length
    · rw [getD_append_lt rows rm [] i hi2] at hp
      exact key pr (h2.q.data i hi2 pr hp)
    · have hi3 : i = rows.length := by simp at hi; omega
      rw [getD_append_eq rows rm [] i hi3] at hp
      exact key pr (h2.data pr hp)
/-- a row of these can be read -/
theorem SQ.recs (h : SQ W wr vo rows vs) (i : Nat) (hi : i < rows.length) : ∃ ad cap, vs.getD i undef = .slice ad ((rows.getD i []).map (·.1)).length cap ∧ Recs wr ad ((rows.getD i []).map (·.1)) := by
  have ho := h.own i hi
  obtain ⟨ad, cap, e⟩ := slice_of_own ho
  refine ⟨ad, cap, by rw [List.length_map]; exact e, fun j hj => ?_⟩
  have hj2 : j < (rows.getD i []).length := by simpa using hj
  rw [e] at ho
  have hrd := Reads.of_own ho
  obtain ⟨b, off, h1, h2, _⟩ := hrd (j * 10) _ (pcells_get _ j hj2 0 _ rfl)
  have hdt := h.data i hi _ (List.getElem_mem hj2)
  obtain ⟨ad2, cap2, e2⟩ := slice_of_own hdt
  rw [List.getElem_map]
  refine ⟨b, off, (rows.getD i [])[j].2, h1, h2, fun q u hu => ?_, ⟨ad2, cap2, e2, ?_, ?_⟩⟩
  · obtain ⟨b', off', h3, _, h4⟩ := hrd (j * 10 + q) u (pcells_get _ j hj2 q u hu)
    rw [h1] at h3
    injection h3 with h3
    injection h3 with h5 h6
    subst h5 h6
    rw [← Nat.add_assoc] at h4
    exact h4
  · rw [e2] at hdt
    exact Reads.of_own hdt
  · intro e3
    subst e3
    rw [e2] at hdt
    rcases hdt.2 with ⟨h7, _⟩ | ⟨g', c, cur, h7, _⟩
    · injection h7
    · injection h7 with h8; cases h8
end
/-- which records the i-th of these peers has -/
def rowR (l : List Int) (xs : List Rc) (i : Nat) : List Rc := if (l.take i).contains (l.getD i 0) = true then [] else xs.filter (fun r => minL (ofL r.nums) l == l.getD i 0)
theorem rowR_eq (l : List Int) (xs : List Rc) (i : Nat) (hi : i < l.length) : rowR l xs i = xs.filter (fun r => tgt l r == i) := by
  have hg : l.getD i 0 = l[i] := by rw [List.getD_eq_getElem?_getD, List.getElem?_eq_getElem hi]; rfl
  have key : ∀ r : Rc, (tgt l r == i) = ((minL (ofL r.nums) l == l[i]) && !(l.take i).contains l[i]) := fun r => by
    have hm := minL_in (ofL r.nums) l (by omega)
    unfold tgt
    generalize minL (ofL r.nums) l = m at *
    rcases hx : l.findIdx? (fun y => m == y) with _ | q
    · have := List.findIdx?_eq_none_iff.1 hx m hm
      simp at this
    · obtain ⟨hq, hy, hn⟩ := List.findIdx?_eq_some_iff_getElem.1 hx
      have hy2 : m = l[q] := by simpa using hy
      show (q == i) = _
      by_cases hqi : q = i
      · subst hqi
        have hc : (l.take q).contains l[q] = false := by
          rw [Bool.eq_false_iff]
          intro hc
          rw [List.contains_iff_mem, List.mem_take_iff_getElem] at hc
          obtain ⟨j, hj, e⟩ := hc
          have := hn j (by omega)
          rw [hy2, ← e] at this
          simp at this
        rw [hc, hy2]
        simp
      · have h1 : (q == i) = false := by simpa using hqi
        rw [h1]
        by_cases hmi : m = l[i]
        · have hlt : q < i := by
            rcases Nat.lt_or_gt_of_ne hqi with h | h
            · exact h
            · have := hn i h
              rw [hmi] at this
              simp at this
          have hc : (l.take i).contains l[i] = true := by
            rw [List.contains_iff_mem, List.mem_take_iff_getElem]
            exact ⟨q, by omega, by rw [← hmi, hy2]⟩
          rw [hc]
          simp
        · have : (m == l[i]) = false := by simpa using hmi
          rw [this]
          rfl
  unfold rowR
  rw [hg]
  split
  · rename_i hc
    symm
    rw [List.filter_eq_nil_iff]
    intro r _
    rw [key r, hc]
    simp
  · rename_i hc
    have hc2 : (l.take i).contains l[i] = false := by simpa using hc
    congr 1
    funext r
    rw [key r, hc2]
    simp
theorem info35q : (Try.prog.info? 35).map (fun i => (i.zero, i.size, i.bytes)) = some (some (.slice none 0 0), 1, 24) := by kernel_rfl
theorem at_cell35 {w : World} {u : Value} : ∀ j x, [u][j]? = some x → (w.alloc (.cells #[u] 35)).cell? ((⟨w.heap.size, 0, none⟩ : Addr).add j) = some x := fun j x hx => by
  rw [Addr.add_lit, Nat.zero_add, World.cell?_alloc_new, List.getElem?_toArray]
  exact hx
theorem one_slice (ad : Option Addr) (n c : Nat) : ∀ x ∈ [Value.slice ad n c], x.oneCell' = true := fun x hx => by
  simp only [List.mem_cons, List.not_mem_nil, or_false] at hx
  subst hx
  rfl
def RSpreadPost (W : World) (l : List Int) (xs : List Rc) (e : Ending) (W' : World) : Prop :=
  ∃ vo rows vs, e = .returned vo ∧ SQ W W' vo rows vs ∧ rows.length = l.length ∧ ∀ i, i < l.length → (rows.getD i []).map (·.1) = rowR l xs i
set_option maxHeartbeats 3000000 in
set_option maxRecDepth 20000 in
theorem rspread_any (W : World) (A1 A2 : Option Addr) (n1 n2 cap1 cap2 : Nat) (xs : List Rc) (l : List Int) (hn1 : n1 = xs.length) (hn2 : n2 = l.length) (hl1 : n1 ≤ 1000) (hl2 : n2 ≤ 1000) (hcap : n2 ≤ cap2) (hd : ∀ r ∈ xs, r.data.length ≤ 1000) (hr1 : Recs W A1 xs) (hr2 : Reads W A2 (ints l)) :
    Calls Try.prog 26 #[.slice A1 n1 cap1, .slice A2 n2 cap2] W (RSpreadPost W l xs) := by
  have HN1 := Lib.hid hn1
  have HN2 := Lib.hid hn2
  have HD := Lib.hid hd
  have HR1 := Lib.hid hr1
  have HR2 := Lib.hid hr2
  obtain ⟨i0, hi0, hz0, hz1, hz2⟩ := info_parts info53p
  obtain ⟨i1o, hio, hzo0, hzo1, hzo2⟩ := info_parts info35q
  have hu53 := Try.underlying53
  clear hn1 hn2 hd hr1 hr2
  go_enter Try.func26, Try.ntmps26
  go_wp2
  go_loopw [5, 6] (fun vo ii wo => ∃ i : Nat, i ≤ n2 ∧ ii = .int .i64 i ∧ ∃ rows vs, SQ W wo vo rows vs ∧ rows.length = i ∧ ∀ q, q < i → (rows.getD q []).map (·.1) = rowR l xs q) (fun _ ii _ => n2 - (intOf ii).toNat)
  case atStart => exact ⟨0, Nat.zero_le _, rfl, [], [], ⟨Below.refl _ _, rfl, World.ownsRow_nil _ _ _ _, fun i hi => by simp at hi, fun i hi => by simp at hi⟩, rfl, fun q hq => by omega⟩
  case round =>
    obtain ⟨i, hi, rfl, rows, vs, hSQ, hrj, hrows⟩ := hrel
    obtain ⟨ado, co, hvo⟩ := slice_of_own hSQ.oo
    rw [hrj] at hvo
    subst hvo
    have HSQ := Lib.hid hSQ
    have HRJ := Lib.hid hrj
    have HROWS := Lib.hid hrows
    clear hSQ hrj hrows
    by_cases hlt : i < n2
    · have hil : i < l.length := by rw [← HN2.out]; exact hlt
      have i1 : (i : Int) < (n2 : Int) := by omega
      obtain ⟨lb, lo, rfl, hlb, hlc⟩ := reads_int HR2.out i hil
      obtain ⟨li, hli⟩ : ∃ li, l[i] = li := ⟨_, rfl⟩
      rw [hli] at hlc
      have HLI := Lib.hid (show l.getD i 0 = li by rw [List.getD_eq_getElem?_getD, List.getElem?_eq_getElem hil]; exact hli)
      have HLC := Lib.hid (fun (w : World) (hb : Below W.heap.size W w) => ((hb.cell (p := ⟨lb, lo + i, none⟩) hlb).trans hlc : w.cell? ⟨lb, lo + i, none⟩ = some (.int .i64 li)))
      have HRL := HR2
      obtain ⟨dup, hdup⟩ : ∃ dup, (l.take i).contains li = dup := ⟨_, rfl⟩
      have HDUP := Lib.hid hdup
      have HHASG := Lib.hid (fun (w : World) (hb : Below W.heap.size W w) => rhas_sameP w (some ⟨lb, lo, none⟩) i cap2 (l.take i) li (by rw [List.length_take]; omega) (by omega) (by
        have h0 := HR2.out.below hb
        intro j' u hj'
        refine h0 j' u ?_
        rw [← ints_take, List.getElem?_take] at hj'
        split at hj'
        · exact hj'
        · cases hj'))
      rw [hdup] at HHASG
      clear hli hlc hdup
      go_wp2
      go_loopw [7, 8] (fun vm ik wr => ∃ k : Nat, k ≤ n1 ∧ ik = .int .i64 k ∧ ∃ rm, SM W wr (.slice ado i co) rows vs vm rm ∧ rm.map (·.1) = if dup = true then [] else (xs.take k).filter (fun r => minL (ofL r.nums) l == l.getD i 0)) (fun _ ik _ => n1 - (intOf ik).toNat)
      case atStart => exact ⟨0, Nat.zero_le _, rfl, [], SM.start HSQ.out, by simp⟩
      case round =>
        obtain ⟨k, hk, rfl, rm, hSM, hrm⟩ := hrel
        obtain ⟨adm, cm, hvm⟩ := slice_of_own hSM.own
        obtain ⟨rl, hrl⟩ : ∃ rl, rm.length = rl := ⟨_, rfl⟩
        rw [hrl] at hvm
        subst hvm
        obtain ⟨vm, hvm⟩ : ∃ vm, vm = Value.slice adm rl cm := ⟨_, rfl⟩
        have HVM := Lib.hid hvm
        have HSM := Lib.hid hSM
        have HRL2 := Lib.hid hrl
        have HB19 := Lib.hid hSM.q.bel
        have HHAS := Lib.hid (HHASG.out wr.drew (Below.drew hSM.q.bel))
        have HLC9 := Lib.hid (HLC.out wr.drew (Below.drew hSM.q.bel))
        have HB9 := Lib.hid (Below.drew (Below.refl wr.heap.size wr))
        clear hSM hrl hvm
        by_cases hkn : k < n1
        · have i2 : (k : Int) < (n1 : Int) := by omega
          have d2 : decide ((k : Int) < (n1 : Int)) = true := by simpa using hkn
          have D2 := Lib.hid d2
          clear d2
          cases dup with
          | true =>
            have HRM0 := Lib.hid (show rm.map (·.1) = [] by rw [hrm]; rfl)
            clear hrm
            go_wp2
            have hlc := HLC9.out
            have d2 := D2.out
            refine start_ (n := 15) (S := fun w' => w' = wr.drew) (ds := []) #[false, false, false, false, false, false, false, false, false, false, false, false, false, false, false] (by kernel_rfl) rfl rfl (rfl) (fun hHeld => ?_)
            generalize hW9 : wr.drew = W9 at *
            refine pure_ (i := 0) (N := some 19) (v := ?_) (a' := ?_) #[true, false, false, false, false, false, false, false, false, false, false, false, false, false, false] rfl rfl (by kernel_rfl) (fun _ _ _ h => h) (Or.inl ⟨by rfl, ?_⟩) ?_ ?_
            rotate_left
            · intro w'
              go_simp
              with_reducible rfl
            rotate_left
            · simp only [Act.put, List.setIfInBounds_toArray, List.set_cons_zero, List.set_cons_succ]
              rfl
            refine pure_ (i := 1) (N := some 20) (v := ?_) (a' := ?_) #[true, true, false, false, false, false, false, false, false, false, false, false, false, false, false] rfl rfl (by kernel_rfl) (fun _ _ _ h => h) (Or.inl ⟨by rfl, ?_⟩) ?_ ?_
            rotate_left
            · intro w'
              go_simp
              with_reducible rfl
            rotate_left
            · simp only [Act.put, List.setIfInBounds_toArray, List.set_cons_zero, List.set_cons_succ]
              rfl
            refine pure_ (i := 2) (N := some 21) (v := ?_) (a' := ?_) #[true, true, true, false, false, false, false, false, false, false, false, false, false, false, false] rfl rfl (by kernel_rfl) (fun _ _ _ h => h) (Or.inl ⟨by rfl, ?_⟩) ?_ ?_
            rotate_left
            · intro w'
              go_simp
              with_reducible rfl
            rotate_left
            · simp only [Act.put, List.setIfInBounds_toArray, List.set_cons_zero, List.set_cons_succ]
              rfl
            refine pure_ (i := 3) (N := some 22) (v := ?_) (a' := ?_) #[true, true, true, true, false, false, false, false, false, false, false, false, false, false, false] rfl rfl (by kernel_rfl) (fun _ _ _ h => h) (Or.inl ⟨by rfl, ?_⟩) ?_ ?_
            rotate_left
            · intro w'
              go_simp
              with_reducible rfl
            rotate_left
            · simp only [Act.put, List.setIfInBounds_toArray, List.set_cons_zero, List.set_cons_succ]
              rfl
            refine pure_ (i := 4) (N := some 23) (v := ?_) (a' := ?_) #[true, true, true, true, true, false, false, false, false, false, false, false, false, false, false] rfl rfl (by kernel_rfl) (fun _ _ _ h => h) (Or.inl ⟨by rfl, ?_⟩) ?_ ?_
            rotate_left
            · intro w'
              go_simp
              with_reducible rfl
            rotate_left
            · simp only [Act.put, List.setIfInBounds_toArray, List.set_cons_zero, List.set_cons_succ]
              rfl
            refine pure_ (i := 5) (N := some 24) (v := ?_) (a' := ?_) #[true, true, true, true, true, true, false, false, false, false, false, false, false, false, false] rfl rfl (by kernel_rfl) (fun _ _ _ h => h) (Or.inl ⟨by rfl, ?_⟩) ?_ ?_
            rotate_left
            · intro w'
              go_simp
              with_reducible rfl
            rotate_left
            · simp only [Act.put, List.setIfInBounds_toArray, List.set_cons_zero, List.set_cons_succ]
              rfl
            refine pure_ (i := 6) (N := some 25) (v := ?_) (a' := ?_) #[true, true, true, true, true, true, true, false, false, false, false, false, false, false, false] rfl rfl (by kernel_rfl) (fun _ _ _ h => h) (Or.inl ⟨by rfl, ?_⟩) ?_ ?_
            rotate_left
            · intro w'
              go_simp
              with_reducible rfl
            rotate_left
            · simp only [Act.put, List.setIfInBounds_toArray, List.set_cons_zero, List.set_cons_succ]
              rfl
            refine pure_ (i := 7) (N := some 26) (v := .slice (some ⟨lb, lo, none⟩) i cap2) (a' := ?_) #[true, true, true, true, true, true, true, true, false, false, false, false, false, false, false] rfl rfl (by kernel_rfl) (fun _ _ _ h => h) (Or.inl ⟨by rfl, ?_⟩) ?_ ?_
            · intro w'
              exact exec_cut_hi w' 27 3 (.tmp 24) (.tmp 25) rfl 1 Try.underlying27 info3 _ n2 cap2 i rfl rfl (by omega)
            rotate_left
            · simp only [Act.put, List.setIfInBounds_toArray, List.set_cons_zero, List.set_cons_succ]
              rfl
            refine pure_ (i := 8) (N := some 27) (v := ?_) (a' := ?_) #[true, true, true, true, true, true, true, true, true, false, false, false, false, false, false] rfl rfl (by kernel_rfl) (fun _ _ _ h => h) (Or.inl ⟨by rfl, ?_⟩) ?_ ?_
            rotate_left
            · intro w'
              go_simp
              with_reducible rfl
            rotate_left
            · simp only [Act.put, List.setIfInBounds_toArray, List.set_cons_zero, List.set_cons_succ]
              rfl
            refine pure_ (i := 9) (N := some 28) (v := ?_) (a' := ?_) #[true, true, true, true, true, true, true, true, true, true, false, false, false, false, false] rfl rfl (by kernel_rfl) (fun _ _ _ h => h) (Or.inl ⟨by rfl, ?_⟩) ?_ ?_
            rotate_left
            · intro w'
              go_simp
              with_reducible rfl
            rotate_left
            · simp only [Act.put, List.setIfInBounds_toArray, List.set_cons_zero, List.set_cons_succ]
              rfl
            refine pure_ (i := 10) (N := some 29) (v := ?_) (a' := ?_) #[true, true, true, true, true, true, true, true, true, true, true, false, false, false, false] rfl rfl (by kernel_rfl) (fun _ _ _ h => h) (Or.inl ⟨by rfl, ?_⟩) ?_ ?_
            rotate_left
            · intro w'
              go_simp
              with_reducible rfl
            rotate_left
            · simp only [Act.put, List.setIfInBounds_toArray, List.set_cons_zero, List.set_cons_succ]
              rfl
            refine take_ (i := 11) (N := some 30) (v := ?_) (a' := ?_) #[true, true, true, true, true, true, true, true, true, true, true, true, false, false, false] rfl rfl (by kernel_rfl) (fun _ _ _ h => h) (Or.inl ⟨by rfl, ?_⟩) hHeld ?_ ?_
            rotate_left
            · intro w' hSw
              have hSw : w' = W9 := hSw
              subst hSw
              go_simp
              with_reducible rfl
            rotate_left
            · simp only [Act.put, List.setIfInBounds_toArray, List.set_cons_zero, List.set_cons_succ]
              rfl
            refine one_ (i := 12) (N := some 31) #[true, true, true, true, true, true, true, true, true, true, true, true, true, false, false] rfl rfl (by kernel_rfl) (by decide) (fun K hK => ?_)
            refine goes_ Try.func32 (by kernel_rfl) rfl #[.slice (some ⟨lb, lo, none⟩) i cap2, .int .i64 li] (by rfl) rfl rfl (by (try simp only [List.map_toArray, List.map_cons, List.map_nil]); first | done | rfl) ?_
            refine HHAS.out.mono ?_
            rintro e w3 ⟨rfl, rfl⟩
            refine ⟨_, rfl, ?_⟩
            refine hK.out _ _ rfl (fun hHeld => ?_)
            clear hK K
            refine norm_ (a' := ?_) ?_ ?_
            rotate_left
            · (try unfold Act.put); (try simp only [putAll, Act.put, List.setIfInBounds_toArray, List.set_cons_zero, List.set_cons_succ])
              rfl
            refine pure_ (i := 13) (N := some 32) (v := ?_) (a' := ?_) #[true, true, true, true, true, true, true, true, true, true, true, true, true, true, false] rfl rfl (by kernel_rfl) (fun _ _ _ h => h) (Or.inl ⟨by rfl, ?_⟩) ?_ ?_
            rotate_left
            · intro w'
              go_simp
              with_reducible rfl
            rotate_left
            · simp only [Act.put, List.setIfInBounds_toArray, List.set_cons_zero, List.set_cons_succ]
              rfl
            refine pure_ (i := 14) (N := some 33) (v := ?_) (a' := ?_) #[true, true, true, true, true, true, true, true, true, true, true, true, true, true, true] rfl rfl (by kernel_rfl) (fun _ _ _ h => h) (Or.inl ⟨by rfl, ?_⟩) ?_ ?_
            rotate_left
            · intro w'
              go_simp
              with_reducible rfl
            rotate_left
            · simp only [Act.put, List.setIfInBounds_toArray, List.set_cons_zero, List.set_cons_succ]
              rfl
            refine done_ (by kernel_rfl) ?_
            have hsm9 := HSM.out.keep HB9.out
            have hvm : vm = .slice adm rl cm := HVM.out
            have hoo := hsm9.q.oo
            rw [HRJ.out] at hoo
            have howo : (W9.alloc (.cells #[.slice adm rl cm] 35)).ownsRow W.heap.size 35 1 (.slice ado i co) i vs := hoo.alloc _
            have hgeo : W.heap.size ≤ (W9.alloc (.cells #[.slice adm rl cm] 35)).heap.size := by have := hsm9.q.bel.size; rw [World.size_alloc]; omega
            have HPUSH := Lib.hid (fun (w8 : World) (v8 : Value) (ow8 : w8.ownsRow W.heap.size 35 1 v8 (i + 1) (vs ++ [.slice adm rl cm])) (T : Turns (fun k => (Value.slice ado i co).ownBlock = some k) (W9.alloc (.cells #[.slice adm rl cm] 35)) w8) =>
              hsm9.push (o := .cells #[.slice adm rl cm] 35) (w3 := w8) (v' := v8) (by rw [HRJ.out]; exact ow8) T)
            have HOWO := Lib.hid howo
            have HGEO := Lib.hid hgeo
            clear hsm9 hoo howo hgeo
            go_wp2_with (at_builtin; refine wpList_row_append _ rfl (.tmp 69) (.tmp 71) 40 rfl W.heap.size HGEO.out 35 i1o _ 1 24 Try.underlying40 hio hzo0 hzo1 hzo2 rfl (by decide) (.slice ado i co) i vs rfl HOWO.out ⟨W9.heap.size, 0, none⟩ 1 1 [.slice adm rl cm] rfl rfl at_cell35 (one_slice _ _ _) (by omega) (by decide) ?_)
            intro v8 w8 ow8 hg8 hf8
            obtain ⟨ad8, cp8, rfl⟩ := slice_of_own ow8
            have HS8 := Lib.hid (HPUSH.out w8 _ ow8 hg8)
            clear ow8 hg8 hf8
            go_wp2
            go_roundw
            case rel =>
              refine ⟨i + 1, by omega, by go_num, _, _, HS8.out, by rw [List.length_append, HRJ.out]; rfl, fun q hq => ?_⟩
              by_cases hqi : q < i
              · rw [getD_append_lt rows rm [] q (by rw [HRJ.out]; exact hqi)]
                exact HROWS.out q hqi
              · have hqe : q = i := by omega
                subst hqe
                rw [getD_append_eq rows rm [] q HRJ.out.symm, HRM0.out]
                unfold rowR
                rw [HLI.out, HDUP.out, if_pos rfl]
            case measure => simp [intOf]; omega
          | false =>
            have HRM := Lib.hid (show rm.map (·.1) = (xs.take k).filter (fun r => minL (ofL r.nums) l == l.getD i 0) by rw [hrm]; rfl)
            have HNODUP := Lib.hid (show (false = true) = False by simp)
            clear hrm
            have hkx : k < xs.length := by rw [← HN1.out]; exact hkn
            obtain ⟨rb, ro, v, rfl, hrb, hcl, hdv⟩ := (HR1.out.below (Below.drew HB19.out)) k hkx
            have hdl0 := HD.out _ (List.getElem_mem hkx)
            obtain ⟨r, hr⟩ : ∃ r, xs[k] = r := ⟨_, rfl⟩
            rw [hr] at hcl hdv hdl0
            have HR := Lib.hid hr
            obtain ⟨ad, cap, hv, hrd, hA⟩ := hdv
            obtain ⟨peer, number, s1, s2, s3, bl, es, gn, ti, dt⟩ := r
            obtain ⟨dl, hdl⟩ : ∃ dl, dt.length = dl := ⟨_, rfl⟩
            replace hv : v = .slice ad dl cap := by rw [← hdl]; exact hv
            subst hv
            have HDV := Lib.hid (show DataV wr (.slice ad dl cap) dt from ⟨ad, cap, by rw [hdl], hrd, hA⟩)
            have HDT := Lib.hid (show dt.length ≤ 1000 from hdl0)
            obtain ⟨mn, hmn⟩ : ∃ mn, minL (ofL (Rc.nums ⟨peer, number, s1, s2, s3, bl, es, gn, ti, dt⟩)) l = mn := ⟨_, rfl⟩
            have HMN := Lib.hid hmn
            have HG0 := Lib.hid hcl
            clear hr hcl hdl0 hrd hA hdl hmn
            cases gn with
            | true =>
              have HG0 := Lib.hid (show wr.drew.rangeAt rb (ro + k * 10) [.int .i64 peer, .int .i64 number, .int .i64 s1, .int .i64 s2, .int .i64 s3, .int .i64 bl, .int .i64 es, .bool true, .int .i64 ti, .slice ad dl cap] from HG0.out)
              go_wp2
              have hlc := HLC9.out
              have d2 := D2.out
              refine start_ (n := 15) (S := fun w' => w' = wr.drew) (ds := []) #[false, false, false, false, false, false, false, false, false, false, false, false, false, false, false] (by kernel_rfl) rfl rfl (rfl) (fun hHeld => ?_)
              generalize hW9 : wr.drew = W9 at *
              refine pure_ (i := 0) (N := some 19) (v := ?_) (a' := ?_) #[true, false, false, false, false, false, false, false, false, false, false, false, false, false, false] rfl rfl (by kernel_rfl) (fun _ _ _ h => h) (Or.inl ⟨by rfl, ?_⟩) ?_ ?_
              rotate_left
              · intro w'
                go_simp
                with_reducible rfl
              rotate_left
              · simp only [Act.put, List.setIfInBounds_toArray, List.set_cons_zero, List.set_cons_succ]
                rfl
              refine pure_ (i := 1) (N := some 20) (v := ?_) (a' := ?_) #[true, true, false, false, false, false, false, false, false, false, false, false, false, false, false] rfl rfl (by kernel_rfl) (fun _ _ _ h => h) (Or.inl ⟨by rfl, ?_⟩) ?_ ?_
              rotate_left
              · intro w'
                go_simp
                with_reducible rfl
              rotate_left
              · simp only [Act.put, List.setIfInBounds_toArray, List.set_cons_zero, List.set_cons_succ]
                rfl
              refine pure_ (i := 2) (N := some 21) (v := ?_) (a' := ?_) #[true, true, true, false, false, false, false, false, false, false, false, false, false, false, false] rfl rfl (by kernel_rfl) (fun _ _ _ h => h) (Or.inl ⟨by rfl, ?_⟩) ?_ ?_
              rotate_left
              · intro w'
                go_simp
                with_reducible rfl
              rotate_left
              · simp only [Act.put, List.setIfInBounds_toArray, List.set_cons_zero, List.set_cons_succ]
                rfl
              refine pure_ (i := 3) (N := some 22) (v := ?_) (a' := ?_) #[true, true, true, true, false, false, false, false, false, false, false, false, false, false, false] rfl rfl (by kernel_rfl) (fun _ _ _ h => h) (Or.inl ⟨by rfl, ?_⟩) ?_ ?_
              rotate_left
              · intro w'
                go_simp
                with_reducible rfl
              rotate_left
              · simp only [Act.put, List.setIfInBounds_toArray, List.set_cons_zero, List.set_cons_succ]
                rfl
              refine pure_ (i := 4) (N := some 23) (v := ?_) (a' := ?_) #[true, true, true, true, true, false, false, false, false, false, false, false, false, false, false] rfl rfl (by kernel_rfl) (fun _ _ _ h => h) (Or.inl ⟨by rfl, ?_⟩) ?_ ?_
              rotate_left
              · intro w'
                go_simp
                with_reducible rfl
              rotate_left
              · simp only [Act.put, List.setIfInBounds_toArray, List.set_cons_zero, List.set_cons_succ]
                rfl
              refine pure_ (i := 5) (N := some 24) (v := ?_) (a' := ?_) #[true, true, true, true, true, true, false, false, false, false, false, false, false, false, false] rfl rfl (by kernel_rfl) (fun _ _ _ h => h) (Or.inl ⟨by rfl, ?_⟩) ?_ ?_
              rotate_left
              · intro w'
                go_simp
                with_reducible rfl
              rotate_left
              · simp only [Act.put, List.setIfInBounds_toArray, List.set_cons_zero, List.set_cons_succ]
                rfl
              refine pure_ (i := 6) (N := some 25) (v := ?_) (a' := ?_) #[true, true, true, true, true, true, true, false, false, false, false, false, false, false, false] rfl rfl (by kernel_rfl) (fun _ _ _ h => h) (Or.inl ⟨by rfl, ?_⟩) ?_ ?_
              rotate_left
              · intro w'
                go_simp
                with_reducible rfl
              rotate_left
              · simp only [Act.put, List.setIfInBounds_toArray, List.set_cons_zero, List.set_cons_succ]
                rfl
              refine pure_ (i := 7) (N := some 26) (v := .slice (some ⟨lb, lo, none⟩) i cap2) (a' := ?_) #[true, true, true, true, true, true, true, true, false, false, false, false, false, false, false] rfl rfl (by kernel_rfl) (fun _ _ _ h => h) (Or.inl ⟨by rfl, ?_⟩) ?_ ?_
              · intro w'
                exact exec_cut_hi w' 27 3 (.tmp 24) (.tmp 25) rfl 1 Try.underlying27 info3 _ n2 cap2 i rfl rfl (by omega)
              rotate_left
              · simp only [Act.put, List.setIfInBounds_toArray, List.set_cons_zero, List.set_cons_succ]
                rfl
              refine pure_ (i := 8) (N := some 27) (v := ?_) (a' := ?_) #[true, true, true, true, true, true, true, true, true, false, false, false, false, false, false] rfl rfl (by kernel_rfl) (fun _ _ _ h => h) (Or.inl ⟨by rfl, ?_⟩) ?_ ?_
              rotate_left
              · intro w'
                go_simp
                with_reducible rfl
              rotate_left
              · simp only [Act.put, List.setIfInBounds_toArray, List.set_cons_zero, List.set_cons_succ]
                rfl
              refine pure_ (i := 9) (N := some 28) (v := ?_) (a' := ?_) #[true, true, true, true, true, true, true, true, true, true, false, false, false, false, false] rfl rfl (by kernel_rfl) (fun _ _ _ h => h) (Or.inl ⟨by rfl, ?_⟩) ?_ ?_
              rotate_left
              · intro w'
                go_simp
                with_reducible rfl
              rotate_left
              · simp only [Act.put, List.setIfInBounds_toArray, List.set_cons_zero, List.set_cons_succ]
                rfl
              refine pure_ (i := 10) (N := some 29) (v := ?_) (a' := ?_) #[true, true, true, true, true, true, true, true, true, true, true, false, false, false, false] rfl rfl (by kernel_rfl) (fun _ _ _ h => h) (Or.inl ⟨by rfl, ?_⟩) ?_ ?_
              rotate_left
              · intro w'
                go_simp
                with_reducible rfl
              rotate_left
              · simp only [Act.put, List.setIfInBounds_toArray, List.set_cons_zero, List.set_cons_succ]
                rfl
              refine take_ (i := 11) (N := some 30) (v := ?_) (a' := ?_) #[true, true, true, true, true, true, true, true, true, true, true, true, false, false, false] rfl rfl (by kernel_rfl) (fun _ _ _ h => h) (Or.inl ⟨by rfl, ?_⟩) hHeld ?_ ?_
              rotate_left
              · intro w' hSw
                have hSw : w' = W9 := hSw
                subst hSw
                go_simp
                with_reducible rfl
              rotate_left
              · simp only [Act.put, List.setIfInBounds_toArray, List.set_cons_zero, List.set_cons_succ]
                rfl
              refine one_ (i := 12) (N := some 31) #[true, true, true, true, true, true, true, true, true, true, true, true, true, false, false] rfl rfl (by kernel_rfl) (by decide) (fun K hK => ?_)
              refine goes_ Try.func32 (by kernel_rfl) rfl #[.slice (some ⟨lb, lo, none⟩) i cap2, .int .i64 li] (by rfl) rfl rfl (by (try simp only [List.map_toArray, List.map_cons, List.map_nil]); first | done | rfl) ?_
              refine HHAS.out.mono ?_
              rintro e w3 ⟨rfl, rfl⟩
              refine ⟨_, rfl, ?_⟩
              refine hK.out _ _ rfl (fun hHeld => ?_)
              clear hK K
              refine norm_ (a' := ?_) ?_ ?_
              rotate_left
              · (try unfold Act.put); (try simp only [putAll, Act.put, List.setIfInBounds_toArray, List.set_cons_zero, List.set_cons_succ])
                rfl
              refine pure_ (i := 13) (N := some 32) (v := ?_) (a' := ?_) #[true, true, true, true, true, true, true, true, true, true, true, true, true, true, false] rfl rfl (by kernel_rfl) (fun _ _ _ h => h) (Or.inl ⟨by rfl, ?_⟩) ?_ ?_
              rotate_left
              · intro w'
                go_simp
                with_reducible rfl
              rotate_left
              · simp only [Act.put, List.setIfInBounds_toArray, List.set_cons_zero, List.set_cons_succ]
                rfl
              refine pure_ (i := 14) (N := some 33) (v := ?_) (a' := ?_) #[true, true, true, true, true, true, true, true, true, true, true, true, true, true, true] rfl rfl (by kernel_rfl) (fun _ _ _ h => h) (Or.inl ⟨by rfl, ?_⟩) ?_ ?_
              rotate_left
              · intro w'
                go_simp
                with_reducible rfl
              rotate_left
              · simp only [Act.put, List.setIfInBounds_toArray, List.set_cons_zero, List.set_cons_succ]
                rfl
              refine done_ (by kernel_rfl) ?_
              have HG := HG0
              clear hlc
              obtain ⟨w0, hw0⟩ : ∃ w0, W9.alloc (.cells #[.int .i64 peer, .int .i64 number, .int .i64 s1, .int .i64 s2, .int .i64 s3, .int .i64 bl, .int .i64 es, .bool true, .int .i64 ti, .slice ad dl cap] 53) = w0 := ⟨_, rfl⟩
              have hb0 : Below wr.heap.size wr w0 := by rw [← hw0]; exact HB9.out.alloc HB9.out.size _
              have hrow : w0.heap[W9.heap.size]? = some (.cells ([.int .i64 peer, .int .i64 number, .int .i64 s1, .int .i64 s2, .int .i64 s3, .int .i64 bl, .int .i64 es, .bool true, .int .i64 ti, .slice ad dl cap] : List Value).toArray 53 (0, 0)) := by rw [← hw0, heap_alloc_new]
              have hgw := lt_of_block hrow
              have HROW := Lib.hid hrow
              have HB0 := Lib.hid hb0
              have HR2 := Lib.hid (show w0.rangeAt W9.heap.size 0 [.int .i64 peer, .int .i64 number] from fun j' u hu => by
                rw [Nat.zero_add, cell_of_row w0 _ j' _ _ _ hrow]
                match j', hu with
                | 0, hu => cases hu; rfl
                | 1, hu => cases hu; rfl)
              have c5 : w0.cell? ⟨W9.heap.size, 5, none⟩ = some (.int .i64 bl) := by rw [cell_of_blk hrow]; rfl
              have c6 : w0.cell? ⟨W9.heap.size, 6, none⟩ = some (.int .i64 es) := by rw [cell_of_blk hrow]; rfl
              have HPK := Lib.hid (rpkey_any w0 peer number bl es)
              obtain ⟨key0, hkey0⟩ : ∃ key0, ofL [peer, number, bl, es] = key0 := ⟨_, rfl⟩
              have HK0 := Lib.hid hkey0
              rw [hkey0] at HPK
              have hs0 := infoK [peer, number, bl, es]
              have hz0' : zero20.size = (kv (ofL [peer, number, bl, es])).size := by rw [kv_size, ofL_length]; rfl
              rw [hkey0] at hs0 hz0'
              clear hrow hb0 hkey0
              go_wp2_with (first | (refine wpList_load_mid rfl 53 (.tmp 38) rfl rb (ro + k * 10) rfl [.int .i64 peer, .int .i64 number, .int .i64 s1, .int .i64 s2, .int .i64 s3, .int .i64 bl, .int .i64 es, .bool true, .int .i64 ti, .slice ad dl cap] _ HG.out hu53 rfl info53 ?_) | (refine wpList_load_mid rfl 34 (.tmp 40) rfl W9.heap.size 0 rfl [.int .i64 peer, .int .i64 number] _ HR2.out Try.underlying34 rfl info34 ?_))
              refine HPK.out.mono ?_
              rintro e w1 ⟨rfl, hb1⟩
              have hbw1 : Below wr.heap.size wr w1 := HB0.out.trans (hb1.mono HB0.out.size)
              have hge1 := hbw1.size
              have hr1 := (hb1.block W9.heap.size hgw).trans HROW.out
              have HZR := Lib.hid (show (w1.alloc (.cells #[.int .u8 0, .int .u8 0, .int .u8 0, .int .u8 0, .int .u8 0, .int .u8 0, .int .u8 0, .int .u8 0, .int .u8 0, .int .u8 0, .int .u8 0, .int .u8 0, .int .u8 0, .int .u8 0, .int .u8 0, .int .u8 0, .int .u8 0, .int .u8 0, .int .u8 0, .int .u8 0] 23)).heap[w1.heap.size]? = some (.cells zero20 23 (0, 0)) from heap_alloc_new _ _)
              obtain ⟨w3, hw3⟩ : ∃ w3, (w1.alloc (.cells #[.int .u8 0, .int .u8 0, .int .u8 0, .int .u8 0, .int .u8 0, .int .u8 0, .int .u8 0, .int .u8 0, .int .u8 0, .int .u8 0, .int .u8 0, .int .u8 0, .int .u8 0, .int .u8 0, .int .u8 0, .int .u8 0, .int .u8 0, .int .u8 0, .int .u8 0, .int .u8 0] 23)).setRow w1.heap.size (kv key0) = w3 := ⟨_, rfl⟩
              have hbw3 : Below wr.heap.size wr w3 := by rw [← hw3]; exact below_setRow (hbw1.alloc hbw1.size _) hbw1.size _
              have hk3 : w3.heap[w1.heap.size]? = some (.cells (kv key0) 23 (0, 0)) := by rw [← hw3]; exact setRow_heap _ _ _ _ _ _ HZR.out
              have hr3 : w3.heap[W9.heap.size]? = some (.cells ([.int .i64 peer, .int .i64 number, .int .i64 s1, .int .i64 s2, .int .i64 s3, .int .i64 bl, .int .i64 es, .bool true, .int .i64 ti, .slice ad dl cap] : List Value).toArray 53 (0, 0)) := by
                have hlt1 := lt_of_block hr1
                rw [← hw3, setRow_other _ _ _ _ (by omega), heap_alloc_old _ _ hlt1]
                exact hr1
              have c7 : w3.cell? ⟨W9.heap.size, 7, none⟩ = some (.bool true) := by rw [cell_of_blk hr3]; rfl
              have HW3 := Lib.hid hw3
              have HBW3 := Lib.hid hbw3
              have HK3 := Lib.hid hk3
              have HR3 := Lib.hid hr3
              have hgw3 := lt_of_block hr3
              have hon0 := kv_one key0
              clear hb1 hbw1 hr1 hw3 hbw3 hk3 hr3 c5 c6 hw0
              have HR33 := Lib.hid (show w3.rangeAt W9.heap.size 0 [.int .i64 peer, .int .i64 number] from fun j' u hu => by
                rw [Nat.zero_add, cell_of_row w3 _ j' _ _ _ HR3.out]
                match j', hu with
                | 0, hu => cases hu; rfl
                | 1, hu => cases hu; rfl)
              have HHO := Lib.hid (rhome_any w3 peer number)
              obtain ⟨key1, hkey1⟩ : ∃ key1, ofL [peer, number] = key1 := ⟨_, rfl⟩
              have HK1 := Lib.hid hkey1
              rw [hkey1] at HHO
              have hs1' := infoK [peer, number]
              rw [hkey1] at hs1'
              have hz1' : (kv key0).size = (kv key1).size := by rw [← HK0.out, ← hkey1, kv_size, kv_size, ofL_length, ofL_length]
              have hon1 := kv_one key1
              clear hkey1
              go_wp2_with (first | (refine wpList_store_row rfl 23 (.tmp 10) (.tmp 46) rfl w1.heap.size rfl (kv key0) rfl 23 zero20 HZR.out hs0 hz0' hon0 ?_; rw [HW3.out]) | (refine wpList_load_mid rfl 34 (.tmp 49) rfl W9.heap.size 0 rfl [.int .i64 peer, .int .i64 number] _ HR33.out Try.underlying34 rfl info34 ?_))
              refine HHO.out.mono ?_
              rintro e w4 ⟨rfl, hb4⟩
              have hk4 := (hb4.block w1.heap.size (lt_of_block HK3.out)).trans HK3.out
              have hr4 := (hb4.block W9.heap.size hgw3).trans HR3.out
              have hne41 : ¬ W9.heap.size = w1.heap.size := fun e => by
                have h1 := HK3.out
                rw [← e, HR3.out] at h1
                injection h1 with h1
                injection h1 with _ h1
                exact absurd h1 (by decide)
              obtain ⟨w5, hw5⟩ : ∃ w5, w4.setRow w1.heap.size (kv key1) = w5 := ⟨_, rfl⟩
              have HW5 := Lib.hid hw5
              have HBW5 := Lib.hid (show Below wr.heap.size wr w5 by rw [← hw5]; exact below_setRow (HBW3.out.trans (hb4.mono HBW3.out.size)) hge1 _)
              have hk5 : w5.heap[w1.heap.size]? = some (.cells (kv key1) 23 (0, 0)) := by rw [← hw5]; exact setRow_heap _ _ _ _ _ _ hk4
              have hr5 : w5.heap[W9.heap.size]? = some (.cells ([.int .i64 peer, .int .i64 number, .int .i64 s1, .int .i64 s2, .int .i64 s3, .int .i64 bl, .int .i64 es, .bool true, .int .i64 ti, .slice ad dl cap] : List Value).toArray 53 (0, 0)) := by rw [← hw5, setRow_other _ _ _ _ hne41]; exact hr4
              have HK4 := Lib.hid hk4
              have HK5 := Lib.hid hk5
              have HR5 := Lib.hid hr5
              clear hb4 hk4 hr4 hw5 hk5 hr5 c7
              have HPE := Lib.hid (peerOf_any w5 (ofL [peer, number]) (key_of _) (some ⟨lb, lo, none⟩) n2 cap2 l HN2.out (by omega) (HRL.out.below (HB19.out.trans (HBW5.out.mono HB19.out.size))))
              rw [show minL (ofL [peer, number]) l = mn from HMN.out, HK1.out] at HPE
              go_wp2_with (first | (refine wpList_store_row rfl 23 (.tmp 10) (.tmp 51) rfl w1.heap.size rfl (kv key1) rfl 23 (kv key0) HK4.out hs1' hz1' hon1 ?_; rw [HW5.out]) | (refine wpList_load_row rfl 23 (.tmp 10) rfl w1.heap.size rfl 23 (kv key1) (0, 0) _ HK5.out Try.underlying23 rfl hs1' ?_))
              refine HPE.out.mono ?_
              rintro e w6 ⟨rfl, hb6⟩
              have hbw6 : Below wr.heap.size wr w6 := HBW5.out.trans (hb6.mono HBW5.out.size)
              have hr6 := (hb6.block W9.heap.size (lt_of_block HR5.out)).trans HR5.out
              have HBW6 := Lib.hid hbw6
              have HR6 := Lib.hid hr6
              have hlc6 : w6.cell? ⟨lb, lo + i, none⟩ = some (.int .i64 li) := HLC.out w6 (HB19.out.trans (hbw6.mono HB19.out.size))
              have HD6 := Lib.hid (DataV.below (W := wr) (v := .slice ad dl cap) (d := dt) HDV.out hbw6)
              clear hb6 hbw6 hr6
              rcases Bool.eq_false_or_eq_true (mn == li) with hm | hm
              · have HCP := Lib.hid (copy_any w6 ⟨peer, number, s1, s2, s3, bl, es, true, ti, dt⟩ (.slice ad dl cap) HD6.out (by have := HDT.out; show dt.length ≤ 1000000; omega))
                replace HCP : Hid (Calls Try.prog 60 #[.agg ([.int .i64 peer, .int .i64 number, .int .i64 s1, .int .i64 s2, .int .i64 s3, .int .i64 bl, .int .i64 es, .bool true, .int .i64 ti, .slice ad dl cap] : List Value).toArray] w6 (CopyPost w6 ⟨peer, number, s1, s2, s3, bl, es, true, ti, dt⟩)) := HCP
                have hi53 : (Try.prog.info? 53).map (·.size) = some ([.int .i64 peer, .int .i64 number, .int .i64 s1, .int .i64 s2, .int .i64 s3, .int .i64 bl, .int .i64 es, .bool true, .int .i64 ti, .slice ad dl cap] : List Value).toArray.size := info53
                have HM := Lib.hid hm
                clear hm
                have hm := HM.out
                go_wp2_with (refine wpList_load_row rfl 53 (.tmp 9) rfl W9.heap.size rfl 53 ([.int .i64 peer, .int .i64 number, .int .i64 s1, .int .i64 s2, .int .i64 s3, .int .i64 bl, .int .i64 es, .bool true, .int .i64 ti, .slice ad dl cap] : List Value).toArray (0, 0) _ HR6.out hu53 rfl hi53 ?_)
                refine HCP.out.mono ?_
                rintro e w7 ⟨v', rfl, ho7, hb7⟩
                have hbw7 : Below wr.heap.size wr w7 := HBW6.out.trans (hb7.mono HBW6.out.size)
                have hsm7 := HSM.out.keep hbw7
                obtain ⟨arr, harr⟩ : ∃ arr, (Rc.cells ⟨peer, number, s1, s2, s3, bl, es, true, ti, dt⟩ v').toArray = arr := ⟨_, rfl⟩
                obtain ⟨ad5, cp5, hv5⟩ := slice_of_own ho7
                have hasz : arr.size = 10 := by rw [← harr]; rfl
                have HARR := Lib.hid harr
                rw [harr]
                have ho70 : w7.ownsRow 0 5 1 v' dt.length (cv dt) := by
                  refine ⟨ho7.1, ?_⟩
                  rcases ho7.2 with h4 | ⟨g, c, cur, h4, h5, h6⟩
                  · exact .inl h4
                  · exact .inr ⟨g, c, cur, h4, by omega, h6⟩
                have ow7 : (w7.alloc (.cells arr 53)).ownsRow W.heap.size 53 10 (.slice adm rl cm) rl (pcells rm) := by have := hsm7.own.alloc (.cells arr 53); rw [HRL2.out] at this; exact this
                have hge7 : W.heap.size ≤ (w7.alloc (.cells arr 53)).heap.size := by have := hsm7.q.bel.size; rw [World.size_alloc]; omega
                have hat : ∀ j u, (Rc.cells ⟨peer, number, s1, s2, s3, bl, es, true, ti, dt⟩ v')[j]? = some u → (w7.alloc (.cells arr 53)).cell? ((⟨w7.heap.size, 0, none⟩ : Addr).add j) = some u := fun j u hj => by
                  rw [Addr.add_lit, Nat.zero_add, World.cell?_alloc_new, ← harr, List.getElem?_toArray]
                  exact hj
                have hone : ∀ u ∈ Rc.cells ⟨peer, number, s1, s2, s3, bl, es, true, ti, dt⟩ v', u.oneCell' = true := by rw [hv5]; exact rec_one
                have HPUT := Lib.hid (fun (w8 : World) (v8 : Value) (ow8 : w8.ownsRow W.heap.size 53 10 v8 (rl + 1) (pcells rm ++ Rc.cells ⟨peer, number, s1, s2, s3, bl, es, true, ti, dt⟩ v')) (T : Turns (fun k => (Value.slice adm rl cm).ownBlock = some k) (w7.alloc (.cells arr 53)) w8) (F : Fresh (w7.alloc (.cells arr 53)) (.slice adm rl cm) v8) =>
                  hsm7.put ⟨peer, number, s1, s2, s3, bl, es, true, ti, dt⟩ v' (.cells arr 53) ho70 (by rw [HRL2.out]; exact ow8) T F)
                have hrl60 : rl ≤ 1000 := by
                  have h1 := congrArg List.length HRM.out
                  rw [List.length_map, HRL2.out] at h1
                  have h2 := List.length_filter_le (fun r => minL (ofL r.nums) l == l.getD i 0) (xs.take k)
                  rw [List.length_take] at h2
                  omega
                clear ho7 hb7 hbw7 hsm7 harr hv5 ho70
                have HOW7 := Lib.hid ow7
                have HGE7 := Lib.hid hge7
                have HAT := Lib.hid hat
                have HONE := Lib.hid hone
                clear ow7 hge7 hat hone
                go_wp2_with (first | (refine wpList_exec _ rfl (exec_buildOne _ 35 (.tmp 66) rfl 53 10 _ arr rfl Try.underlying35 info53 (zero53 _) hasz (by decide) (by decide)) ?_) | (at_builtin; refine wpList_row_append _ rfl (.tmp 64) (.tmp 67) 35 rfl W.heap.size HGE7.out 53 i0 _ 10 96 Try.underlying35 hi0 hz0 hz1 hz2 rfl (by decide) (.slice adm rl cm) rl (pcells rm) rfl HOW7.out ⟨w7.heap.size, 0, none⟩ 1 1 (Rc.cells ⟨peer, number, s1, s2, s3, bl, es, true, ti, dt⟩ v') rfl rfl HAT.out HONE.out (by omega) (by decide) ?_))
                intro v8 w8 ow8 hg8 hf8
                obtain ⟨ad8, cp8, rfl⟩ := slice_of_own ow8
                have HS8 := Lib.hid (HPUT.out w8 _ ow8 hg8 hf8)
                clear ow8 hg8 hf8
                go_wp2
                go_roundw
                case rel =>
                  refine ⟨k + 1, by omega, by go_num, _, HS8.out, ?_⟩
                  rw [if_neg Bool.false_ne_true, List.take_succ_eq_append_getElem hkx, List.filter_append, HR.out, List.map_append, HRM.out, List.filter_cons_of_pos (by rw [show minL (ofL (Rc.nums ⟨peer, number, s1, s2, s3, bl, es, true, ti, dt⟩)) l = mn from HMN.out, HLI.out]; exact HM.out)]
                  rfl
                case measure => simp [intOf]; omega
              · have HM := Lib.hid hm
                clear hm
                have hm := HM.out
                have HS8 := Lib.hid (HSM.out.keep HBW6.out)
                go_wp2
                go_roundw
                case rel =>
                  refine ⟨k + 1, by omega, by go_num, _, HS8.out, ?_⟩
                  rw [if_neg Bool.false_ne_true, List.take_succ_eq_append_getElem hkx, List.filter_append, HR.out, HRM.out, List.filter_cons_of_neg (by rw [show minL (ofL (Rc.nums ⟨peer, number, s1, s2, s3, bl, es, true, ti, dt⟩)) l = mn from HMN.out, HLI.out, HM.out]; decide)]
                  simp
                case measure => simp [intOf]; omega
            | false =>
              have HG0 := Lib.hid (show wr.drew.rangeAt rb (ro + k * 10) [.int .i64 peer, .int .i64 number, .int .i64 s1, .int .i64 s2, .int .i64 s3, .int .i64 bl, .int .i64 es, .bool false, .int .i64 ti, .slice ad dl cap] from HG0.out)
              go_wp2
              have hlc := HLC9.out
              have d2 := D2.out
              refine start_ (n := 15) (S := fun w' => w' = wr.drew) (ds := []) #[false, false, false, false, false, false, false, false, false, false, false, false, false, false, false] (by kernel_rfl) rfl rfl (rfl) (fun hHeld => ?_)
              generalize hW9 : wr.drew = W9 at *
              refine pure_ (i := 0) (N := some 19) (v := ?_) (a' := ?_) #[true, false, false, false, false, false, false, false, false, false, false, false, false, false, false] rfl rfl (by kernel_rfl) (fun _ _ _ h => h) (Or.inl ⟨by rfl, ?_⟩) ?_ ?_
              rotate_left
              · intro w'
                go_simp
                with_reducible rfl
              rotate_left
              · simp only [Act.put, List.setIfInBounds_toArray, List.set_cons_zero, List.set_cons_succ]
                rfl
              refine pure_ (i := 1) (N := some 20) (v := ?_) (a' := ?_) #[true, true, false, false, false, false, false, false, false, false, false, false, false, false, false] rfl rfl (by kernel_rfl) (fun _ _ _ h => h) (Or.inl ⟨by rfl, ?_⟩) ?_ ?_
              rotate_left
              · intro w'
                go_simp
                with_reducible rfl
              rotate_left
              · simp only [Act.put, List.setIfInBounds_toArray, List.set_cons_zero, List.set_cons_succ]
                rfl
              refine pure_ (i := 2) (N := some 21) (v := ?_) (a' := ?_) #[true, true, true, false, false, false, false, false, false, false, false, false, false, false, false] rfl rfl (by kernel_rfl) (fun _ _ _ h => h) (Or.inl ⟨by rfl, ?_⟩) ?_ ?_
              rotate_left
              · intro w'
                go_simp
                with_reducible rfl
              rotate_left
              · simp only [Act.put, List.setIfInBounds_toArray, List.set_cons_zero, List.set_cons_succ]
                rfl
              refine pure_ (i := 3) (N := some 22) (v := ?_) (a' := ?_) #[true, true, true, true, false, false, false, false, false, false, false, false, false, false, false] rfl rfl (by kernel_rfl) (fun _ _ _ h => h) (Or.inl ⟨by rfl, ?_⟩) ?_ ?_
              rotate_left
              · intro w'
                go_simp
                with_reducible rfl
              rotate_left
              · simp only [Act.put, List.setIfInBounds_toArray, List.set_cons_zero, List.set_cons_succ]
                rfl
              refine pure_ (i := 4) (N := some 23) (v := ?_) (a' := ?_) #[true, true, true, true, true, false, false, false, false, false, false, false, false, false, false] rfl rfl (by kernel_rfl) (fun _ _ _ h => h) (Or.inl ⟨by rfl, ?_⟩) ?_ ?_
              rotate_left
              · intro w'
                go_simp
                with_reducible rfl
              rotate_left
              · simp only [Act.put, List.setIfInBounds_toArray, List.set_cons_zero, List.set_cons_succ]
                rfl
              refine pure_ (i := 5) (N := some 24) (v := ?_) (a' := ?_) #[true, true, true, true, true, true, false, false, false, false, false, false, false, false, false] rfl rfl (by kernel_rfl) (fun _ _ _ h => h) (Or.inl ⟨by rfl, ?_⟩) ?_ ?_
              rotate_left
              · intro w'
                go_simp
                with_reducible rfl
              rotate_left
              · simp only [Act.put, List.setIfInBounds_toArray, List.set_cons_zero, List.set_cons_succ]
                rfl
              refine pure_ (i := 6) (N := some 25) (v := ?_) (a' := ?_) #[true, true, true, true, true, true, true, false, false, false, false, false, false, false, false] rfl rfl (by kernel_rfl) (fun _ _ _ h => h) (Or.inl ⟨by rfl, ?_⟩) ?_ ?_
              rotate_left
              · intro w'
                go_simp
                with_reducible rfl
              rotate_left
              · simp only [Act.put, List.setIfInBounds_toArray, List.set_cons_zero, List.set_cons_succ]
                rfl
              refine pure_ (i := 7) (N := some 26) (v := .slice (some ⟨lb, lo, none⟩) i cap2) (a' := ?_) #[true, true, true, true, true, true, true, true, false, false, false, false, false, false, false] rfl rfl (by kernel_rfl) (fun _ _ _ h => h) (Or.inl ⟨by rfl, ?_⟩) ?_ ?_
              · intro w'
                exact exec_cut_hi w' 27 3 (.tmp 24) (.tmp 25) rfl 1 Try.underlying27 info3 _ n2 cap2 i rfl rfl (by omega)
              rotate_left
              · simp only [Act.put, List.setIfInBounds_toArray, List.set_cons_zero, List.set_cons_succ]
                rfl
              refine pure_ (i := 8) (N := some 27) (v := ?_) (a' := ?_) #[true, true, true, true, true, true, true, true, true, false, false, false, false, false, false] rfl rfl (by kernel_rfl) (fun _ _ _ h => h) (Or.inl ⟨by rfl, ?_⟩) ?_ ?_
              rotate_left
              · intro w'
                go_simp
                with_reducible rfl
              rotate_left
              · simp only [Act.put, List.setIfInBounds_toArray, List.set_cons_zero, List.set_cons_succ]
                rfl
              refine pure_ (i := 9) (N := some 28) (v := ?_) (a' := ?_) #[true, true, true, true, true, true, true, true, true, true, false, false, false, false, false] rfl rfl (by kernel_rfl) (fun _ _ _ h => h) (Or.inl ⟨by rfl, ?_⟩) ?_ ?_
              rotate_left
              · intro w'
                go_simp
                with_reducible rfl
              rotate_left
              · simp only [Act.put, List.setIfInBounds_toArray, List.set_cons_zero, List.set_cons_succ]
                rfl
              refine pure_ (i := 10) (N := some 29) (v := ?_) (a' := ?_) #[true, true, true, true, true, true, true, true, true, true, true, false, false, false, false] rfl rfl (by kernel_rfl) (fun _ _ _ h => h) (Or.inl ⟨by rfl, ?_⟩) ?_ ?_
              rotate_left
              · intro w'
                go_simp
                with_reducible rfl
              rotate_left
              · simp only [Act.put, List.setIfInBounds_toArray, List.set_cons_zero, List.set_cons_succ]
                rfl
              refine take_ (i := 11) (N := some 30) (v := ?_) (a' := ?_) #[true, true, true, true, true, true, true, true, true, true, true, true, false, false, false] rfl rfl (by kernel_rfl) (fun _ _ _ h => h) (Or.inl ⟨by rfl, ?_⟩) hHeld ?_ ?_
              rotate_left
              · intro w' hSw
                have hSw : w' = W9 := hSw
                subst hSw
                go_simp
                with_reducible rfl
              rotate_left
              · simp only [Act.put, List.setIfInBounds_toArray, List.set_cons_zero, List.set_cons_succ]
                rfl
              refine one_ (i := 12) (N := some 31) #[true, true, true, true, true, true, true, true, true, true, true, true, true, false, false] rfl rfl (by kernel_rfl) (by decide) (fun K hK => ?_)
              refine goes_ Try.func32 (by kernel_rfl) rfl #[.slice (some ⟨lb, lo, none⟩) i cap2, .int .i64 li] (by rfl) rfl rfl (by (try simp only [List.map_toArray, List.map_cons, List.map_nil]); first | done | rfl) ?_
              refine HHAS.out.mono ?_
              rintro e w3 ⟨rfl, rfl⟩
              refine ⟨_, rfl, ?_⟩
              refine hK.out _ _ rfl (fun hHeld => ?_)
              clear hK K
              refine norm_ (a' := ?_) ?_ ?_
              rotate_left
              · (try unfold Act.put); (try simp only [putAll, Act.put, List.setIfInBounds_toArray, List.set_cons_zero, List.set_cons_succ])
                rfl
              refine pure_ (i := 13) (N := some 32) (v := ?_) (a' := ?_) #[true, true, true, true, true, true, true, true, true, true, true, true, true, true, false] rfl rfl (by kernel_rfl) (fun _ _ _ h => h) (Or.inl ⟨by rfl, ?_⟩) ?_ ?_
              rotate_left
              · intro w'
                go_simp
                with_reducible rfl
              rotate_left
              · simp only [Act.put, List.setIfInBounds_toArray, List.set_cons_zero, List.set_cons_succ]
                rfl
              refine pure_ (i := 14) (N := some 33) (v := ?_) (a' := ?_) #[true, true, true, true, true, true, true, true, true, true, true, true, true, true, true] rfl rfl (by kernel_rfl) (fun _ _ _ h => h) (Or.inl ⟨by rfl, ?_⟩) ?_ ?_
              rotate_left
              · intro w'
                go_simp
                with_reducible rfl
              rotate_left
              · simp only [Act.put, List.setIfInBounds_toArray, List.set_cons_zero, List.set_cons_succ]
                rfl
              refine done_ (by kernel_rfl) ?_
              have HG := HG0
              clear hlc
              obtain ⟨w0, hw0⟩ : ∃ w0, W9.alloc (.cells #[.int .i64 peer, .int .i64 number, .int .i64 s1, .int .i64 s2, .int .i64 s3, .int .i64 bl, .int .i64 es, .bool false, .int .i64 ti, .slice ad dl cap] 53) = w0 := ⟨_, rfl⟩
              have hb0 : Below wr.heap.size wr w0 := by rw [← hw0]; exact HB9.out.alloc HB9.out.size _
              have hrow : w0.heap[W9.heap.size]? = some (.cells ([.int .i64 peer, .int .i64 number, .int .i64 s1, .int .i64 s2, .int .i64 s3, .int .i64 bl, .int .i64 es, .bool false, .int .i64 ti, .slice ad dl cap] : List Value).toArray 53 (0, 0)) := by rw [← hw0, heap_alloc_new]
              have hgw := lt_of_block hrow
              have HROW := Lib.hid hrow
              have HB0 := Lib.hid hb0
              have HR2 := Lib.hid (show w0.rangeAt W9.heap.size 0 [.int .i64 peer, .int .i64 number] from fun j' u hu => by
                rw [Nat.zero_add, cell_of_row w0 _ j' _ _ _ hrow]
                match j', hu with
                | 0, hu => cases hu; rfl
                | 1, hu => cases hu; rfl)
              have c5 : w0.cell? ⟨W9.heap.size, 5, none⟩ = some (.int .i64 bl) := by rw [cell_of_blk hrow]; rfl
              have c6 : w0.cell? ⟨W9.heap.size, 6, none⟩ = some (.int .i64 es) := by rw [cell_of_blk hrow]; rfl
              have HPK := Lib.hid (rpkey_any w0 peer number bl es)
              obtain ⟨key0, hkey0⟩ : ∃ key0, ofL [peer, number, bl, es] = key0 := ⟨_, rfl⟩
              have HK0 := Lib.hid hkey0
              rw [hkey0] at HPK
              have hs0 := infoK [peer, number, bl, es]
              have hz0' : zero20.size = (kv (ofL [peer, number, bl, es])).size := by rw [kv_size, ofL_length]; rfl
              rw [hkey0] at hs0 hz0'
              clear hrow hb0 hkey0
              go_wp2_with (first | (refine wpList_load_mid rfl 53 (.tmp 38) rfl rb (ro + k * 10) rfl [.int .i64 peer, .int .i64 number, .int .i64 s1, .int .i64 s2, .int .i64 s3, .int .i64 bl, .int .i64 es, .bool false, .int .i64 ti, .slice ad dl cap] _ HG.out hu53 rfl info53 ?_) | (refine wpList_load_mid rfl 34 (.tmp 40) rfl W9.heap.size 0 rfl [.int .i64 peer, .int .i64 number] _ HR2.out Try.underlying34 rfl info34 ?_))
              refine HPK.out.mono ?_
              rintro e w1 ⟨rfl, hb1⟩
              have hbw1 : Below wr.heap.size wr w1 := HB0.out.trans (hb1.mono HB0.out.size)
              have hge1 := hbw1.size
              have hr1 := (hb1.block W9.heap.size hgw).trans HROW.out
              have HZR := Lib.hid (show (w1.alloc (.cells #[.int .u8 0, .int .u8 0, .int .u8 0, .int .u8 0, .int .u8 0, .int .u8 0, .int .u8 0, .int .u8 0, .int .u8 0, .int .u8 0, .int .u8 0, .int .u8 0, .int .u8 0, .int .u8 0, .int .u8 0, .int .u8 0, .int .u8 0, .int .u8 0, .int .u8 0, .int .u8 0] 23)).heap[w1.heap.size]? = some (.cells zero20 23 (0, 0)) from heap_alloc_new _ _)
              obtain ⟨w3, hw3⟩ : ∃ w3, (w1.alloc (.cells #[.int .u8 0, .int .u8 0, .int .u8 0, .int .u8 0, .int .u8 0, .int .u8 0, .int .u8 0, .int .u8 0, .int .u8 0, .int .u8 0, .int .u8 0, .int .u8 0, .int .u8 0, .int .u8 0, .int .u8 0, .int .u8 0, .int .u8 0, .int .u8 0, .int .u8 0, .int .u8 0] 23)).setRow w1.heap.size (kv key0) = w3 := ⟨_, rfl⟩
              have hbw3 : Below wr.heap.size wr w3 := by rw [← hw3]; exact below_setRow (hbw1.alloc hbw1.size _) hbw1.size _
              have hk3 : w3.heap[w1.heap.size]? = some (.cells (kv key0) 23 (0, 0)) := by rw [← hw3]; exact setRow_heap _ _ _ _ _ _ HZR.out
              have hr3 : w3.heap[W9.heap.size]? = some (.cells ([.int .i64 peer, .int .i64 number, .int .i64 s1, .int .i64 s2, .int .i64 s3, .int .i64 bl, .int .i64 es, .bool false, .int .i64 ti, .slice ad dl cap] : List Value).toArray 53 (0, 0)) := by
                have hlt1 := lt_of_block hr1
                rw [← hw3, setRow_other _ _ _ _ (by omega), heap_alloc_old _ _ hlt1]
                exact hr1
              have c7 : w3.cell? ⟨W9.heap.size, 7, none⟩ = some (.bool false) := by rw [cell_of_blk hr3]; rfl
              have HW3 := Lib.hid hw3
              have HBW3 := Lib.hid hbw3
              have HK3 := Lib.hid hk3
              have HR3 := Lib.hid hr3
              have hgw3 := lt_of_block hr3
              have hon0 := kv_one key0
              clear hb1 hbw1 hr1 hw3 hbw3 hk3 hr3 c5 c6 hw0
              have HPE := Lib.hid (peerOf_any w3 (ofL [peer, number, bl, es]) (key_of _) (some ⟨lb, lo, none⟩) n2 cap2 l HN2.out (by omega) (HRL.out.below (HB19.out.trans (HBW3.out.mono HB19.out.size))))
              rw [show minL (ofL [peer, number, bl, es]) l = mn from HMN.out, HK0.out] at HPE
              go_wp2_with (first | (refine wpList_store_row rfl 23 (.tmp 10) (.tmp 46) rfl w1.heap.size rfl (kv key0) rfl 23 zero20 HZR.out hs0 hz0' hon0 ?_; rw [HW3.out]) | (refine wpList_load_row rfl 23 (.tmp 10) rfl w1.heap.size rfl 23 (kv key0) (0, 0) _ HK3.out Try.underlying23 rfl hs0 ?_))
              refine HPE.out.mono ?_
              rintro e w6 ⟨rfl, hb6⟩
              have hbw6 : Below wr.heap.size wr w6 := HBW3.out.trans (hb6.mono HBW3.out.size)
              have hr6 := (hb6.block W9.heap.size (lt_of_block HR3.out)).trans HR3.out
              have HBW6 := Lib.hid hbw6
              have HR6 := Lib.hid hr6
              have hlc6 : w6.cell? ⟨lb, lo + i, none⟩ = some (.int .i64 li) := HLC.out w6 (HB19.out.trans (hbw6.mono HB19.out.size))
              have HD6 := Lib.hid (DataV.below (W := wr) (v := .slice ad dl cap) (d := dt) HDV.out hbw6)
              clear hb6 hbw6 hr6
              rcases Bool.eq_false_or_eq_true (mn == li) with hm | hm
              · have HCP := Lib.hid (copy_any w6 ⟨peer, number, s1, s2, s3, bl, es, false, ti, dt⟩ (.slice ad dl cap) HD6.out (by have := HDT.out; show dt.length ≤ 1000000; omega))
                replace HCP : Hid (Calls Try.prog 60 #[.agg ([.int .i64 peer, .int .i64 number, .int .i64 s1, .int .i64 s2, .int .i64 s3, .int .i64 bl, .int .i64 es, .bool false, .int .i64 ti, .slice ad dl cap] : List Value).toArray] w6 (CopyPost w6 ⟨peer, number, s1, s2, s3, bl, es, false, ti, dt⟩)) := HCP
                have hi53 : (Try.prog.info? 53).map (·.size) = some ([.int .i64 peer, .int .i64 number, .int .i64 s1, .int .i64 s2, .int .i64 s3, .int .i64 bl, .int .i64 es, .bool false, .int .i64 ti, .slice ad dl cap] : List Value).toArray.size := info53
                have HM := Lib.hid hm
                clear hm
                have hm := HM.out
                go_wp2_with (refine wpList_load_row rfl 53 (.tmp 9) rfl W9.heap.size rfl 53 ([.int .i64 peer, .int .i64 number, .int .i64 s1, .int .i64 s2, .int .i64 s3, .int .i64 bl, .int .i64 es, .bool false, .int .i64 ti, .slice ad dl cap] : List Value).toArray (0, 0) _ HR6.out hu53 rfl hi53 ?_)
                refine HCP.out.mono ?_
                rintro e w7 ⟨v', rfl, ho7, hb7⟩
                have hbw7 : Below wr.heap.size wr w7 := HBW6.out.trans (hb7.mono HBW6.out.size)
                have hsm7 := HSM.out.keep hbw7
                obtain ⟨arr, harr⟩ : ∃ arr, (Rc.cells ⟨peer, number, s1, s2, s3, bl, es, false, ti, dt⟩ v').toArray = arr := ⟨_, rfl⟩
                obtain ⟨ad5, cp5, hv5⟩ := slice_of_own ho7
                have hasz : arr.size = 10 := by rw [← harr]; rfl
                have HARR := Lib.hid harr
                rw [harr]
                have ho70 : w7.ownsRow 0 5 1 v' dt.length (cv dt) := by
                  refine ⟨ho7.1, ?_⟩
                  rcases ho7.2 with h4 | ⟨g, c, cur, h4, h5, h6⟩
                  · exact .inl h4
                  · exact .inr ⟨g, c, cur, h4, by omega, h6⟩
                have ow7 : (w7.alloc (.cells arr 53)).ownsRow W.heap.size 53 10 (.slice adm rl cm) rl (pcells rm) := by have := hsm7.own.alloc (.cells arr 53); rw [HRL2.out] at this; exact this
                have hge7 : W.heap.size ≤ (w7.alloc (.cells arr 53)).heap.size := by have := hsm7.q.bel.size; rw [World.size_alloc]; omega
                have hat : ∀ j u, (Rc.cells ⟨peer, number, s1, s2, s3, bl, es, false, ti, dt⟩ v')[j]? = some u → (w7.alloc (.cells arr 53)).cell? ((⟨w7.heap.size, 0, none⟩ : Addr).add j) = some u := fun j u hj => by
                  rw [Addr.add_lit, Nat.zero_add, World.cell?_alloc_new, ← harr, List.getElem?_toArray]
                  exact hj
                have hone : ∀ u ∈ Rc.cells ⟨peer, number, s1, s2, s3, bl, es, false, ti, dt⟩ v', u.oneCell' = true := by rw [hv5]; exact rec_one
                have HPUT := Lib.hid (fun (w8 : World) (v8 : Value) (ow8 : w8.ownsRow W.heap.size 53 10 v8 (rl + 1) (pcells rm ++ Rc.cells ⟨peer, number, s1, s2, s3, bl, es, false, ti, dt⟩ v')) (T : Turns (fun k => (Value.slice adm rl cm).ownBlock = some k) (w7.alloc (.cells arr 53)) w8) (F : Fresh (w7.alloc (.cells arr 53)) (.slice adm rl cm) v8) =>
                  hsm7.put ⟨peer, number, s1, s2, s3, bl, es, false, ti, dt⟩ v' (.cells arr 53) ho70 (by rw [HRL2.out]; exact ow8) T F)
                have hrl60 : rl ≤ 1000 := by
                  have h1 := congrArg List.length HRM.out
                  rw [List.length_map, HRL2.out] at h1
                  have h2 := List.length_filter_le (fun r => minL (ofL r.nums) l == l.getD i 0) (xs.take k)
                  rw [List.length_take] at h2
                  omega
                clear ho7 hb7 hbw7 hsm7 harr hv5 ho70
                have HOW7 := Lib.hid ow7
                have HGE7 := Lib.hid hge7
                have HAT := Lib.hid hat
                have HONE := Lib.hid hone
                clear ow7 hge7 hat hone
                go_wp2_with (first | (refine wpList_exec _ rfl (exec_buildOne _ 35 (.tmp 66) rfl 53 10 _ arr rfl Try.underlying35 info53 (zero53 _) hasz (by decide) (by decide)) ?_) | (at_builtin; refine wpList_row_append _ rfl (.tmp 64) (.tmp 67) 35 rfl W.heap.size HGE7.out 53 i0 _ 10 96 Try.underlying35 hi0 hz0 hz1 hz2 rfl (by decide) (.slice adm rl cm) rl (pcells rm) rfl HOW7.out ⟨w7.heap.size, 0, none⟩ 1 1 (Rc.cells ⟨peer, number, s1, s2, s3, bl, es, false, ti, dt⟩ v') rfl rfl HAT.out HONE.out (by omega) (by decide) ?_))
                intro v8 w8 ow8 hg8 hf8
                obtain ⟨ad8, cp8, rfl⟩ := slice_of_own ow8
                have HS8 := Lib.hid (HPUT.out w8 _ ow8 hg8 hf8)
                clear ow8 hg8 hf8
                go_wp2
                go_roundw
                case rel =>
                  refine ⟨k + 1, by omega, by go_num, _, HS8.out, ?_⟩
                  rw [if_neg Bool.false_ne_true, List.take_succ_eq_append_getElem hkx, List.filter_append, HR.out, List.map_append, HRM.out, List.filter_cons_of_pos (by rw [show minL (ofL (Rc.nums ⟨peer, number, s1, s2, s3, bl, es, false, ti, dt⟩)) l = mn from HMN.out, HLI.out]; exact HM.out)]
                  rfl
                case measure => simp [intOf]; omega
              · have HM := Lib.hid hm
                clear hm
                have hm := HM.out
                have HS8 := Lib.hid (HSM.out.keep HBW6.out)
                go_wp2
                go_roundw
                case rel =>
                  refine ⟨k + 1, by omega, by go_num, _, HS8.out, ?_⟩
                  rw [if_neg Bool.false_ne_true, List.take_succ_eq_append_getElem hkx, List.filter_append, HR.out, HRM.out, List.filter_cons_of_neg (by rw [show minL (ofL (Rc.nums ⟨peer, number, s1, s2, s3, bl, es, false, ti, dt⟩)) l = mn from HMN.out, HLI.out, HM.out]; decide)]
                  simp
                case measure => simp [intOf]; omega
        · have hkn2 : k = n1 := by omega
          subst hkn2
          have d2 : decide ((k : Int) < (k : Int)) = false := by simp
          have D2 := Lib.hid d2
          clear d2
          have hI : xs.take k = xs := List.take_of_length_le (by rw [← HN1.out]; exact Nat.le_refl _)
          rw [hI] at hrm
          have HRM0 := Lib.hid hrm
          clear hrm hI
          go_wp2
          have d2 := D2.out
          refine start_ (n := 15) (S := fun w' => w' = wr.drew) (ds := []) #[false, false, false, false, false, false, false, false, false, false, false, false, false, false, false] (by kernel_rfl) rfl rfl (rfl) (fun hHeld => ?_)
          generalize hW9 : wr.drew = W9 at *
          refine pure_ (i := 0) (N := some 19) (v := ?_) (a' := ?_) #[true, false, false, false, false, false, false, false, false, false, false, false, false, false, false] rfl rfl (by kernel_rfl) (fun _ _ _ h => h) (Or.inl ⟨by rfl, ?_⟩) ?_ ?_
          rotate_left
          · intro w'
            go_simp
            with_reducible rfl
          rotate_left
          · simp only [Act.put, List.setIfInBounds_toArray, List.set_cons_zero, List.set_cons_succ]
            rfl
          refine pure_ (i := 1) (N := some 20) (v := ?_) (a' := ?_) #[true, true, false, false, false, false, false, false, false, false, false, false, false, false, false] rfl rfl (by kernel_rfl) (fun _ _ _ h => h) (Or.inl ⟨by rfl, ?_⟩) ?_ ?_
          rotate_left
          · intro w'
            go_simp
            with_reducible rfl
          rotate_left
          · simp only [Act.put, List.setIfInBounds_toArray, List.set_cons_zero, List.set_cons_succ]
            rfl
          refine pure_ (i := 2) (N := some 21) (v := ?_) (a' := ?_) #[true, true, true, false, false, false, false, false, false, false, false, false, false, false, false] rfl rfl (by kernel_rfl) (fun _ _ _ h => h) (Or.inl ⟨by rfl, ?_⟩) ?_ ?_
          rotate_left
          · intro w'
            go_simp
            with_reducible rfl
          rotate_left
          · simp only [Act.put, List.setIfInBounds_toArray, List.set_cons_zero, List.set_cons_succ]
            rfl
          refine pure_ (i := 3) (N := some 22) (v := ?_) (a' := ?_) #[true, true, true, true, false, false, false, false, false, false, false, false, false, false, false] rfl rfl (by kernel_rfl) (fun _ _ _ h => h) (Or.inl ⟨by rfl, ?_⟩) ?_ ?_
          rotate_left
          · intro w'
            go_simp
            with_reducible rfl
          rotate_left
          · simp only [Act.put, List.setIfInBounds_toArray, List.set_cons_zero, List.set_cons_succ]
            rfl
          refine pure_ (i := 4) (N := some 23) (v := ?_) (a' := ?_) #[true, true, true, true, true, false, false, false, false, false, false, false, false, false, false] rfl rfl (by kernel_rfl) (fun _ _ _ h => h) (Or.inl ⟨by rfl, ?_⟩) ?_ ?_
          rotate_left
          · intro w'
            go_simp
            with_reducible rfl
          rotate_left
          · simp only [Act.put, List.setIfInBounds_toArray, List.set_cons_zero, List.set_cons_succ]
            rfl
          refine pure_ (i := 5) (N := some 24) (v := undef) (a' := ?_) #[true, true, true, true, true, true, false, false, false, false, false, false, false, false, false] rfl rfl (by kernel_rfl) (fun _ _ _ h => h) (Or.inr ⟨by rfl, rfl⟩) ?_ ?_
          rotate_left
          · simp only [Act.put, List.setIfInBounds_toArray, List.set_cons_zero, List.set_cons_succ]
            rfl
          refine pure_ (i := 6) (N := some 25) (v := undef) (a' := ?_) #[true, true, true, true, true, true, true, false, false, false, false, false, false, false, false] rfl rfl (by kernel_rfl) (fun _ _ _ h => h) (Or.inr ⟨by rfl, rfl⟩) ?_ ?_
          rotate_left
          · simp only [Act.put, List.setIfInBounds_toArray, List.set_cons_zero, List.set_cons_succ]
            rfl
          refine pure_ (i := 7) (N := some 26) (v := undef) (a' := ?_) #[true, true, true, true, true, true, true, true, false, false, false, false, false, false, false] rfl rfl (by kernel_rfl) (fun _ _ _ h => h) (Or.inr ⟨by rfl, rfl⟩) ?_ ?_
          rotate_left
          · simp only [Act.put, List.setIfInBounds_toArray, List.set_cons_zero, List.set_cons_succ]
            rfl
          refine pure_ (i := 8) (N := some 27) (v := undef) (a' := ?_) #[true, true, true, true, true, true, true, true, true, false, false, false, false, false, false] rfl rfl (by kernel_rfl) (fun _ _ _ h => h) (Or.inr ⟨by rfl, rfl⟩) ?_ ?_
          rotate_left
          · simp only [Act.put, List.setIfInBounds_toArray, List.set_cons_zero, List.set_cons_succ]
            rfl
          refine pure_ (i := 9) (N := some 28) (v := undef) (a' := ?_) #[true, true, true, true, true, true, true, true, true, true, false, false, false, false, false] rfl rfl (by kernel_rfl) (fun _ _ _ h => h) (Or.inr ⟨by rfl, rfl⟩) ?_ ?_
          rotate_left
          · simp only [Act.put, List.setIfInBounds_toArray, List.set_cons_zero, List.set_cons_succ]
            rfl
          refine pure_ (i := 10) (N := some 29) (v := undef) (a' := ?_) #[true, true, true, true, true, true, true, true, true, true, true, false, false, false, false] rfl rfl (by kernel_rfl) (fun _ _ _ h => h) (Or.inr ⟨by rfl, rfl⟩) ?_ ?_
          rotate_left
          · simp only [Act.put, List.setIfInBounds_toArray, List.set_cons_zero, List.set_cons_succ]
            rfl
          refine pure_ (i := 11) (N := some 30) (v := undef) (a' := ?_) #[true, true, true, true, true, true, true, true, true, true, true, true, false, false, false] rfl rfl (by kernel_rfl) (fun _ _ _ h => h) (Or.inr ⟨by rfl, rfl⟩) ?_ ?_
          rotate_left
          · simp only [Act.put, List.setIfInBounds_toArray, List.set_cons_zero, List.set_cons_succ]
            rfl
          refine pure_ (i := 12) (N := some 31) (v := undef) (a' := ?_) #[true, true, true, true, true, true, true, true, true, true, true, true, true, false, false] rfl rfl (by kernel_rfl) (fun _ _ _ h => h) (Or.inr ⟨by rfl, rfl⟩) ?_ ?_
          rotate_left
          · simp only [Act.put, List.setIfInBounds_toArray, List.set_cons_zero, List.set_cons_succ]
            rfl
          refine pure_ (i := 13) (N := some 32) (v := undef) (a' := ?_) #[true, true, true, true, true, true, true, true, true, true, true, true, true, true, false] rfl rfl (by kernel_rfl) (fun _ _ _ h => h) (Or.inr ⟨by rfl, rfl⟩) ?_ ?_
          rotate_left
          · simp only [Act.put, List.setIfInBounds_toArray, List.set_cons_zero, List.set_cons_succ]
            rfl
          refine pure_ (i := 14) (N := some 33) (v := ?_) (a' := ?_) #[true, true, true, true, true, true, true, true, true, true, true, true, true, true, true] rfl rfl (by kernel_rfl) (fun _ _ _ h => h) (Or.inl ⟨by rfl, ?_⟩) ?_ ?_
          rotate_left
          · intro w'
            go_simp
            with_reducible rfl
          rotate_left
          · simp only [Act.put, List.setIfInBounds_toArray, List.set_cons_zero, List.set_cons_succ]
            rfl
          refine done_ (by kernel_rfl) ?_
          have hsm9 := HSM.out.keep HB9.out
          have hvm : vm = .slice adm rl cm := HVM.out
          have hoo := hsm9.q.oo
          rw [HRJ.out] at hoo
          have howo : (W9.alloc (.cells #[.slice adm rl cm] 35)).ownsRow W.heap.size 35 1 (.slice ado i co) i vs := hoo.alloc _
          have hgeo : W.heap.size ≤ (W9.alloc (.cells #[.slice adm rl cm] 35)).heap.size := by have := hsm9.q.bel.size; rw [World.size_alloc]; omega
          have HPUSH := Lib.hid (fun (w8 : World) (v8 : Value) (ow8 : w8.ownsRow W.heap.size 35 1 v8 (i + 1) (vs ++ [.slice adm rl cm])) (T : Turns (fun k => (Value.slice ado i co).ownBlock = some k) (W9.alloc (.cells #[.slice adm rl cm] 35)) w8) =>
            hsm9.push (o := .cells #[.slice adm rl cm] 35) (w3 := w8) (v' := v8) (by rw [HRJ.out]; exact ow8) T)
          have HOWO := Lib.hid howo
          have HGEO := Lib.hid hgeo
          clear hsm9 hoo howo hgeo
          go_wp2_with (at_builtin; refine wpList_row_append _ rfl (.tmp 69) (.tmp 71) 40 rfl W.heap.size HGEO.out 35 i1o _ 1 24 Try.underlying40 hio hzo0 hzo1 hzo2 rfl (by decide) (.slice ado i co) i vs rfl HOWO.out ⟨W9.heap.size, 0, none⟩ 1 1 [.slice adm rl cm] rfl rfl at_cell35 (one_slice _ _ _) (by omega) (by decide) ?_)
          intro v8 w8 ow8 hg8 hf8
          obtain ⟨ad8, cp8, rfl⟩ := slice_of_own ow8
          have HS8 := Lib.hid (HPUSH.out w8 _ ow8 hg8)
          clear ow8 hg8 hf8
          go_wp2
          go_roundw
          case rel =>
            refine ⟨i + 1, by omega, by go_num, _, _, HS8.out, by rw [List.length_append, HRJ.out]; rfl, fun q hq => ?_⟩
            by_cases hqi : q < i
            · rw [getD_append_lt rows rm [] q (by rw [HRJ.out]; exact hqi)]
              exact HROWS.out q hqi
            · have hqe : q = i := by omega
              subst hqe
              rw [getD_append_eq rows rm [] q HRJ.out.symm, HRM0.out]
              unfold rowR
              rw [HLI.out, HDUP.out]
          case measure => simp [intOf]; omega
    · have hin : i = n2 := by omega
      subst hin
      go_wp2
      go_ret
      exact ⟨_, rows, vs, rfl, HSQ.out, by rw [HRJ.out, HN2.out], fun q hq => HROWS.out q (by rw [HN2.out]; exact hq)⟩
end Go.Proofs.Ytbkcopejclcfdaa

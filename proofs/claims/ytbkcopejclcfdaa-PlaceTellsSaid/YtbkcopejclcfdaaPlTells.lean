/- PlaceTells: the walk. -/
import Derived.Test.YtbkcopejclcfdaaPlRsp
import Derived.Test.YtbkcopejclcfdaaPlOne
namespace Go.Proofs.Ytbkcopejclcfdaa
open Go.RowKit Go.Proofs.YtbkcopejclcfdaaW.PrintLast Go.Proofs.Ytbkcopejclcfdaa.Sum
set_option linter.unusedVariables false
set_option linter.unusedSimpArgs false
theorem eqgP : Try.prog.eqGuardType Try.prog.depth 23 = false := by kernel_rfl
theorem exec_binP {o : Oper} {a : Act} {w : World} {v vx vy : Value} (op : BinOp) (t t2 : TypeId) (x y : Operand) (ho : o.op = .binOp op t x y t2) (hx : a.eval x = vx) (hy : a.eval y = vy) (hg : (eqGuard op t x y vx vy).run Try.prog w = .ok () w) (hr : (binOp op t vx vy).run Try.prog w = .ok v w) : (execOp a.eval o).run Try.prog w = .ok (.value v) w := by
  unfold execOp
  simp [ho, hx, hy, Sem.run_bind, hg, hr, Result.andThen_ok, Sem.run_pure]
theorem neqP (w : World) (a : List Int) (ha : a.length = 20) : (binOp .neq 23 (.agg (kv a)) (.agg (kv a))).run Try.prog w = .ok (.bool false) w := by
  rw [run_neq_key w a a ha ha]
  simp
theorem spread_nil (W : World) (A1 A2 : Option Addr) (n1 cap1 cap2 : Nat) : Calls Try.prog 25 #[.slice A1 n1 cap1, .slice A2 0 cap2] W fun e W' => e = .returned (.slice none 0 0) ∧ W = W' := by
  go_enter Try.func25, Try.ntmps25
  go_wp2
  go_ret
  exact ⟨rfl, rfl⟩
/-- rows that came out of Spread, whether there are peers or none -/
def XRows (W : World) (v : Value) (l : List Int) (xs : List Rc) : Prop := ∃ ax cx, v = .slice ax l.length cx ∧ ∀ i, i < l.length → ∃ g off adx cpx, ax = some ⟨g, off, none⟩ ∧ g < W.heap.size ∧ W.cell? ⟨g, off + i, none⟩ = some (.slice adx (xs.filter (fun r => tgt l r == i)).length cpx) ∧ Recs W adx (xs.filter (fun r => tgt l r == i))
theorem XRows.below {W W' : World} {v : Value} {l : List Int} {xs : List Rc} (h : XRows W v l xs) (hb : Below W.heap.size W W') : XRows W' v l xs := by
  obtain ⟨ax, cx, e, h1⟩ := h
  refine ⟨ax, cx, e, fun i hi => ?_⟩
  obtain ⟨g, off, adx, cpx, h2, h3, h4, h5⟩ := h1 i hi
  exact ⟨g, off, adx, cpx, h2, Nat.lt_of_lt_of_le h3 hb.size, by rw [hb.cell (p := ⟨g, off + i, none⟩) h3]; exact h4, h5.below hb⟩
theorem xspread_any (W : World) (A1 A2 : Option Addr) (n1 n2 cap1 cap2 : Nat) (xs : List Rc) (l : List Int) (hn1 : n1 = xs.length) (hn2 : n2 = l.length) (hl1 : n1 ≤ 1000) (hl2 : n2 ≤ 1000) (hd : ∀ r ∈ xs, r.data.length ≤ 1000) (hr1 : Recs W A1 xs) (hr2 : Reads W A2 (ints l)) :
    Calls Try.prog 25 #[.slice A1 n1 cap1, .slice A2 n2 cap2] W fun e W' => ∃ ax cx, e = .returned (.slice ax n2 cx) ∧ XRows W' (.slice ax n2 cx) l xs ∧ Below W.heap.size W W' := by
  by_cases h0 : n2 = 0
  · subst h0
    refine (spread_nil W A1 A2 n1 cap1 cap2).mono fun e W' ⟨he, hw⟩ => ⟨none, 0, he, ⟨none, 0, by rw [← hn2], fun i hi => by omega⟩, by rw [← hw]; exact Below.refl _ _⟩
  · refine (spread_any W A1 A2 n1 n2 cap1 cap2 xs l hn1 hn2 hl1 hl2 h0 hd hr1 hr2).mono ?_
    rintro e W' ⟨g, rows, vs, he, hSP, hrows⟩
    refine ⟨some ⟨g, 0, none⟩, n2, by rw [hn2]; exact he, ⟨some ⟨g, 0, none⟩, n2, by rw [hn2], fun i hi => ?_⟩, hSP.bel⟩
    obtain ⟨ad, cp, hv, hrec⟩ := hSP.recs i hi
    rw [hrows i hi] at hv hrec
    have hlv := hSP.lv
    refine ⟨g, 0, ad, cp, rfl, lt_of_block hSP.blk, ?_, hrec⟩
    rw [Nat.zero_add, cell_of_blk hSP.blk, List.getElem?_toArray]
    rw [List.getD_eq_getElem?_getD, List.getElem?_eq_getElem (by rw [hlv]; exact hi)] at hv
    rw [List.getElem?_eq_getElem (by rw [hlv]; exact hi)]
    exact congrArg some hv
theorem yspread_any (W : World) (A1 A2 : Option Addr) (n1 n2 cap1 cap2 : Nat) (xs : List Rc) (l : List Int) (hn1 : n1 = xs.length) (hn2 : n2 = l.length) (hl1 : n1 ≤ 1000) (hl2 : n2 ≤ 1000) (hcap : n2 ≤ cap2) (hd : ∀ r ∈ xs, r.data.length ≤ 1000) (hr1 : Recs W A1 xs) (hr2 : Reads W A2 (ints l)) :
    Calls Try.prog 26 #[.slice A1 n1 cap1, .slice A2 n2 cap2] W fun e W' => ∃ ax cx, e = .returned (.slice ax n2 cx) ∧ XRows W' (.slice ax n2 cx) l xs ∧ Below W.heap.size W W' := by
  refine (rspread_any W A1 A2 n1 n2 cap1 cap2 xs l hn1 hn2 hl1 hl2 hcap hd hr1 hr2).mono ?_
  rintro e W' ⟨vo, rows, vs, he, hSQ, hlen, hrows⟩
  obtain ⟨ax, cx, hvo⟩ := slice_of_own hSQ.oo
  rw [hlen, ← hn2] at hvo
  subst hvo
  refine ⟨ax, cx, he, ⟨ax, cx, by rw [hn2], fun i hi => ?_⟩, hSQ.bel⟩
  obtain ⟨ad, cp, hv, hrec⟩ := hSQ.recs i (by rw [hlen]; exact hi)
  rw [hrows i hi, rowR_eq l xs i hi] at hv hrec
  have hlv := hSQ.lv
  have hoo := hSQ.oo
  rw [hlen, ← hn2] at hoo
  have hvi : vs[i]? = some (.slice ad (xs.filter (fun r => tgt l r == i)).length cp) := by
    rw [List.getD_eq_getElem?_getD, List.getElem?_eq_getElem (by rw [hlv, hlen]; exact hi)] at hv
    rw [List.getElem?_eq_getElem (by rw [hlv, hlen]; exact hi)]
    exact congrArg some hv
  obtain ⟨b, off, h1, h2, h3⟩ := Reads.of_own hoo i _ hvi
  exact ⟨b, off, ad, cp, h1, h2, h3, hrec⟩
set_option maxHeartbeats 4000000 in
set_option maxRecDepth 20000 in
theorem placeTells_any (W : World) (peer number block esi : Int) (k : List Int) (hk : Key20 k) (A1 A2 : Option Addr) (n1 n2 cap1 cap2 : Nat) (l : List Int) (xs : List Rc) (hn1 : n1 = xs.length) (hn2 : n2 = l.length) (hcap : n2 ≤ cap2) (hl : n1 ≤ 9223372036854775807) (hr1 : Recs W A1 xs) (hr2 : Reads W A2 (ints l)) :
    Calls Try.prog 6 #[.agg #[.int .i64 peer, .int .i64 number], .int .i64 block, .int .i64 esi, .agg (kv k), .slice A2 n2 cap2, .slice A1 n1 cap1] W fun e W' => e = .returned (.bool true) ∧ Below W.heap.size W W' := by
  obtain ⟨W1, hW1⟩ : ∃ W1, (W.alloc (.cells #[.int .i64 peer, .int .i64 number] 34)).alloc (.cells (kv k) 23) = W1 := ⟨_, rfl⟩
  have hb1 : Below W.heap.size W W1 := by rw [← hW1]; exact ((Below.refl _ _).alloc (Nat.le_refl _) _).alloc (by simp) _
  have hg1 : W1.heap[W.heap.size + 1]? = some (.cells (kv k) 23 (0, 0)) := by rw [← hW1, heap_alloc2_new]
  have hi1 : W1.heap[W.heap.size]? = some (.cells #[.int .i64 peer, .int .i64 number] 34 (0, 0)) := by rw [← hW1, heap_alloc2_old]
  have hgl := lt_of_block hg1
  have hil := lt_of_block hi1
  have HB1 := Lib.hid hb1
  have HG := Lib.hid (fun (w : World) (h : Below W1.heap.size W1 w) => ((h.block (W.heap.size + 1) hgl).trans hg1 : w.heap[W.heap.size + 1]? = some (.cells (kv k) 23 (0, 0))))
  have HI := Lib.hid (fun (w : World) (h : Below W1.heap.size W1 w) => (fun j u hj => by
    rw [Nat.zero_add, cell_of_row w _ j _ _ _ ((h.block W.heap.size hil).trans hi1)]
    match j, hj with
    | 0, hj => cases hj; rfl
    | 1, hj => cases hj; rfl : w.rangeAt W.heap.size 0 [.int .i64 peer, .int .i64 number]))
  have HK := Lib.hid hk
  have hi : (Try.prog.info? 23).map (·.size) = some (kv k).size := by rw [kv_size, hk.len]; exact info23
  have hu34 := Try.underlying34
  have HN1 := Lib.hid hn1
  have HN2 := Lib.hid hn2
  have HR1 := Lib.hid (hr1.below hb1)
  have HR2 := Lib.hid (hr2.below hb1)
  have HFW := Lib.hid (fun (w : World) (hb : Below W1.heap.size W1 w) => few_any w A1 n1 cap1 xs hn1 hl ((hr1.below hb1).below hb))
  obtain ⟨fb, hfb⟩ : ∃ fb, fewB xs = fb := ⟨_, rfl⟩
  rw [hfb] at HFW
  have HFB := Lib.hid hfb
  clear hb1 hg1 hi1 hk hn1 hn2 hr1 hr2 hfb hl
  go_enter Try.func6, Try.ntmps6
  go_wp2_with fail
  refine (palive_any W1).mono ?_
  rintro e w2 ⟨rfl, hb⟩
  have HB2 := Lib.hid hb
  have HF2 := Lib.hid (HFW.out w2 hb)
  clear hb
  by_cases c1 : (30 : Int) < (n2 : Int)
  · have HBF := Lib.hid (HB1.out.trans (HB2.out.mono HB1.out.size))
    go_wp2
    go_ret
    exact ⟨rfl, HBF.out⟩
  have hn30 : n2 ≤ 30 := by omega
  go_wp2_with fail
  refine HF2.out.mono ?_
  rintro e w3 ⟨rfl, hb⟩
  have HB3 := Lib.hid (HB2.out.trans (hb.mono HB2.out.size))
  clear hb
  rcases Bool.eq_false_or_eq_true fb with hf | hf
  case inr =>
    subst hf
    have HBF := Lib.hid (HB1.out.trans (HB3.out.mono HB1.out.size))
    go_wp2
    go_ret
    exact ⟨rfl, HBF.out⟩
  subst hf
  obtain ⟨hx60, hx100⟩ := fewB_len HFB.out
  have hn60 : n1 ≤ 60 := by rw [HN1.out]; exact hx60
  have HX100 := Lib.hid hx100
  have hbox3 := HG.out w3 HB3.out
  have HP1 := Lib.hid (peer_any w3 k HK.out A2 n2 cap2 l HN2.out (by omega) (HR2.out.below HB3.out))
  obtain ⟨mn, hmn⟩ : ∃ mn, minL k l = mn := ⟨_, rfl⟩
  obtain ⟨nb, hnb⟩ : ∃ nb, (!decide (n2 = 0)) = nb := ⟨_, rfl⟩
  rw [hmn, hnb] at HP1
  clear hx60 hx100
  go_wp2_with (refine wpList_load_row rfl 23 (.tmp 9) rfl (W.heap.size + 1) rfl 23 (kv k) (0, 0) _ hbox3 Try.underlying23 rfl hi ?_)
  refine HP1.out.mono ?_
  rintro e w4 ⟨rfl, hb⟩
  have hb4 := HB3.out.trans (hb.mono HB3.out.size)
  have HB4 := Lib.hid hb4
  have hbox4 := HG.out w4 hb4
  have HP2 := Lib.hid (peerOf_any w4 k HK.out A2 n2 cap2 l HN2.out (by omega) (HR2.out.below hb4))
  rw [hmn, hnb] at HP2
  clear hb hb4 hmn hnb hbox3
  go_wp2_with (refine wpList_load_row rfl 23 (.tmp 9) rfl (W.heap.size + 1) rfl 23 (kv k) (0, 0) _ hbox4 Try.underlying23 rfl hi ?_)
  refine HP2.out.mono ?_
  rintro e w5 ⟨rfl, hb⟩
  have hb5 := HB4.out.trans (hb.mono HB4.out.size)
  have HB5 := Lib.hid hb5
  have HX := Lib.hid (xspread_any w5 A1 A2 n1 n2 cap1 cap2 xs l HN1.out HN2.out (by omega) (by omega) (fun r h => by have := HX100.out r h; omega) (HR1.out.below hb5) (HR2.out.below hb5))
  clear hb hb5 hbox4
  go_wp2_with fail
  refine HX.out.mono ?_
  rintro e w6 ⟨axx, cxx, rfl, hxr, hb⟩
  have hb6 := HB5.out.trans (hb.mono HB5.out.size)
  have HB6 := Lib.hid hb6
  have HXR := Lib.hid hxr
  have HY := Lib.hid (yspread_any w6 A1 A2 n1 n2 cap1 cap2 xs l HN1.out HN2.out (by omega) (by omega) hcap (fun r h => by have := HX100.out r h; omega) (HR1.out.below hb6) (HR2.out.below hb6))
  clear hb hb6 hxr
  go_wp2_with fail
  refine HY.out.mono ?_
  rintro e w8 ⟨axy, cxy, rfl, hyr, hb⟩
  have hb8 := HB6.out.trans (hb.mono HB6.out.size)
  have hb8d := Below.drew hb8
  have HB8 := Lib.hid hb8d
  have HXR8 := Lib.hid ((HXR.out.below hb).below (Below.drew (Below.refl _ _)))
  have HYR8 := Lib.hid (hyr.below (Below.drew (Below.refl _ _)))
  have HR8 := Lib.hid (HI.out w8.drew hb8d)
  have HL8 := Lib.hid (show W.heap.size < w8.drew.heap.size from Nat.lt_of_lt_of_le hil hb8d.size)
  have HB80 := Lib.hid (Below.refl w8.drew.heap.size w8.drew)
  have hqq : (mn != mn) = false := by simp
  clear hb hb8 hb8d hyr
  go_wp2
  refine start_ (n := 33) (S := fun w' => w'.rangeAt W.heap.size 0 [.int .i64 peer, .int .i64 number]) (ds := []) #[false, false, false, false, false, false, false, false, false, false, false, false, false, false, false, false, false, false, false, false, false, false, false, false, false, false, false, false, false, false, false, false, false] (by kernel_rfl) rfl rfl (HR8.out) (fun hHeld => ?_)
  have hbz := HB8.out
  have hbq := HB80.out
  have hlz := HL8.out
  generalize hW9 : w8.drew = W9 at *
  refine take_ (i := 0) (N := some 53) (v := .agg ([.int .i64 peer, .int .i64 number] : List Value).toArray) (a' := ?_) #[true, false, false, false, false, false, false, false, false, false, false, false, false, false, false, false, false, false, false, false, false, false, false, false, false, false, false, false, false, false, false, false, false] rfl rfl (by kernel_rfl) (fun _ _ _ h => h) (yieldsIf_load_mid (by rfl) _ _ rfl _ _ rfl _ _ (fun w' s => s) hu34 rfl info34) hHeld ?_ ?_
  rotate_left
  · simp only [Act.put, List.setIfInBounds_toArray, List.set_cons_zero, List.set_cons_succ]
    rfl
  refine pure_ (i := 1) (N := some 54) (v := ?_) (a' := ?_) #[true, true, false, false, false, false, false, false, false, false, false, false, false, false, false, false, false, false, false, false, false, false, false, false, false, false, false, false, false, false, false, false, false] rfl rfl (by kernel_rfl) (fun _ _ _ h => h) (Or.inl ⟨by rfl, ?_⟩) ?_ ?_
  rotate_left
  · intro w'
    go_simp
    with_reducible rfl
  rotate_left
  · simp only [Act.put, List.setIfInBounds_toArray, List.set_cons_zero, List.set_cons_succ]
    rfl
  refine pure_ (i := 2) (N := some 55) (v := ?_) (a' := ?_) #[true, true, true, false, false, false, false, false, false, false, false, false, false, false, false, false, false, false, false, false, false, false, false, false, false, false, false, false, false, false, false, false, false] rfl rfl (by kernel_rfl) (fun _ _ _ h => h) (Or.inl ⟨by rfl, ?_⟩) ?_ ?_
  rotate_left
  · intro w'
    go_simp
    with_reducible rfl
  rotate_left
  · simp only [Act.put, List.setIfInBounds_toArray, List.set_cons_zero, List.set_cons_succ]
    rfl
  refine take_ (i := 4) (N := some 57) (v := .agg ([.int .i64 peer, .int .i64 number] : List Value).toArray) (a' := ?_) #[true, true, true, false, true, false, false, false, false, false, false, false, false, false, false, false, false, false, false, false, false, false, false, false, false, false, false, false, false, false, false, false, false] rfl rfl (by kernel_rfl) (fun _ _ _ h => h) (yieldsIf_load_mid (by rfl) _ _ rfl _ _ rfl _ _ (fun w' s => s) hu34 rfl info34) hHeld ?_ ?_
  rotate_left
  · simp only [Act.put, List.setIfInBounds_toArray, List.set_cons_zero, List.set_cons_succ]
    rfl
  refine pure_ (i := 5) (N := some 58) (v := ?_) (a' := ?_) #[true, true, true, false, true, true, false, false, false, false, false, false, false, false, false, false, false, false, false, false, false, false, false, false, false, false, false, false, false, false, false, false, false] rfl rfl (by kernel_rfl) (fun _ _ _ h => h) (Or.inl ⟨by rfl, ?_⟩) ?_ ?_
  rotate_left
  · intro w'
    go_simp
    with_reducible rfl
  rotate_left
  · simp only [Act.put, List.setIfInBounds_toArray, List.set_cons_zero, List.set_cons_succ]
    rfl
  refine pure_ (i := 6) (N := some 59) (v := ?_) (a' := ?_) #[true, true, true, false, true, true, true, false, false, false, false, false, false, false, false, false, false, false, false, false, false, false, false, false, false, false, false, false, false, false, false, false, false] rfl rfl (by kernel_rfl) (fun _ _ _ h => h) (Or.inl ⟨by rfl, ?_⟩) ?_ ?_
  rotate_left
  · intro w'
    go_simp
    with_reducible rfl
  rotate_left
  · simp only [Act.put, List.setIfInBounds_toArray, List.set_cons_zero, List.set_cons_succ]
    rfl
  refine one_ (i := 3) (N := some 56) #[true, true, true, true, true, true, true, false, false, false, false, false, false, false, false, false, false, false, false, false, false, false, false, false, false, false, false, false, false, false, false, false, false] rfl rfl (by kernel_rfl) (by decide) (fun K hK => ?_)
  refine goes_ Try.func27 (by kernel_rfl) rfl #[.agg ([.int .i64 peer, .int .i64 number] : List Value).toArray, .int .i64 block, .int .i64 esi] (by rfl) rfl rfl (by (try simp only [List.map_toArray, List.map_cons, List.map_nil]); first | done | rfl) ?_
  refine (pkey_any _ peer number block esi).mono ?_
  rintro e x0 ⟨rfl, hbx⟩
  have hrz := range_below hbx hlz hHeld
  have hbz2 := hbz.trans (hbx.mono hbz.size)
  have hbq2 := hbq.trans (hbx.mono hbq.size)
  have hlz2 := Nat.lt_of_lt_of_le hlz hbx.size
  clear hlz hbz hbx hbq
  have hlz := hlz2
  have hbz := hbz2
  have hbq := hbq2
  clear hlz2 hbz2 hbq2
  refine ⟨_, rfl, ?_⟩
  refine hK.out _ _ hrz (fun hHeld => ?_)
  clear hK K hrz
  refine norm_ (a' := ?_) ?_ ?_
  rotate_left
  · (try unfold Act.put); (try simp only [putAll, Act.put, List.setIfInBounds_toArray, List.set_cons_zero, List.set_cons_succ])
    rfl
  refine one_ (i := 7) (N := some 60) #[true, true, true, true, true, true, true, true, false, false, false, false, false, false, false, false, false, false, false, false, false, false, false, false, false, false, false, false, false, false, false, false, false] rfl rfl (by kernel_rfl) (by decide) (fun K hK => ?_)
  refine goes_ Try.func28 (by kernel_rfl) rfl #[.agg ([.int .i64 peer, .int .i64 number] : List Value).toArray, .int .i64 block, .int .i64 esi] (by rfl) rfl rfl (by (try simp only [List.map_toArray, List.map_cons, List.map_nil]); first | done | rfl) ?_
  refine (rpkey_any _ peer number block esi).mono ?_
  rintro e x1 ⟨rfl, hbx⟩
  have hrz := range_below hbx hlz hHeld
  have hbz2 := hbz.trans (hbx.mono hbz.size)
  have hbq2 := hbq.trans (hbx.mono hbq.size)
  have hlz2 := Nat.lt_of_lt_of_le hlz hbx.size
  clear hlz hbz hbx hbq
  have hlz := hlz2
  have hbz := hbz2
  have hbq := hbq2
  clear hlz2 hbz2 hbq2
  refine ⟨_, rfl, ?_⟩
  refine hK.out _ _ hrz (fun hHeld => ?_)
  clear hK K hrz
  refine norm_ (a' := ?_) ?_ ?_
  rotate_left
  · (try unfold Act.put); (try simp only [putAll, Act.put, List.setIfInBounds_toArray, List.set_cons_zero, List.set_cons_succ])
    rfl
  refine pure_ (i := 8) (N := some 61) (v := .bool false) (a' := ?_) #[true, true, true, true, true, true, true, true, true, false, false, false, false, false, false, false, false, false, false, false, false, false, false, false, false, false, false, false, false, false, false, false, false] rfl rfl (by kernel_rfl) (fun _ _ _ h => h) (Or.inl ⟨by rfl, ?_⟩) ?_ ?_
  · intro w'
    exact exec_binP .neq 23 23 (.tmp 56) (.tmp 60) rfl rfl rfl (run_eqGuard_agg _ _ _ _ _ _ _ eqgP) (neqP w' _ (ofL_length _))
  rotate_left
  · simp only [Act.put, List.setIfInBounds_toArray, List.set_cons_zero, List.set_cons_succ]
    rfl
  refine pure_ (i := 9) (N := some 62) (v := ?_) (a' := ?_) #[true, true, true, true, true, true, true, true, true, true, false, false, false, false, false, false, false, false, false, false, false, false, false, false, false, false, false, false, false, false, false, false, false] rfl rfl (by kernel_rfl) (fun _ _ _ h => h) (Or.inl ⟨by rfl, ?_⟩) ?_ ?_
  rotate_left
  · intro w'
    go_simp
    with_reducible rfl
  rotate_left
  · simp only [Act.put, List.setIfInBounds_toArray, List.set_cons_zero, List.set_cons_succ]
    rfl
  refine take_ (i := 10) (N := some 63) (v := .agg ([.int .i64 peer, .int .i64 number] : List Value).toArray) (a' := ?_) #[true, true, true, true, true, true, true, true, true, true, true, false, false, false, false, false, false, false, false, false, false, false, false, false, false, false, false, false, false, false, false, false, false] rfl rfl (by kernel_rfl) (fun _ _ _ h => h) (yieldsIf_load_mid (by rfl) _ _ rfl _ _ rfl _ _ (fun w' s => s) hu34 rfl info34) hHeld ?_ ?_
  rotate_left
  · simp only [Act.put, List.setIfInBounds_toArray, List.set_cons_zero, List.set_cons_succ]
    rfl
  refine take_ (i := 12) (N := some 65) (v := .agg ([.int .i64 peer, .int .i64 number] : List Value).toArray) (a' := ?_) #[true, true, true, true, true, true, true, true, true, true, true, false, true, false, false, false, false, false, false, false, false, false, false, false, false, false, false, false, false, false, false, false, false] rfl rfl (by kernel_rfl) (fun _ _ _ h => h) (yieldsIf_load_mid (by rfl) _ _ rfl _ _ rfl _ _ (fun w' s => s) hu34 rfl info34) hHeld ?_ ?_
  rotate_left
  · simp only [Act.put, List.setIfInBounds_toArray, List.set_cons_zero, List.set_cons_succ]
    rfl
  refine one_ (i := 11) (N := some 64) #[true, true, true, true, true, true, true, true, true, true, true, true, true, false, false, false, false, false, false, false, false, false, false, false, false, false, false, false, false, false, false, false, false] rfl rfl (by kernel_rfl) (by decide) (fun K hK => ?_)
  refine goes_ Try.func29 (by kernel_rfl) rfl #[.agg ([.int .i64 peer, .int .i64 number] : List Value).toArray] (by rfl) rfl rfl (by (try simp only [List.map_toArray, List.map_cons, List.map_nil]); first | done | rfl) ?_
  refine (home_any _ peer number).mono ?_
  rintro e x2 ⟨rfl, hbx⟩
  have hrz := range_below hbx hlz hHeld
  have hbz2 := hbz.trans (hbx.mono hbz.size)
  have hbq2 := hbq.trans (hbx.mono hbq.size)
  have hlz2 := Nat.lt_of_lt_of_le hlz hbx.size
  clear hlz hbz hbx hbq
  have hlz := hlz2
  have hbz := hbz2
  have hbq := hbq2
  clear hlz2 hbz2 hbq2
  refine ⟨_, rfl, ?_⟩
  refine hK.out _ _ hrz (fun hHeld => ?_)
  clear hK K hrz
  refine norm_ (a' := ?_) ?_ ?_
  rotate_left
  · (try unfold Act.put); (try simp only [putAll, Act.put, List.setIfInBounds_toArray, List.set_cons_zero, List.set_cons_succ])
    rfl
  refine one_ (i := 13) (N := some 66) #[true, true, true, true, true, true, true, true, true, true, true, true, true, true, false, false, false, false, false, false, false, false, false, false, false, false, false, false, false, false, false, false, false] rfl rfl (by kernel_rfl) (by decide) (fun K hK => ?_)
  refine goes_ Try.func30 (by kernel_rfl) rfl #[.agg ([.int .i64 peer, .int .i64 number] : List Value).toArray] (by rfl) rfl rfl (by (try simp only [List.map_toArray, List.map_cons, List.map_nil]); first | done | rfl) ?_
  refine (rhome_any _ peer number).mono ?_
  rintro e x3 ⟨rfl, hbx⟩
  have hrz := range_below hbx hlz hHeld
  have hbz2 := hbz.trans (hbx.mono hbz.size)
  have hbq2 := hbq.trans (hbx.mono hbq.size)
  have hlz2 := Nat.lt_of_lt_of_le hlz hbx.size
  clear hlz hbz hbx hbq
  have hlz := hlz2
  have hbz := hbz2
  have hbq := hbq2
  clear hlz2 hbz2 hbq2
  refine ⟨_, rfl, ?_⟩
  refine hK.out _ _ hrz (fun hHeld => ?_)
  clear hK K hrz
  refine norm_ (a' := ?_) ?_ ?_
  rotate_left
  · (try unfold Act.put); (try simp only [putAll, Act.put, List.setIfInBounds_toArray, List.set_cons_zero, List.set_cons_succ])
    rfl
  refine pure_ (i := 14) (N := some 67) (v := .bool false) (a' := ?_) #[true, true, true, true, true, true, true, true, true, true, true, true, true, true, true, false, false, false, false, false, false, false, false, false, false, false, false, false, false, false, false, false, false] rfl rfl (by kernel_rfl) (fun _ _ _ h => h) (Or.inl ⟨by rfl, ?_⟩) ?_ ?_
  · intro w'
    exact exec_binP .neq 23 23 (.tmp 64) (.tmp 66) rfl rfl rfl (run_eqGuard_agg _ _ _ _ _ _ _ eqgP) (neqP w' _ (ofL_length _))
  rotate_left
  · simp only [Act.put, List.setIfInBounds_toArray, List.set_cons_zero, List.set_cons_succ]
    rfl
  refine pure_ (i := 15) (N := some 68) (v := ?_) (a' := ?_) #[true, true, true, true, true, true, true, true, true, true, true, true, true, true, true, true, false, false, false, false, false, false, false, false, false, false, false, false, false, false, false, false, false] rfl rfl (by kernel_rfl) (fun _ _ _ h => h) (Or.inl ⟨by rfl, ?_⟩) ?_ ?_
  rotate_left
  · intro w'
    go_simp
    with_reducible rfl
  rotate_left
  · simp only [Act.put, List.setIfInBounds_toArray, List.set_cons_zero, List.set_cons_succ]
    rfl
  refine pure_ (i := 16) (N := some 69) (v := ?_) (a' := ?_) #[true, true, true, true, true, true, true, true, true, true, true, true, true, true, true, true, true, false, false, false, false, false, false, false, false, false, false, false, false, false, false, false, false] rfl rfl (by kernel_rfl) (fun _ _ _ h => h) (Or.inl ⟨by rfl, ?_⟩) ?_ ?_
  rotate_left
  · intro w'
    go_simp
    with_reducible rfl
  rotate_left
  · simp only [Act.put, List.setIfInBounds_toArray, List.set_cons_zero, List.set_cons_succ]
    rfl
  refine pure_ (i := 17) (N := some 70) (v := ?_) (a' := ?_) #[true, true, true, true, true, true, true, true, true, true, true, true, true, true, true, true, true, true, false, false, false, false, false, false, false, false, false, false, false, false, false, false, false] rfl rfl (by kernel_rfl) (fun _ _ _ h => h) (Or.inl ⟨by rfl, ?_⟩) ?_ ?_
  rotate_left
  · intro w'
    go_simp
    with_reducible rfl
  rotate_left
  · simp only [Act.put, List.setIfInBounds_toArray, List.set_cons_zero, List.set_cons_succ]
    rfl
  refine pure_ (i := 18) (N := some 71) (v := ?_) (a' := ?_) #[true, true, true, true, true, true, true, true, true, true, true, true, true, true, true, true, true, true, true, false, false, false, false, false, false, false, false, false, false, false, false, false, false] rfl rfl (by kernel_rfl) (fun _ _ _ h => h) (Or.inl ⟨by rfl, ?_⟩) ?_ ?_
  rotate_left
  · intro w'
    go_simp
    with_reducible rfl
  rotate_left
  · simp only [Act.put, List.setIfInBounds_toArray, List.set_cons_zero, List.set_cons_succ]
    rfl
  refine pure_ (i := 19) (N := some 72) (v := ?_) (a' := ?_) #[true, true, true, true, true, true, true, true, true, true, true, true, true, true, true, true, true, true, true, true, false, false, false, false, false, false, false, false, false, false, false, false, false] rfl rfl (by kernel_rfl) (fun _ _ _ h => h) (Or.inl ⟨by rfl, ?_⟩) ?_ ?_
  rotate_left
  · intro w'
    go_simp
    with_reducible rfl
  rotate_left
  · simp only [Act.put, List.setIfInBounds_toArray, List.set_cons_zero, List.set_cons_succ]
    rfl
  refine pure_ (i := 20) (N := some 73) (v := ?_) (a' := ?_) #[true, true, true, true, true, true, true, true, true, true, true, true, true, true, true, true, true, true, true, true, true, false, false, false, false, false, false, false, false, false, false, false, false] rfl rfl (by kernel_rfl) (fun _ _ _ h => h) (Or.inl ⟨by rfl, ?_⟩) ?_ ?_
  rotate_left
  · intro w'
    go_simp
    with_reducible rfl
  rotate_left
  · simp only [Act.put, List.setIfInBounds_toArray, List.set_cons_zero, List.set_cons_succ]
    rfl
  refine pure_ (i := 21) (N := some 74) (v := ?_) (a' := ?_) #[true, true, true, true, true, true, true, true, true, true, true, true, true, true, true, true, true, true, true, true, true, true, false, false, false, false, false, false, false, false, false, false, false] rfl rfl (by kernel_rfl) (fun _ _ _ h => h) (Or.inl ⟨by rfl, ?_⟩) ?_ ?_
  rotate_left
  · intro w'
    go_simp
    with_reducible rfl
  rotate_left
  · simp only [Act.put, List.setIfInBounds_toArray, List.set_cons_zero, List.set_cons_succ]
    rfl
  refine pure_ (i := 22) (N := some 75) (v := ?_) (a' := ?_) #[true, true, true, true, true, true, true, true, true, true, true, true, true, true, true, true, true, true, true, true, true, true, true, false, false, false, false, false, false, false, false, false, false] rfl rfl (by kernel_rfl) (fun _ _ _ h => h) (Or.inl ⟨by rfl, ?_⟩) ?_ ?_
  rotate_left
  · intro w'
    go_simp
    with_reducible rfl
  rotate_left
  · simp only [Act.put, List.setIfInBounds_toArray, List.set_cons_zero, List.set_cons_succ]
    rfl
  refine pure_ (i := 23) (N := some 76) (v := ?_) (a' := ?_) #[true, true, true, true, true, true, true, true, true, true, true, true, true, true, true, true, true, true, true, true, true, true, true, true, false, false, false, false, false, false, false, false, false] rfl rfl (by kernel_rfl) (fun _ _ _ h => h) (Or.inl ⟨by rfl, ?_⟩) ?_ ?_
  rotate_left
  · intro w'
    go_simp
    with_reducible rfl
  rotate_left
  · simp only [Act.put, List.setIfInBounds_toArray, List.set_cons_zero, List.set_cons_succ]
    rfl
  refine pure_ (i := 24) (N := some 77) (v := ?_) (a' := ?_) #[true, true, true, true, true, true, true, true, true, true, true, true, true, true, true, true, true, true, true, true, true, true, true, true, true, false, false, false, false, false, false, false, false] rfl rfl (by kernel_rfl) (fun _ _ _ h => h) (Or.inl ⟨by rfl, ?_⟩) ?_ ?_
  rotate_left
  · intro w'
    go_simp
    with_reducible rfl
  rotate_left
  · simp only [Act.put, List.setIfInBounds_toArray, List.set_cons_zero, List.set_cons_succ]
    rfl
  refine pure_ (i := 25) (N := some 78) (v := ?_) (a' := ?_) #[true, true, true, true, true, true, true, true, true, true, true, true, true, true, true, true, true, true, true, true, true, true, true, true, true, true, false, false, false, false, false, false, false] rfl rfl (by kernel_rfl) (fun _ _ _ h => h) (Or.inl ⟨by rfl, ?_⟩) ?_ ?_
  rotate_left
  · intro w'
    go_simp
    with_reducible rfl
  rotate_left
  · simp only [Act.put, List.setIfInBounds_toArray, List.set_cons_zero, List.set_cons_succ]
    rfl
  refine pure_ (i := 26) (N := some 79) (v := ?_) (a' := ?_) #[true, true, true, true, true, true, true, true, true, true, true, true, true, true, true, true, true, true, true, true, true, true, true, true, true, true, true, false, false, false, false, false, false] rfl rfl (by kernel_rfl) (fun _ _ _ h => h) (Or.inl ⟨by rfl, ?_⟩) ?_ ?_
  rotate_left
  · intro w'
    go_simp
    with_reducible rfl
  rotate_left
  · simp only [Act.put, List.setIfInBounds_toArray, List.set_cons_zero, List.set_cons_succ]
    rfl
  refine pure_ (i := 27) (N := some 80) (v := ?_) (a' := ?_) #[true, true, true, true, true, true, true, true, true, true, true, true, true, true, true, true, true, true, true, true, true, true, true, true, true, true, true, true, false, false, false, false, false] rfl rfl (by kernel_rfl) (fun _ _ _ h => h) (Or.inl ⟨by rfl, ?_⟩) ?_ ?_
  rotate_left
  · intro w'
    go_simp
    with_reducible rfl
  rotate_left
  · simp only [Act.put, List.setIfInBounds_toArray, List.set_cons_zero, List.set_cons_succ]
    rfl
  refine pure_ (i := 28) (N := some 81) (v := ?_) (a' := ?_) #[true, true, true, true, true, true, true, true, true, true, true, true, true, true, true, true, true, true, true, true, true, true, true, true, true, true, true, true, true, false, false, false, false] rfl rfl (by kernel_rfl) (fun _ _ _ h => h) (Or.inl ⟨by rfl, ?_⟩) ?_ ?_
  rotate_left
  · intro w'
    go_simp
    with_reducible rfl
  rotate_left
  · simp only [Act.put, List.setIfInBounds_toArray, List.set_cons_zero, List.set_cons_succ]
    rfl
  refine pure_ (i := 29) (N := some 82) (v := ?_) (a' := ?_) #[true, true, true, true, true, true, true, true, true, true, true, true, true, true, true, true, true, true, true, true, true, true, true, true, true, true, true, true, true, true, false, false, false] rfl rfl (by kernel_rfl) (fun _ _ _ h => h) (Or.inl ⟨by rfl, ?_⟩) ?_ ?_
  rotate_left
  · intro w'
    go_simp
    with_reducible rfl
  rotate_left
  · simp only [Act.put, List.setIfInBounds_toArray, List.set_cons_zero, List.set_cons_succ]
    rfl
  refine pure_ (i := 30) (N := some 83) (v := ?_) (a' := ?_) #[true, true, true, true, true, true, true, true, true, true, true, true, true, true, true, true, true, true, true, true, true, true, true, true, true, true, true, true, true, true, true, false, false] rfl rfl (by kernel_rfl) (fun _ _ _ h => h) (Or.inl ⟨by rfl, ?_⟩) ?_ ?_
  rotate_left
  · intro w'
    go_simp
    with_reducible rfl
  rotate_left
  · simp only [Act.put, List.setIfInBounds_toArray, List.set_cons_zero, List.set_cons_succ]
    rfl
  refine pure_ (i := 31) (N := some 84) (v := ?_) (a' := ?_) #[true, true, true, true, true, true, true, true, true, true, true, true, true, true, true, true, true, true, true, true, true, true, true, true, true, true, true, true, true, true, true, true, false] rfl rfl (by kernel_rfl) (fun _ _ _ h => h) (Or.inl ⟨by rfl, ?_⟩) ?_ ?_
  rotate_left
  · intro w'
    go_simp
    with_reducible rfl
  rotate_left
  · simp only [Act.put, List.setIfInBounds_toArray, List.set_cons_zero, List.set_cons_succ]
    rfl
  refine pure_ (i := 32) (N := some 85) (v := ?_) (a' := ?_) #[true, true, true, true, true, true, true, true, true, true, true, true, true, true, true, true, true, true, true, true, true, true, true, true, true, true, true, true, true, true, true, true, true] rfl rfl (by kernel_rfl) (fun _ _ _ h => h) (Or.inl ⟨by rfl, ?_⟩) ?_ ?_
  rotate_left
  · intro w'
    go_simp
    with_reducible rfl
  rotate_left
  · simp only [Act.put, List.setIfInBounds_toArray, List.set_cons_zero, List.set_cons_succ]
    rfl
  refine done_ (by kernel_rfl) ?_
  have HBZ := Lib.hid hbz
  have HBQ := Lib.hid hbq
  clear hbz hlz hHeld hbq
  go_wp2
  go_loopw [20] (fun ii wr => ∃ i : Nat, i ≤ n2 ∧ ii = .int .i64 i ∧ Below x3.heap.size x3 wr) (fun ii _ => n2 - (intOf ii).toNat)
  case atStart => exact ⟨0, Nat.zero_le _, rfl, Below.refl _ _⟩
  case round =>
    obtain ⟨i, hin, rfl, hbr⟩ := hrel
    by_cases hlt : i < n2
    · have i1 : (i : Int) < (n2 : Int) := by omega
      have hb9 := Below.drew hbr
      obtain ⟨ax, cx, ex, hxr⟩ := (HXR8.out.below HBQ.out).below hb9
      obtain ⟨ay, cy', ey, hyr⟩ := (HYR8.out.below HBQ.out).below hb9
      injection ex with ex1 _ ex3
      injection ey with ey1 _ ey3
      subst ex1 ex3 ey1 ey3
      obtain ⟨gx, ox, adx, cx, rfl, _, hcx, hrx⟩ := hxr i (by rw [← HN2.out]; exact hlt)
      obtain ⟨gy, oy, ady, cy, rfl, _, hcy, hry⟩ := hyr i (by rw [← HN2.out]; exact hlt)
      obtain ⟨lx, hlx⟩ : ∃ lx, (xs.filter (fun r => tgt l r == i)).length = lx := ⟨_, rfl⟩
      have hlx60 : lx ≤ 60 := by
        have := List.length_filter_le (fun r => tgt l r == i) xs
        rw [← HN1.out] at this
        omega
      have HSAME := Lib.hid (same31_any wr.drew adx ady lx cx cy (xs.filter (fun r => tgt l r == i)) hlx.symm (by omega) (fun r h => by have := HX100.out r (List.mem_filter.1 h).1; omega) hrx hry)
      rw [hlx] at hcx hcy
      have HCX := Lib.hid hcx
      have HCY := Lib.hid hcy
      have HB9 := Lib.hid hb9
      clear hxr hyr hcx hcy hrx hry hb9 hbr hlx
      go_wp2
      have hcx := HCX.out
      have hcy := HCY.out
      refine start_ (n := 10) (S := fun w' => w' = wr.drew) (ds := [8]) #[false, false, false, false, false, false, false, false, false, false] (by kernel_rfl) rfl rfl (rfl) (fun hHeld => ?_)
      generalize hW9 : wr.drew = W9 at *
      refine pure_ (i := 0) (N := some 92) (v := ?_) (a' := ?_) #[true, false, false, false, false, false, false, false, false, false] rfl rfl (by kernel_rfl) (fun _ _ _ h => h) (Or.inl ⟨by rfl, ?_⟩) ?_ ?_
      rotate_left
      · intro w'
        go_simp
        with_reducible rfl
      rotate_left
      · simp only [Act.put, List.setIfInBounds_toArray, List.set_cons_zero, List.set_cons_succ]
        rfl
      refine pure_ (i := 1) (N := some 93) (v := ?_) (a' := ?_) #[true, true, false, false, false, false, false, false, false, false] rfl rfl (by kernel_rfl) (fun _ _ _ h => h) (Or.inl ⟨by rfl, ?_⟩) ?_ ?_
      rotate_left
      · intro w'
        go_simp
        with_reducible rfl
      rotate_left
      · simp only [Act.put, List.setIfInBounds_toArray, List.set_cons_zero, List.set_cons_succ]
        rfl
      refine pure_ (i := 2) (N := some 94) (v := ?_) (a' := ?_) #[true, true, true, false, false, false, false, false, false, false] rfl rfl (by kernel_rfl) (fun _ _ _ h => h) (Or.inl ⟨by rfl, ?_⟩) ?_ ?_
      rotate_left
      · intro w'
        go_simp
        with_reducible rfl
      rotate_left
      · simp only [Act.put, List.setIfInBounds_toArray, List.set_cons_zero, List.set_cons_succ]
        rfl
      refine take_ (i := 3) (N := some 95) (v := ?_) (a' := ?_) #[true, true, true, true, false, false, false, false, false, false] rfl rfl (by kernel_rfl) (fun _ _ _ h => h) (Or.inl ⟨by rfl, ?_⟩) hHeld ?_ ?_
      rotate_left
      · intro w' hSw
        have hSw : w' = W9 := hSw
        subst hSw
        go_simp
        with_reducible rfl
      rotate_left
      · simp only [Act.put, List.setIfInBounds_toArray, List.set_cons_zero, List.set_cons_succ]
        rfl
      refine pure_ (i := 4) (N := some 96) (v := ?_) (a' := ?_) #[true, true, true, true, true, false, false, false, false, false] rfl rfl (by kernel_rfl) (fun _ _ _ h => h) (Or.inl ⟨by rfl, ?_⟩) ?_ ?_
      rotate_left
      · intro w'
        go_simp
        with_reducible rfl
      rotate_left
      · simp only [Act.put, List.setIfInBounds_toArray, List.set_cons_zero, List.set_cons_succ]
        rfl
      refine pure_ (i := 5) (N := some 97) (v := ?_) (a' := ?_) #[true, true, true, true, true, true, false, false, false, false] rfl rfl (by kernel_rfl) (fun _ _ _ h => h) (Or.inl ⟨by rfl, ?_⟩) ?_ ?_
      rotate_left
      · intro w'
        go_simp
        with_reducible rfl
      rotate_left
      · simp only [Act.put, List.setIfInBounds_toArray, List.set_cons_zero, List.set_cons_succ]
        rfl
      refine pure_ (i := 6) (N := some 98) (v := ?_) (a' := ?_) #[true, true, true, true, true, true, true, false, false, false] rfl rfl (by kernel_rfl) (fun _ _ _ h => h) (Or.inl ⟨by rfl, ?_⟩) ?_ ?_
      rotate_left
      · intro w'
        go_simp
        with_reducible rfl
      rotate_left
      · simp only [Act.put, List.setIfInBounds_toArray, List.set_cons_zero, List.set_cons_succ]
        rfl
      refine take_ (i := 7) (N := some 99) (v := ?_) (a' := ?_) #[true, true, true, true, true, true, true, true, false, false] rfl rfl (by kernel_rfl) (fun _ _ _ h => h) (Or.inl ⟨by rfl, ?_⟩) hHeld ?_ ?_
      rotate_left
      · intro w' hSw
        have hSw : w' = W9 := hSw
        subst hSw
        go_simp
        with_reducible rfl
      rotate_left
      · simp only [Act.put, List.setIfInBounds_toArray, List.set_cons_zero, List.set_cons_succ]
        rfl
      refine last_ (i := 8) (N := some 100) #[true, true, true, true, true, true, true, true, true, false] rfl rfl (by kernel_rfl) (by decide) (fun K hK => ?_)
      refine goes_ Try.func31 (by kernel_rfl) rfl #[.slice adx lx cx, .slice ady lx cy] (by rfl) rfl rfl (by (try simp only [List.map_toArray, List.map_cons, List.map_nil]); first | done | rfl) ?_
      refine HSAME.out.mono ?_
      rintro e w3 ⟨rfl, hbx⟩
      have HBX := Lib.hid (HB9.out.trans (hbx.mono HB9.out.size))
      clear hbx
      refine ⟨_, rfl, ?_⟩
      refine hK.out _ _ ?_
      clear hK K
      refine norm_ (a' := ?_) ?_ ?_
      rotate_left
      · (try unfold Act.put); (try simp only [putAll, Act.put, List.setIfInBounds_toArray, List.set_cons_zero, List.set_cons_succ])
        rfl
      refine pure_ (i := 9) (N := some 101) (v := ?_) (a' := ?_) #[true, true, true, true, true, true, true, true, true, true] rfl rfl (by kernel_rfl) (fun _ _ _ h => h) (Or.inl ⟨by rfl, ?_⟩) ?_ ?_
      rotate_left
      · intro w'
        go_simp
        with_reducible rfl
      rotate_left
      · simp only [Act.put, List.setIfInBounds_toArray, List.set_cons_zero, List.set_cons_succ]
        rfl
      refine done_ (by kernel_rfl) ?_
      go_wp2
      go_roundw
      case rel => exact ⟨i + 1, by omega, by go_num, HBX.out⟩
      case measure => simp [intOf]; omega
    · have hin2 : i = n2 := by omega
      subst hin2
      have HBF := Lib.hid (HB1.out.trans ((HBZ.out.trans (hbr.mono HBZ.out.size)).mono HB1.out.size))
      clear hbr
      go_wp2
      go_ret
      exact ⟨rfl, HBF.out⟩
end Go.Proofs.Ytbkcopejclcfdaa

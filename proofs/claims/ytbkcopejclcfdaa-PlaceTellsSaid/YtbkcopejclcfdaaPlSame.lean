/- SameRecord of one record; SameRecords; Few. -/
import Derived.Test.YtbkcopejclcfdaaPlSpread
import Derived.Test.YtbkcopejclcfdaaWWords
import Derived.Laws.StructEq
namespace Go.Proofs.Ytbkcopejclcfdaa
open Go.RowKit Go.Proofs.YtbkcopejclcfdaaW.PrintLast Go.Proofs.Ytbkcopejclcfdaa.Sum
set_option linter.unusedVariables false
set_option linter.unusedSimpArgs false
theorem eq34 (a b : Int) (w : World) : (binOp .eql 34 (.agg #[.int .i64 a, .int .i64 b]) (.agg #[.int .i64 a, .int .i64 b])).run Try.prog w = .ok (.bool true) w := by
  rw [run_eql_struct]
  go_simp
theorem eq50 (a b c : Int) (w : World) : (binOp .eql 50 (.agg #[.int .i64 a, .int .i64 b, .int .i64 c]) (.agg #[.int .i64 a, .int .i64 b, .int .i64 c])).run Try.prog w = .ok (.bool true) w := by
  rw [run_eql_struct]
  go_simp
theorem cv_get (l : List Int) (k : Nat) (hk : k < l.length) : (cv l)[k]? = some (.int .u8 l[k]) := by simp [cv, hk]
theorem run_strB (w : World) (A : Option Addr) (c : Nat) (xs : List Int) (h : Reads w A (cv xs)) (hm : xs.length ≤ 9223372036854775807) : (convert 51 9 (.slice A xs.length c)).run Try.prog w = .ok (.string (strOfNums xs)) w :=
  YtbkcopejclcfdaaW.PrintWords.string_of_reads Try.underlying51 Try.underlying5 Try.underlying9 (by
    refine ⟨rfl, hm, fun h0 => ?_⟩
    obtain ⟨b, off, h1, _, _⟩ := h 0 _ (cv_get xs 0 h0)
    refine ⟨⟨b, off, none⟩, h1, fun j hj => ?_⟩
    obtain ⟨b', off', h2, _, h3⟩ := h j _ (cv_get xs j hj)
    rw [h1] at h2
    injection h2 with h2
    injection h2 with h4 h5
    subst h4 h5
    rw [Addr.add_lit, h3]
    simp [List.getD_eq_getElem?_getD, List.getElem?_eq_getElem hj])
set_option maxHeartbeats 4000000 in
set_option maxRecDepth 20000 in
theorem same61_any (W : World) (r : Rc) (v u : Value) (hv : DataV W v r.data) (hu : DataV W u r.data) (hl : r.data.length ≤ 1000000) : Calls Try.prog 61 #[.agg (r.cells v).toArray, .agg (r.cells u).toArray] W fun e W' => e = .returned (.bool true) ∧ Below W.heap.size W W' := by
  obtain ⟨peer, number, s1, s2, s3, bl, es, gn, ti, dt⟩ := r
  obtain ⟨ad, cap, rfl, hrd, _⟩ := hv
  obtain ⟨ad', cap', rfl, hrd', _⟩ := hu
  replace hl : dt.length ≤ 1000000 := hl
  obtain ⟨dl, hdl⟩ : ∃ dl, dt.length = dl := ⟨_, rfl⟩
  replace hrd : Reads W ad (cv dt) := hrd
  replace hrd' : Reads W ad' (cv dt) := hrd'
  show Calls Try.prog 61 #[.agg #[.int .i64 peer, .int .i64 number, .int .i64 s1, .int .i64 s2, .int .i64 s3, .int .i64 bl, .int .i64 es, .bool gn, .int .i64 ti, .slice ad dt.length cap], .agg #[.int .i64 peer, .int .i64 number, .int .i64 s1, .int .i64 s2, .int .i64 s3, .int .i64 bl, .int .i64 es, .bool gn, .int .i64 ti, .slice ad' dt.length cap']] W _
  obtain ⟨W2, hW2⟩ : ∃ W2, (W.alloc (.cells #[.int .i64 peer, .int .i64 number, .int .i64 s1, .int .i64 s2, .int .i64 s3, .int .i64 bl, .int .i64 es, .bool gn, .int .i64 ti, .slice ad dt.length cap] 53)).alloc (.cells #[.int .i64 peer, .int .i64 number, .int .i64 s1, .int .i64 s2, .int .i64 s3, .int .i64 bl, .int .i64 es, .bool gn, .int .i64 ti, .slice ad' dt.length cap'] 53) = W2 := ⟨_, rfl⟩
  have hb2 : Below W.heap.size W W2 := by rw [← hW2]; exact ((Below.refl _ _).alloc (Nat.le_refl _) _).alloc (by simp) _
  have hra : W2.heap[W.heap.size]? = some (.cells #[.int .i64 peer, .int .i64 number, .int .i64 s1, .int .i64 s2, .int .i64 s3, .int .i64 bl, .int .i64 es, .bool gn, .int .i64 ti, .slice ad dt.length cap] 53 (0, 0)) := by rw [← hW2, heap_alloc2_old]
  have hrb : W2.heap[W.heap.size + 1]? = some (.cells #[.int .i64 peer, .int .i64 number, .int .i64 s1, .int .i64 s2, .int .i64 s3, .int .i64 bl, .int .i64 es, .bool gn, .int .i64 ti, .slice ad' dt.length cap'] 53 (0, 0)) := by rw [← hW2, heap_alloc2_new]
  have a0 : W2.cell? ⟨W.heap.size, 0, none⟩ = some (.int .i64 peer) := by rw [cell_of_blk hra]; rfl
  have a1 : W2.cell? ⟨W.heap.size, 1, none⟩ = some (.int .i64 number) := by rw [cell_of_blk hra]; rfl
  have a2 : W2.cell? ⟨W.heap.size, 2, none⟩ = some (.int .i64 s1) := by rw [cell_of_blk hra]; rfl
  have a3 : W2.cell? ⟨W.heap.size, 3, none⟩ = some (.int .i64 s2) := by rw [cell_of_blk hra]; rfl
  have a4 : W2.cell? ⟨W.heap.size, 4, none⟩ = some (.int .i64 s3) := by rw [cell_of_blk hra]; rfl
  have a5 : W2.cell? ⟨W.heap.size, 5, none⟩ = some (.int .i64 bl) := by rw [cell_of_blk hra]; rfl
  have a6 : W2.cell? ⟨W.heap.size, 6, none⟩ = some (.int .i64 es) := by rw [cell_of_blk hra]; rfl
  have a7 : W2.cell? ⟨W.heap.size, 7, none⟩ = some (.bool gn) := by rw [cell_of_blk hra]; rfl
  have a8 : W2.cell? ⟨W.heap.size, 8, none⟩ = some (.int .i64 ti) := by rw [cell_of_blk hra]; rfl
  have a9 : W2.cell? ⟨W.heap.size, 9, none⟩ = some (.slice ad dt.length cap) := by rw [cell_of_blk hra]; rfl
  have b0 : W2.cell? ⟨W.heap.size + 1, 0, none⟩ = some (.int .i64 peer) := by rw [cell_of_blk hrb]; rfl
  have b1 : W2.cell? ⟨W.heap.size + 1, 1, none⟩ = some (.int .i64 number) := by rw [cell_of_blk hrb]; rfl
  have b2 : W2.cell? ⟨W.heap.size + 1, 2, none⟩ = some (.int .i64 s1) := by rw [cell_of_blk hrb]; rfl
  have b3 : W2.cell? ⟨W.heap.size + 1, 3, none⟩ = some (.int .i64 s2) := by rw [cell_of_blk hrb]; rfl
  have b4 : W2.cell? ⟨W.heap.size + 1, 4, none⟩ = some (.int .i64 s3) := by rw [cell_of_blk hrb]; rfl
  have b5 : W2.cell? ⟨W.heap.size + 1, 5, none⟩ = some (.int .i64 bl) := by rw [cell_of_blk hrb]; rfl
  have b6 : W2.cell? ⟨W.heap.size + 1, 6, none⟩ = some (.int .i64 es) := by rw [cell_of_blk hrb]; rfl
  have b7 : W2.cell? ⟨W.heap.size + 1, 7, none⟩ = some (.bool gn) := by rw [cell_of_blk hrb]; rfl
  have b8 : W2.cell? ⟨W.heap.size + 1, 8, none⟩ = some (.int .i64 ti) := by rw [cell_of_blk hrb]; rfl
  have b9 : W2.cell? ⟨W.heap.size + 1, 9, none⟩ = some (.slice ad' dt.length cap') := by rw [cell_of_blk hrb]; rfl
  have hla := lt_of_block hra
  have hlb := lt_of_block hrb
  have HS1 := Lib.hid (run_strB W2 ad cap dt (hrd.below hb2) (by omega))
  have HS2 := Lib.hid (run_strB W2 ad' cap' dt (hrd'.below hb2) (by omega))
  have HB2 := Lib.hid hb2
  rw [hdl] at hW2 a9 b9 HS1 HS2 ⊢
  have hs1 := HS1.out
  have hs2 := HS2.out
  generalize strOfNums dt = str at *
  have h34 := fun w => eq34 peer number w
  have h50 := fun w => eq50 s1 s2 s3 w
  clear hb2 hra hrb hrd hrd' HS1 HS2 hdl hl
  go_enter Try.func61, Try.ntmps61
  go_wp2
  go_ret
  exact ⟨by simp, HB2.out⟩
set_option maxHeartbeats 4000000 in
set_option maxRecDepth 20000 in
theorem same31_any (W : World) (A1 A2 : Option Addr) (n c1 c2 : Nat) (xs : List Rc) (hn : n = xs.length) (hl : n ≤ 1000000) (hd : ∀ r ∈ xs, r.data.length ≤ 1000000) (h1 : Recs W A1 xs) (h2 : Recs W A2 xs) :
    Calls Try.prog 31 #[.slice A1 n c1, .slice A2 n c2] W fun e W' => e = .returned (.bool true) ∧ Below W.heap.size W W' := by
  have HN := Lib.hid hn
  have HD := Lib.hid hd
  have H1 := Lib.hid h1
  have H2 := Lib.hid h2
  have hq : ((n : Int) != (n : Int)) = false := by simp
  have hu53 := Try.underlying53
  clear hn hd h1 h2
  go_enter Try.func31, Try.ntmps31
  go_wp2
  go_loopw [5] (fun i wr => ∃ k : Nat, k ≤ n ∧ i = .int .i64 k ∧ Below W.heap.size W wr) (fun i _ => n - (intOf i).toNat)
  case atStart => exact ⟨0, Nat.zero_le _, rfl, Below.refl _ _⟩
  case round =>
    obtain ⟨k, hk, rfl, hbel⟩ := hrel
    by_cases hlt : k < n
    · have hkl : k < xs.length := by rw [← HN.out]; exact hlt
      have hb9 : Below W.heap.size W wr.drew := Below.drew hbel
      obtain ⟨b1, o1, v1, rfl, _, hc1, hv1⟩ := (H1.out.below hb9) k hkl
      obtain ⟨b2, o2, v2, rfl, _, hc2, hv2⟩ := (H2.out.below hb9) k hkl
      have hdl := HD.out _ (List.getElem_mem hkl)
      obtain ⟨r, hr⟩ : ∃ r, xs[k] = r := ⟨_, rfl⟩
      rw [hr] at hc1 hc2 hv1 hv2 hdl
      have HS := Lib.hid (same61_any wr.drew r v1 v2 hv1 hv2 hdl)
      have i1 : (k : Int) < (n : Int) := by omega
      have HB9 := Lib.hid hb9
      have HC1 := Lib.hid hc1
      have HC2 := Lib.hid hc2
      clear hr hbel hv1 hv2 hdl hb9 hc1 hc2
      go_wp2
      refine start_ (n := 10) (S := fun w' => w' = wr.drew) (ds := [8]) #[false, false, false, false, false, false, false, false, false, false] (by kernel_rfl) rfl rfl (rfl) (fun hHeld => ?_)
      generalize hW9 : wr.drew = W9 at *
      refine pure_ (i := 0) (N := some 17) (v := ?_) (a' := ?_) #[true, false, false, false, false, false, false, false, false, false] rfl rfl (by kernel_rfl) (fun _ _ _ h => h) (Or.inl ⟨by rfl, ?_⟩) ?_ ?_
      rotate_left
      · intro w'
        go_simp
        with_reducible rfl
      rotate_left
      · simp only [Act.put, List.setIfInBounds_toArray, List.set_cons_zero, List.set_cons_succ]
        rfl
      refine pure_ (i := 1) (N := some 18) (v := ?_) (a' := ?_) #[true, true, false, false, false, false, false, false, false, false] rfl rfl (by kernel_rfl) (fun _ _ _ h => h) (Or.inl ⟨by rfl, ?_⟩) ?_ ?_
      rotate_left
      · intro w'
        go_simp
        with_reducible rfl
      rotate_left
      · simp only [Act.put, List.setIfInBounds_toArray, List.set_cons_zero, List.set_cons_succ]
        rfl
      refine pure_ (i := 2) (N := some 19) (v := ?_) (a' := ?_) #[true, true, true, false, false, false, false, false, false, false] rfl rfl (by kernel_rfl) (fun _ _ _ h => h) (Or.inl ⟨by rfl, ?_⟩) ?_ ?_
      rotate_left
      · intro w'
        go_simp
        with_reducible rfl
      rotate_left
      · simp only [Act.put, List.setIfInBounds_toArray, List.set_cons_zero, List.set_cons_succ]
        rfl
      refine take_ (i := 3) (N := some 20) (v := .agg (r.cells v1).toArray) (a' := ?_) #[true, true, true, true, false, false, false, false, false, false] rfl rfl (by kernel_rfl) (fun _ _ _ h => h) (yieldsIf_load_mid (by rfl) _ _ rfl _ _ rfl _ _ (fun w' (s : w' = W9) => (s ▸ HC1.out : w'.rangeAt b1 (o1 + k * 10) (r.cells v1))) hu53 rfl info53) hHeld ?_ ?_
      rotate_left
      · simp only [Act.put, List.setIfInBounds_toArray, List.set_cons_zero, List.set_cons_succ]
        rfl
      refine pure_ (i := 4) (N := some 21) (v := ?_) (a' := ?_) #[true, true, true, true, true, false, false, false, false, false] rfl rfl (by kernel_rfl) (fun _ _ _ h => h) (Or.inl ⟨by rfl, ?_⟩) ?_ ?_
      rotate_left
      · intro w'
        go_simp
        with_reducible rfl
      rotate_left
      · simp only [Act.put, List.setIfInBounds_toArray, List.set_cons_zero, List.set_cons_succ]
        rfl
      refine pure_ (i := 5) (N := some 22) (v := ?_) (a' := ?_) #[true, true, true, true, true, true, false, false, false, false] rfl rfl (by kernel_rfl) (fun _ _ _ h => h) (Or.inl ⟨by rfl, ?_⟩) ?_ ?_
      rotate_left
      · intro w'
        go_simp
        with_reducible rfl
      rotate_left
      · simp only [Act.put, List.setIfInBounds_toArray, List.set_cons_zero, List.set_cons_succ]
        rfl
      refine pure_ (i := 6) (N := some 23) (v := ?_) (a' := ?_) #[true, true, true, true, true, true, true, false, false, false] rfl rfl (by kernel_rfl) (fun _ _ _ h => h) (Or.inl ⟨by rfl, ?_⟩) ?_ ?_
      rotate_left
      · intro w'
        go_simp
        with_reducible rfl
      rotate_left
      · simp only [Act.put, List.setIfInBounds_toArray, List.set_cons_zero, List.set_cons_succ]
        rfl
      refine take_ (i := 7) (N := some 24) (v := .agg (r.cells v2).toArray) (a' := ?_) #[true, true, true, true, true, true, true, true, false, false] rfl rfl (by kernel_rfl) (fun _ _ _ h => h) (yieldsIf_load_mid (by rfl) _ _ rfl _ _ rfl _ _ (fun w' (s : w' = W9) => (s ▸ HC2.out : w'.rangeAt b2 (o2 + k * 10) (r.cells v2))) hu53 rfl info53) hHeld ?_ ?_
      rotate_left
      · simp only [Act.put, List.setIfInBounds_toArray, List.set_cons_zero, List.set_cons_succ]
        rfl
      refine last_ (i := 8) (N := some 25) #[true, true, true, true, true, true, true, true, true, false] rfl rfl (by kernel_rfl) (by decide) (fun K hK => ?_)
      refine goes_ Try.func61 (by kernel_rfl) rfl #[.agg (r.cells v1).toArray, .agg (r.cells v2).toArray] (by rfl) rfl rfl (by (try simp only [List.map_toArray, List.map_cons, List.map_nil]); first | done | rfl) ?_
      refine HS.out.mono ?_
      rintro e w3 ⟨rfl, hbx⟩
      have HBX := Lib.hid (HB9.out.trans (hbx.mono HB9.out.size))
      clear hbx
      refine ⟨_, rfl, ?_⟩
      refine hK.out _ _ ?_
      clear hK K
      refine norm_ (a' := ?_) ?_ ?_
      rotate_left
      · (try unfold Act.put); (try simp only [putAll, Act.put, List.setIfInBounds_toArray, List.set_cons_zero, List.set_cons_succ])
        rfl
      refine pure_ (i := 9) (N := some 26) (v := ?_) (a' := ?_) #[true, true, true, true, true, true, true, true, true, true] rfl rfl (by kernel_rfl) (fun _ _ _ h => h) (Or.inl ⟨by rfl, ?_⟩) ?_ ?_
      rotate_left
      · intro w'
        go_simp
        with_reducible rfl
      rotate_left
      · simp only [Act.put, List.setIfInBounds_toArray, List.set_cons_zero, List.set_cons_succ]
        rfl
      refine done_ (by kernel_rfl) ?_
      go_wp2
      go_roundw
      case rel => exact ⟨k + 1, by omega, by go_num, HBX.out⟩
      case measure => simp [intOf]; omega
    · have hkn : k = n := by omega
      subst hkn
      have HB := Lib.hid hbel
      clear hbel
      go_wp2
      go_ret
      exact ⟨rfl, HB.out⟩
def fewB (xs : List Rc) : Bool := xs.all (fun r => decide (r.data.length ≤ 100)) && decide (xs.length ≤ 60)
set_option maxHeartbeats 2000000 in
set_option maxRecDepth 20000 in
theorem few_any (W : World) (A : Option Addr) (n cap : Nat) (xs : List Rc) (hn : n = xs.length) (hl : n ≤ 9223372036854775807) (h : Recs W A xs) :
    Calls Try.prog 22 #[.slice A n cap] W fun e W' => e = .returned (.bool (fewB xs)) ∧ Below W.heap.size W W' := by
  have HN := Lib.hid hn
  have H := Lib.hid h
  clear hn h
  go_enter Try.func22, Try.ntmps22
  go_wp2
  go_loopw [3] (fun i wr => ∃ k : Nat, k ≤ n ∧ i = .int .i64 k ∧ (∀ r ∈ xs.take k, r.data.length ≤ 100) ∧ W = wr) (fun i _ => n - (intOf i).toNat)
  case atStart => exact ⟨0, Nat.zero_le _, rfl, by simp, rfl⟩
  case round =>
    obtain ⟨k, hk, rfl, hall, rfl⟩ := hrel
    have HALL := Lib.hid hall
    clear hall
    by_cases hlt : k < n
    · have hkl : k < xs.length := by rw [← HN.out]; exact hlt
      obtain ⟨b, off, v, rfl, hb, hc, ⟨ad, cp, rfl, _, _⟩⟩ := H.out k hkl
      have c9 : W.cell? ⟨b, off + k * 10 + 9, none⟩ = some (.slice ad xs[k].data.length cp) := hc 9 _ rfl
      obtain ⟨dl, hdl⟩ : ∃ dl, xs[k].data.length = dl := ⟨_, rfl⟩
      rw [hdl] at c9
      have HDL := Lib.hid hdl
      have i1 : (k : Int) < (n : Int) := by omega
      clear hc hdl
      by_cases h100 : (100 : Int) < (dl : Int)
      · have hf : fewB xs = false := by
          unfold fewB
          rw [Bool.and_eq_false_iff]
          refine .inl ?_
          rw [Bool.eq_false_iff]
          intro hc
          have h1 := List.all_eq_true.1 hc _ (List.getElem_mem hkl)
          rw [decide_eq_true_iff, HDL.out] at h1
          omega
        have HF := Lib.hid hf
        clear hf
        go_wp2
        go_ret
        rw [HF.out]
        exact ⟨rfl, Below.refl _ _⟩
      · have HA2 := Lib.hid (show ∀ r ∈ xs.take (k + 1), r.data.length ≤ 100 from fun r hr => by
          rw [List.take_succ_eq_append_getElem hkl] at hr
          rcases List.mem_append.1 hr with hr | hr
          · exact HALL.out r hr
          · simp only [List.mem_cons, List.not_mem_nil, or_false] at hr
            subst hr
            rw [HDL.out]
            omega)
        go_wp2
        go_roundw
        case rel => exact ⟨k + 1, by omega, by go_num, HA2.out, by first | trivial | rfl⟩
        case measure => simp [intOf]; omega
    · have hkn : k = n := by omega
      subst hkn
      have hall : xs.all (fun r => decide (r.data.length ≤ 100)) = true := List.all_eq_true.2 fun r hr => by
        rw [decide_eq_true_iff]
        exact HALL.out r (by rw [List.take_of_length_le (by rw [← HN.out]; exact Nat.le_refl _)]; exact hr)
      have hf : fewB xs = decide ((k : Int) ≤ 60) := by
        unfold fewB
        rw [hall, Bool.true_and, ← HN.out]
        by_cases h : k ≤ 60
        · rw [decide_eq_true h, decide_eq_true (by omega)]
        · rw [decide_eq_false h, decide_eq_false (by omega)]
      have HF := Lib.hid hf
      clear hf hall
      go_wp2
      go_ret
      rw [HF.out]
      exact ⟨by first | rfl | simp, Below.refl _ _⟩
theorem fewB_len {xs : List Rc} (h : fewB xs = true) : xs.length ≤ 60 ∧ ∀ r ∈ xs, r.data.length ≤ 100 := by
  unfold fewB at h
  rw [Bool.and_eq_true, decide_eq_true_iff] at h
  exact ⟨h.2, fun r hr => by have := List.all_eq_true.1 h.1 r hr; rw [decide_eq_true_iff] at this; exact this⟩
end Go.Proofs.Ytbkcopejclcfdaa

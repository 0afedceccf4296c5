/- The document's PeerOf, CopyRecord. -/
import Derived.Test.YtbkcopejclcfdaaPlSame
namespace Go.Proofs.Ytbkcopejclcfdaa
open Go.RowKit Go.Proofs.YtbkcopejclcfdaaW.PrintLast Go.Proofs.Ytbkcopejclcfdaa.Sum
set_option linter.unusedVariables false
set_option linter.unusedSimpArgs false
set_option maxHeartbeats 4000000 in
set_option maxRecDepth 20000 in
theorem peerOf_any (W : World) (k : List Int) (hk : Key20 k) (A : Option Addr) (n cap : Nat) (l : List Int) (hn : n = l.length) (hl : n ≤ 1000000000) (hr : Reads W A (ints l)) :
    Calls Try.prog 24 #[.agg (kv k), .slice A n cap] W fun e W' => e = .returned (.tuple #[.int .i64 (minL k l), .bool (!decide (n = 0))]) ∧ Below W.heap.size W W' := by
  obtain ⟨W1, hW1⟩ : ∃ W1, W.alloc (.cells (kv k) 23) = W1 := ⟨_, rfl⟩
  have hb1 : Below W.heap.size W W1 := by rw [← hW1]; exact (Below.refl _ _).alloc (Nat.le_refl _) _
  have hg1 : W1.heap[W.heap.size]? = some (.cells (kv k) 23 (0, 0)) := by rw [← hW1, heap_alloc_new]
  have hrg1 : W1.rangeAt W.heap.size 0 (cv k) := fun j u hj => by
    rw [Nat.zero_add, cell_of_row _ _ j (kv k) 23 (0, 0) hg1]
    simpa [kv_cv] using hj
  have hgl := lt_of_block hg1
  have hu := Try.underlying23
  have ik : (Try.prog.info? 23).map (·.size) = some (cv k).length := by rw [cv_length, hk.len]; exact info23
  have HB1 := Lib.hid hb1
  have HRG1 := Lib.hid hrg1
  have HN := Lib.hid hn
  have HR := Lib.hid (hr.below hb1)
  have HK := Lib.hid hk
  clear hb1 hg1 hrg1 hn hr hk
  go_enter Try.func24, Try.ntmps24
  go_wp2
  go_loopw [6, 7] (fun b i wr => ∃ j : Nat, j ≤ n ∧ i = .int .i64 j ∧ ((j = 0 ∧ b = .int .i64 (-1)) ∨ ∃ bi : Nat, ∃ h : bi < l.length, bi < j ∧ b = .int .i64 bi ∧ l[bi] = minL k (l.take j)) ∧ Below W1.heap.size W1 wr) (fun _ i _ => n - (intOf i).toNat)
  case atStart => exact ⟨0, Nat.zero_le _, rfl, .inl ⟨rfl, rfl⟩, Below.refl _ _⟩
  case round =>
    obtain ⟨j, hj, rfl, hbest, hb⟩ := hrel
    by_cases hlt : j < n
    · have hjl : j < l.length := by rw [← HN.out]; exact hlt
      have i1 : (j : Int) < (n : Int) := by omega
      rcases hbest with ⟨hj0, rfl⟩ | ⟨bi, hbl, hbj, rfl, hbm⟩
      · subst hj0
        have HM := Lib.hid (minL_one k l hjl)
        have HB9 := Lib.hid (Below.drew hb)
        have hd : decide ((-1 : Int) < 0) = true := by decide
        clear hb
        go_wp2
        refine start_ (n := 14) (S := fun w' => w' = wr.drew) (ds := []) #[false, false, false, false, false, false, false, false, false, false, false, false, false, false] (by kernel_rfl) rfl rfl (rfl) (fun hHeld => ?_)
        generalize hW9 : wr.drew = W9 at *
        refine pure_ (i := 0) (N := some 14) (v := ?_) (a' := ?_) #[true, false, false, false, false, false, false, false, false, false, false, false, false, false] rfl rfl (by kernel_rfl) (fun _ _ _ h => h) (Or.inl ⟨by rfl, ?_⟩) ?_ ?_
        rotate_left
        · intro w'
          go_simp
          with_reducible rfl
        rotate_left
        · simp only [Act.put, List.setIfInBounds_toArray, List.set_cons_zero, List.set_cons_succ]
          rfl
        refine pure_ (i := 1) (N := some 15) (v := ?_) (a' := ?_) #[true, true, false, false, false, false, false, false, false, false, false, false, false, false] rfl rfl (by kernel_rfl) (fun _ _ _ h => h) (Or.inl ⟨by rfl, ?_⟩) ?_ ?_
        rotate_left
        · intro w'
          go_simp
          with_reducible rfl
        rotate_left
        · simp only [Act.put, List.setIfInBounds_toArray, List.set_cons_zero, List.set_cons_succ]
          rfl
        refine pure_ (i := 2) (N := some 16) (v := ?_) (a' := ?_) #[true, true, true, false, false, false, false, false, false, false, false, false, false, false] rfl rfl (by kernel_rfl) (fun _ _ _ h => h) (Or.inl ⟨by rfl, ?_⟩) ?_ ?_
        rotate_left
        · intro w'
          go_simp
          with_reducible rfl
        rotate_left
        · simp only [Act.put, List.setIfInBounds_toArray, List.set_cons_zero, List.set_cons_succ]
          rfl
        refine pure_ (i := 3) (N := some 17) (v := undef) (a' := ?_) #[true, true, true, true, false, false, false, false, false, false, false, false, false, false] rfl rfl (by kernel_rfl) (fun _ _ _ h => h) (Or.inr ⟨by rfl, rfl⟩) ?_ ?_
        rotate_left
        · simp only [Act.put, List.setIfInBounds_toArray, List.set_cons_zero, List.set_cons_succ]
          rfl
        refine pure_ (i := 4) (N := some 18) (v := undef) (a' := ?_) #[true, true, true, true, true, false, false, false, false, false, false, false, false, false] rfl rfl (by kernel_rfl) (fun _ _ _ h => h) (Or.inr ⟨by rfl, rfl⟩) ?_ ?_
        rotate_left
        · simp only [Act.put, List.setIfInBounds_toArray, List.set_cons_zero, List.set_cons_succ]
          rfl
        refine pure_ (i := 5) (N := some 19) (v := undef) (a' := ?_) #[true, true, true, true, true, true, false, false, false, false, false, false, false, false] rfl rfl (by kernel_rfl) (fun _ _ _ h => h) (Or.inr ⟨by rfl, rfl⟩) ?_ ?_
        rotate_left
        · simp only [Act.put, List.setIfInBounds_toArray, List.set_cons_zero, List.set_cons_succ]
          rfl
        refine pure_ (i := 6) (N := some 20) (v := undef) (a' := ?_) #[true, true, true, true, true, true, true, false, false, false, false, false, false, false] rfl rfl (by kernel_rfl) (fun _ _ _ h => h) (Or.inr ⟨by rfl, rfl⟩) ?_ ?_
        rotate_left
        · simp only [Act.put, List.setIfInBounds_toArray, List.set_cons_zero, List.set_cons_succ]
          rfl
        refine pure_ (i := 7) (N := some 21) (v := undef) (a' := ?_) #[true, true, true, true, true, true, true, true, false, false, false, false, false, false] rfl rfl (by kernel_rfl) (fun _ _ _ h => h) (Or.inr ⟨by rfl, rfl⟩) ?_ ?_
        rotate_left
        · simp only [Act.put, List.setIfInBounds_toArray, List.set_cons_zero, List.set_cons_succ]
          rfl
        refine pure_ (i := 8) (N := some 22) (v := undef) (a' := ?_) #[true, true, true, true, true, true, true, true, true, false, false, false, false, false] rfl rfl (by kernel_rfl) (fun _ _ _ h => h) (Or.inr ⟨by rfl, rfl⟩) ?_ ?_
        rotate_left
        · simp only [Act.put, List.setIfInBounds_toArray, List.set_cons_zero, List.set_cons_succ]
          rfl
        refine pure_ (i := 9) (N := some 23) (v := undef) (a' := ?_) #[true, true, true, true, true, true, true, true, true, true, false, false, false, false] rfl rfl (by kernel_rfl) (fun _ _ _ h => h) (Or.inr ⟨by rfl, rfl⟩) ?_ ?_
        rotate_left
        · simp only [Act.put, List.setIfInBounds_toArray, List.set_cons_zero, List.set_cons_succ]
          rfl
        refine pure_ (i := 10) (N := some 24) (v := undef) (a' := ?_) #[true, true, true, true, true, true, true, true, true, true, true, false, false, false] rfl rfl (by kernel_rfl) (fun _ _ _ h => h) (Or.inr ⟨by rfl, rfl⟩) ?_ ?_
        rotate_left
        · simp only [Act.put, List.setIfInBounds_toArray, List.set_cons_zero, List.set_cons_succ]
          rfl
        refine pure_ (i := 11) (N := some 25) (v := undef) (a' := ?_) #[true, true, true, true, true, true, true, true, true, true, true, true, false, false] rfl rfl (by kernel_rfl) (fun _ _ _ h => h) (Or.inr ⟨by rfl, rfl⟩) ?_ ?_
        rotate_left
        · simp only [Act.put, List.setIfInBounds_toArray, List.set_cons_zero, List.set_cons_succ]
          rfl
        refine pure_ (i := 12) (N := some 26) (v := undef) (a' := ?_) #[true, true, true, true, true, true, true, true, true, true, true, true, true, false] rfl rfl (by kernel_rfl) (fun _ _ _ h => h) (Or.inr ⟨by rfl, rfl⟩) ?_ ?_
        rotate_left
        · simp only [Act.put, List.setIfInBounds_toArray, List.set_cons_zero, List.set_cons_succ]
          rfl
        refine pure_ (i := 13) (N := some 27) (v := ?_) (a' := ?_) #[true, true, true, true, true, true, true, true, true, true, true, true, true, true] rfl rfl (by kernel_rfl) (fun _ _ _ h => h) (Or.inl ⟨by rfl, ?_⟩) ?_ ?_
        rotate_left
        · intro w'
          go_simp
          with_reducible rfl
        rotate_left
        · simp only [Act.put, List.setIfInBounds_toArray, List.set_cons_zero, List.set_cons_succ]
          rfl
        refine done_ (by kernel_rfl) ?_
        go_wp2
        go_roundw
        case rel => exact ⟨1, by omega, by go_num, .inr ⟨0, hjl, by omega, by go_num, by rw [HM.out]⟩, HB9.out⟩
        case measure => simp [intOf]; omega
      · have hj1 : 1 ≤ j := by omega
        obtain ⟨b1, o1, rfl, _, hc1⟩ := reads_int (HR.out.below hb) j hjl
        obtain ⟨b2, o2, hA2, _, hc2⟩ := reads_int (HR.out.below hb) bi hbl
        injection hA2 with hA2
        injection hA2 with h4 h5
        subst h4 h5
        have HMS := Lib.hid (minL_succ k l j hj1 hjl)
        rw [← hbm] at HMS
        obtain ⟨x, hx⟩ : ∃ x, l[j] = x := ⟨_, rfl⟩
        obtain ⟨y, hy⟩ : ∃ y, l[bi] = y := ⟨_, rfl⟩
        rw [hx] at hc1 HMS
        rw [hy] at hc2 HMS hbm
        have HX := Lib.hid hx
        have HY := Lib.hid hy
        have i2 : (bi : Int) < (n : Int) := by omega
        have hb9 := Below.drew hb
        have HB9 := Lib.hid hb9
        have HRG := Lib.hid (range_below hb9 hgl HRG1.out)
        have HNE := Lib.hid (rnear_any k x y wr.drew HK.out)
        have hd : decide ((bi : Int) < 0) = false := by rw [decide_eq_false_iff_not]; omega
        have HC1 := Lib.hid (show wr.drew.cell? ⟨b1, o1 + j, none⟩ = _ from hc1)
        have HC2 := Lib.hid (show wr.drew.cell? ⟨b1, o1 + bi, none⟩ = _ from hc2)
        have HD := Lib.hid hd
        clear hc1 hc2 hx hy hb hb9 hd hbm
        rcases Bool.eq_false_or_eq_true (nearB k x y) with hq | hq
        · rw [hq] at HNE
          have HM2 := Lib.hid (show minL k (l.take (j + 1)) = x by rw [HMS.out, hq]; simp)
          clear hq
          go_wp2
          have hc1 := HC1.out
          have hc2 := HC2.out
          have hd := HD.out
          refine start_ (n := 14) (S := fun w' => w' = wr.drew) (ds := [12]) #[false, false, false, false, false, false, false, false, false, false, false, false, false, false] (by kernel_rfl) rfl rfl (rfl) (fun hHeld => ?_)
          generalize hW9 : wr.drew = W9 at *
          refine pure_ (i := 0) (N := some 14) (v := ?_) (a' := ?_) #[true, false, false, false, false, false, false, false, false, false, false, false, false, false] rfl rfl (by kernel_rfl) (fun _ _ _ h => h) (Or.inl ⟨by rfl, ?_⟩) ?_ ?_
          rotate_left
          · intro w'
            go_simp
            with_reducible rfl
          rotate_left
          · simp only [Act.put, List.setIfInBounds_toArray, List.set_cons_zero, List.set_cons_succ]
            rfl
          refine pure_ (i := 1) (N := some 15) (v := ?_) (a' := ?_) #[true, true, false, false, false, false, false, false, false, false, false, false, false, false] rfl rfl (by kernel_rfl) (fun _ _ _ h => h) (Or.inl ⟨by rfl, ?_⟩) ?_ ?_
          rotate_left
          · intro w'
            go_simp
            with_reducible rfl
          rotate_left
          · simp only [Act.put, List.setIfInBounds_toArray, List.set_cons_zero, List.set_cons_succ]
            rfl
          refine pure_ (i := 2) (N := some 16) (v := ?_) (a' := ?_) #[true, true, true, false, false, false, false, false, false, false, false, false, false, false] rfl rfl (by kernel_rfl) (fun _ _ _ h => h) (Or.inl ⟨by rfl, ?_⟩) ?_ ?_
          rotate_left
          · intro w'
            go_simp
            with_reducible rfl
          rotate_left
          · simp only [Act.put, List.setIfInBounds_toArray, List.set_cons_zero, List.set_cons_succ]
            rfl
          refine take_ (i := 3) (N := some 17) (v := .agg (cv k).toArray) (a' := ?_) #[true, true, true, true, false, false, false, false, false, false, false, false, false, false] rfl rfl (by kernel_rfl) (fun _ _ _ h => h) (yieldsIf_load_mid (by rfl) _ _ rfl _ _ rfl _ _ (fun w' (s : w' = W9) => (s ▸ HRG.out : w'.rangeAt W.heap.size 0 (cv k))) hu rfl ik) hHeld ?_ ?_
          rotate_left
          · simp only [Act.put, List.setIfInBounds_toArray, List.set_cons_zero, List.set_cons_succ]
            rfl
          refine pure_ (i := 4) (N := some 18) (v := ?_) (a' := ?_) #[true, true, true, true, true, false, false, false, false, false, false, false, false, false] rfl rfl (by kernel_rfl) (fun _ _ _ h => h) (Or.inl ⟨by rfl, ?_⟩) ?_ ?_
          rotate_left
          · intro w'
            go_simp
            with_reducible rfl
          rotate_left
          · simp only [Act.put, List.setIfInBounds_toArray, List.set_cons_zero, List.set_cons_succ]
            rfl
          refine pure_ (i := 5) (N := some 19) (v := ?_) (a' := ?_) #[true, true, true, true, true, true, false, false, false, false, false, false, false, false] rfl rfl (by kernel_rfl) (fun _ _ _ h => h) (Or.inl ⟨by rfl, ?_⟩) ?_ ?_
          rotate_left
          · intro w'
            go_simp
            with_reducible rfl
          rotate_left
          · simp only [Act.put, List.setIfInBounds_toArray, List.set_cons_zero, List.set_cons_succ]
            rfl
          refine pure_ (i := 6) (N := some 20) (v := ?_) (a' := ?_) #[true, true, true, true, true, true, true, false, false, false, false, false, false, false] rfl rfl (by kernel_rfl) (fun _ _ _ h => h) (Or.inl ⟨by rfl, ?_⟩) ?_ ?_
          rotate_left
          · intro w'
            go_simp
            with_reducible rfl
          rotate_left
          · simp only [Act.put, List.setIfInBounds_toArray, List.set_cons_zero, List.set_cons_succ]
            rfl
          refine take_ (i := 7) (N := some 21) (v := ?_) (a' := ?_) #[true, true, true, true, true, true, true, true, false, false, false, false, false, false] rfl rfl (by kernel_rfl) (fun _ _ _ h => h) (Or.inl ⟨by rfl, ?_⟩) hHeld ?_ ?_
          rotate_left
          · intro w' hSw
            have hSw : w' = W9 := hSw
            subst hSw
            go_simp
            with_reducible rfl
          rotate_left
          · simp only [Act.put, List.setIfInBounds_toArray, List.set_cons_zero, List.set_cons_succ]
            rfl
          refine pure_ (i := 8) (N := some 22) (v := ?_) (a' := ?_) #[true, true, true, true, true, true, true, true, true, false, false, false, false, false] rfl rfl (by kernel_rfl) (fun _ _ _ h => h) (Or.inl ⟨by rfl, ?_⟩) ?_ ?_
          rotate_left
          · intro w'
            go_simp
            with_reducible rfl
          rotate_left
          · simp only [Act.put, List.setIfInBounds_toArray, List.set_cons_zero, List.set_cons_succ]
            rfl
          refine pure_ (i := 9) (N := some 23) (v := ?_) (a' := ?_) #[true, true, true, true, true, true, true, true, true, true, false, false, false, false] rfl rfl (by kernel_rfl) (fun _ _ _ h => h) (Or.inl ⟨by rfl, ?_⟩) ?_ ?_
          rotate_left
          · intro w'
            go_simp
            with_reducible rfl
          rotate_left
          · simp only [Act.put, List.setIfInBounds_toArray, List.set_cons_zero, List.set_cons_succ]
            rfl
          refine pure_ (i := 10) (N := some 24) (v := ?_) (a' := ?_) #[true, true, true, true, true, true, true, true, true, true, true, false, false, false] rfl rfl (by kernel_rfl) (fun _ _ _ h => h) (Or.inl ⟨by rfl, ?_⟩) ?_ ?_
          rotate_left
          · intro w'
            go_simp
            with_reducible rfl
          rotate_left
          · simp only [Act.put, List.setIfInBounds_toArray, List.set_cons_zero, List.set_cons_succ]
            rfl
          refine take_ (i := 11) (N := some 25) (v := ?_) (a' := ?_) #[true, true, true, true, true, true, true, true, true, true, true, true, false, false] rfl rfl (by kernel_rfl) (fun _ _ _ h => h) (Or.inl ⟨by rfl, ?_⟩) hHeld ?_ ?_
          rotate_left
          · intro w' hSw
            have hSw : w' = W9 := hSw
            subst hSw
            go_simp
            with_reducible rfl
          rotate_left
          · simp only [Act.put, List.setIfInBounds_toArray, List.set_cons_zero, List.set_cons_succ]
            rfl
          refine last_ (i := 12) (N := some 26) #[true, true, true, true, true, true, true, true, true, true, true, true, true, false] rfl rfl (by kernel_rfl) (by decide) (fun K hK => ?_)
          refine goes_ Try.func56 (by kernel_rfl) rfl #[.agg (cv k).toArray, .int .i64 x, .int .i64 y] (by rfl) rfl rfl (by (try simp only [List.map_toArray, List.map_cons, List.map_nil]); first | done | rfl) ?_
          refine HNE.out.mono ?_
          rintro e w3 ⟨rfl, hbn⟩
          have HBN := Lib.hid (HB9.out.trans (hbn.mono HB9.out.size))
          clear hbn
          refine ⟨_, rfl, ?_⟩
          refine hK.out _ _ ?_
          clear hK K
          refine norm_ (a' := ?_) ?_ ?_
          rotate_left
          · (try unfold Act.put); (try simp only [putAll, Act.put, List.setIfInBounds_toArray, List.set_cons_zero, List.set_cons_succ])
            rfl
          refine pure_ (i := 13) (N := some 27) (v := ?_) (a' := ?_) #[true, true, true, true, true, true, true, true, true, true, true, true, true, true] rfl rfl (by kernel_rfl) (fun _ _ _ h => h) (Or.inl ⟨by rfl, ?_⟩) ?_ ?_
          rotate_left
          · intro w'
            go_simp
            with_reducible rfl
          rotate_left
          · simp only [Act.put, List.setIfInBounds_toArray, List.set_cons_zero, List.set_cons_succ]
            rfl
          refine done_ (by kernel_rfl) ?_
          go_wp2
          go_roundw
          case rel => exact ⟨j + 1, by omega, by go_num, .inr ⟨j, hjl, by omega, by go_num, by rw [HM2.out, HX.out]⟩, HBN.out⟩
          case measure => simp [intOf]; omega
        · rw [hq] at HNE
          have HM2 := Lib.hid (show minL k (l.take (j + 1)) = y by rw [HMS.out, hq]; simp)
          clear hq
          go_wp2
          have hc1 := HC1.out
          have hc2 := HC2.out
          have hd := HD.out
          refine start_ (n := 14) (S := fun w' => w' = wr.drew) (ds := [12]) #[false, false, false, false, false, false, false, false, false, false, false, false, false, false] (by kernel_rfl) rfl rfl (rfl) (fun hHeld => ?_)
          generalize hW9 : wr.drew = W9 at *
          refine pure_ (i := 0) (N := some 14) (v := ?_) (a' := ?_) #[true, false, false, false, false, false, false, false, false, false, false, false, false, false] rfl rfl (by kernel_rfl) (fun _ _ _ h => h) (Or.inl ⟨by rfl, ?_⟩) ?_ ?_
          rotate_left
          · intro w'
            go_simp
            with_reducible rfl
          rotate_left
          · simp only [Act.put, List.setIfInBounds_toArray, List.set_cons_zero, List.set_cons_succ]
            rfl
          refine pure_ (i := 1) (N := some 15) (v := ?_) (a' := ?_) #[true, true, false, false, false, false, false, false, false, false, false, false, false, false] rfl rfl (by kernel_rfl) (fun _ _ _ h => h) (Or.inl ⟨by rfl, ?_⟩) ?_ ?_
          rotate_left
          · intro w'
            go_simp
            with_reducible rfl
          rotate_left
          · simp only [Act.put, List.setIfInBounds_toArray, List.set_cons_zero, List.set_cons_succ]
            rfl
          refine pure_ (i := 2) (N := some 16) (v := ?_) (a' := ?_) #[true, true, true, false, false, false, false, false, false, false, false, false, false, false] rfl rfl (by kernel_rfl) (fun _ _ _ h => h) (Or.inl ⟨by rfl, ?_⟩) ?_ ?_
          rotate_left
          · intro w'
            go_simp
            with_reducible rfl
          rotate_left
          · simp only [Act.put, List.setIfInBounds_toArray, List.set_cons_zero, List.set_cons_succ]
            rfl
          refine take_ (i := 3) (N := some 17) (v := .agg (cv k).toArray) (a' := ?_) #[true, true, true, true, false, false, false, false, false, false, false, false, false, false] rfl rfl (by kernel_rfl) (fun _ _ _ h => h) (yieldsIf_load_mid (by rfl) _ _ rfl _ _ rfl _ _ (fun w' (s : w' = W9) => (s ▸ HRG.out : w'.rangeAt W.heap.size 0 (cv k))) hu rfl ik) hHeld ?_ ?_
          rotate_left
          · simp only [Act.put, List.setIfInBounds_toArray, List.set_cons_zero, List.set_cons_succ]
            rfl
          refine pure_ (i := 4) (N := some 18) (v := ?_) (a' := ?_) #[true, true, true, true, true, false, false, false, false, false, false, false, false, false] rfl rfl (by kernel_rfl) (fun _ _ _ h => h) (Or.inl ⟨by rfl, ?_⟩) ?_ ?_
          rotate_left
          · intro w'
            go_simp
            with_reducible rfl
          rotate_left
          · simp only [Act.put, List.setIfInBounds_toArray, List.set_cons_zero, List.set_cons_succ]
            rfl
          refine pure_ (i := 5) (N := some 19) (v := ?_) (a' := ?_) #[true, true, true, true, true, true, false, false, false, false, false, false, false, false] rfl rfl (by kernel_rfl) (fun _ _ _ h => h) (Or.inl ⟨by rfl, ?_⟩) ?_ ?_
          rotate_left
          · intro w'
            go_simp
            with_reducible rfl
          rotate_left
          · simp only [Act.put, List.setIfInBounds_toArray, List.set_cons_zero, List.set_cons_succ]
            rfl
          refine pure_ (i := 6) (N := some 20) (v := ?_) (a' := ?_) #[true, true, true, true, true, true, true, false, false, false, false, false, false, false] rfl rfl (by kernel_rfl) (fun _ _ _ h => h) (Or.inl ⟨by rfl, ?_⟩) ?_ ?_
          rotate_left
          · intro w'
            go_simp
            with_reducible rfl
          rotate_left
          · simp only [Act.put, List.setIfInBounds_toArray, List.set_cons_zero, List.set_cons_succ]
            rfl
          refine take_ (i := 7) (N := some 21) (v := ?_) (a' := ?_) #[true, true, true, true, true, true, true, true, false, false, false, false, false, false] rfl rfl (by kernel_rfl) (fun _ _ _ h => h) (Or.inl ⟨by rfl, ?_⟩) hHeld ?_ ?_
          rotate_left
          · intro w' hSw
            have hSw : w' = W9 := hSw
            subst hSw
            go_simp
            with_reducible rfl
          rotate_left
          · simp only [Act.put, List.setIfInBounds_toArray, List.set_cons_zero, List.set_cons_succ]
            rfl
          refine pure_ (i := 8) (N := some 22) (v := ?_) (a' := ?_) #[true, true, true, true, true, true, true, true, true, false, false, false, false, false] rfl rfl (by kernel_rfl) (fun _ _ _ h => h) (Or.inl ⟨by rfl, ?_⟩) ?_ ?_
          rotate_left
          · intro w'
            go_simp
            with_reducible rfl
          rotate_left
          · simp only [Act.put, List.setIfInBounds_toArray, List.set_cons_zero, List.set_cons_succ]
            rfl
          refine pure_ (i := 9) (N := some 23) (v := ?_) (a' := ?_) #[true, true, true, true, true, true, true, true, true, true, false, false, false, false] rfl rfl (by kernel_rfl) (fun _ _ _ h => h) (Or.inl ⟨by rfl, ?_⟩) ?_ ?_
          rotate_left
          · intro w'
            go_simp
            with_reducible rfl
          rotate_left
          · simp only [Act.put, List.setIfInBounds_toArray, List.set_cons_zero, List.set_cons_succ]
            rfl
          refine pure_ (i := 10) (N := some 24) (v := ?_) (a' := ?_) #[true, true, true, true, true, true, true, true, true, true, true, false, false, false] rfl rfl (by kernel_rfl) (fun _ _ _ h => h) (Or.inl ⟨by rfl, ?_⟩) ?_ ?_
          rotate_left
          · intro w'
            go_simp
            with_reducible rfl
          rotate_left
          · simp only [Act.put, List.setIfInBounds_toArray, List.set_cons_zero, List.set_cons_succ]
            rfl
          refine take_ (i := 11) (N := some 25) (v := ?_) (a' := ?_) #[true, true, true, true, true, true, true, true, true, true, true, true, false, false] rfl rfl (by kernel_rfl) (fun _ _ _ h => h) (Or.inl ⟨by rfl, ?_⟩) hHeld ?_ ?_
          rotate_left
          · intro w' hSw
            have hSw : w' = W9 := hSw
            subst hSw
            go_simp
            with_reducible rfl
          rotate_left
          · simp only [Act.put, List.setIfInBounds_toArray, List.set_cons_zero, List.set_cons_succ]
            rfl
          refine last_ (i := 12) (N := some 26) #[true, true, true, true, true, true, true, true, true, true, true, true, true, false] rfl rfl (by kernel_rfl) (by decide) (fun K hK => ?_)
          refine goes_ Try.func56 (by kernel_rfl) rfl #[.agg (cv k).toArray, .int .i64 x, .int .i64 y] (by rfl) rfl rfl (by (try simp only [List.map_toArray, List.map_cons, List.map_nil]); first | done | rfl) ?_
          refine HNE.out.mono ?_
          rintro e w3 ⟨rfl, hbn⟩
          have HBN := Lib.hid (HB9.out.trans (hbn.mono HB9.out.size))
          clear hbn
          refine ⟨_, rfl, ?_⟩
          refine hK.out _ _ ?_
          clear hK K
          refine norm_ (a' := ?_) ?_ ?_
          rotate_left
          · (try unfold Act.put); (try simp only [putAll, Act.put, List.setIfInBounds_toArray, List.set_cons_zero, List.set_cons_succ])
            rfl
          refine pure_ (i := 13) (N := some 27) (v := ?_) (a' := ?_) #[true, true, true, true, true, true, true, true, true, true, true, true, true, true] rfl rfl (by kernel_rfl) (fun _ _ _ h => h) (Or.inl ⟨by rfl, ?_⟩) ?_ ?_
          rotate_left
          · intro w'
            go_simp
            with_reducible rfl
          rotate_left
          · simp only [Act.put, List.setIfInBounds_toArray, List.set_cons_zero, List.set_cons_succ]
            rfl
          refine done_ (by kernel_rfl) ?_
          go_wp2
          go_roundw
          case rel => exact ⟨j + 1, by omega, by go_num, .inr ⟨bi, hbl, by omega, by go_num, by rw [HM2.out, HY.out]⟩, HBN.out⟩
          case measure => simp [intOf]; omega
    · have hjn : j = n := by omega
      subst hjn
      rcases hbest with ⟨hj0, rfl⟩ | ⟨bi, hbl, hbj, rfl, hbm⟩
      · subst hj0
        have hl0 : l = [] := List.eq_nil_of_length_eq_zero HN.out.symm
        subst hl0
        have HBF := Lib.hid (HB1.out.trans (hb.mono HB1.out.size))
        go_wp2
        go_ret2
        exact ⟨rfl, HBF.out⟩
      · rw [List.take_of_length_le (by rw [← HN.out]; exact Nat.le_refl _)] at hbm
        obtain ⟨b1, o1, rfl, _, hc1⟩ := reads_int (HR.out.below hb) bi hbl
        rw [hbm] at hc1
        obtain ⟨m, hm⟩ : ∃ m, minL k l = m := ⟨_, rfl⟩
        rw [hm] at hc1
        have HM := Lib.hid hm
        clear hm
        have i2 : (bi : Int) < (j : Int) := by omega
        have i3 : ¬ (bi : Int) < 0 := by omega
        have HBF := Lib.hid (HB1.out.trans (hb.mono HB1.out.size))
        have HD := Lib.hid (show (!decide (j = 0)) = true by simp; omega)
        clear hbm hb
        go_wp2
        go_ret2
        rw [HD.out, HM.out]
        exact ⟨rfl, HBF.out⟩
/-- a record, copied -/
def CopyPost (W : World) (r : Rc) (e : Ending) (W' : World) : Prop :=
  ∃ v', e = .returned (.agg (r.cells v').toArray) ∧ W'.ownsRow W.heap.size 5 1 v' r.data.length (cv r.data) ∧ Below W.heap.size W W'
theorem Turns.setRowK (g : Nat) (cs : Array Value) (w : World) : Turns (fun k => k = g) w (w.setRow g cs) :=
  ⟨rfl, rfl, rfl, by simp [World.setRow], fun q _ hq => setRow_other w g q cs hq⟩
set_option maxHeartbeats 4000000 in
set_option maxRecDepth 20000 in
theorem copy_any (W : World) (r : Rc) (v : Value) (hv : DataV W v r.data) (hl : r.data.length ≤ 1000000) : Calls Try.prog 60 #[.agg (r.cells v).toArray] W (CopyPost W r) := by
  obtain ⟨peer, number, s1, s2, s3, bl, es, gn, ti, dt⟩ := r
  obtain ⟨ad, cap, rfl, hrd, _⟩ := hv
  replace hl : dt.length ≤ 1000000 := hl
  replace hrd : Reads W ad (cv dt) := hrd
  obtain ⟨dl, hdl⟩ : ∃ dl, dt.length = dl := ⟨_, rfl⟩
  show Calls Try.prog 60 #[.agg #[.int .i64 peer, .int .i64 number, .int .i64 s1, .int .i64 s2, .int .i64 s3, .int .i64 bl, .int .i64 es, .bool gn, .int .i64 ti, .slice ad dt.length cap]] W _
  rw [hdl]
  obtain ⟨W2, hW2⟩ : ∃ W2, (W.alloc (.cells #[.int .i64 peer, .int .i64 number, .int .i64 s1, .int .i64 s2, .int .i64 s3, .int .i64 bl, .int .i64 es, .bool gn, .int .i64 ti, .slice ad dl cap] 53)).alloc (.cells #[.int .i64 0, .int .i64 0, .int .i64 0, .int .i64 0, .int .i64 0, .int .i64 0, .int .i64 0, .bool false, .int .i64 0, .slice none 0 0] 53) = W2 := ⟨_, rfl⟩
  have hb2 : Below W.heap.size W W2 := by rw [← hW2]; exact ((Below.refl _ _).alloc (Nat.le_refl _) _).alloc (by simp) _
  have hra : W2.heap[W.heap.size]? = some (.cells #[.int .i64 peer, .int .i64 number, .int .i64 s1, .int .i64 s2, .int .i64 s3, .int .i64 bl, .int .i64 es, .bool gn, .int .i64 ti, .slice ad dl cap] 53 (0, 0)) := by rw [← hW2, heap_alloc2_old]
  have hrb : W2.heap[W.heap.size + 1]? = some (.cells #[.int .i64 0, .int .i64 0, .int .i64 0, .int .i64 0, .int .i64 0, .int .i64 0, .int .i64 0, .bool false, .int .i64 0, .slice none 0 0] 53 (0, 0)) := by rw [← hW2, heap_alloc2_new]
  have c9 : W2.cell? ⟨W.heap.size, 9, none⟩ = some (.slice ad dl cap) := by rw [cell_of_blk hra]; rfl
  obtain ⟨i0, hi, hz0, hz1, hz2⟩ := info_parts info5p
  have hla := lt_of_block hra
  have hx := hrd.below hb2
  have hl2 : (cv dt).length = dl * 1 := by rw [cv_length, hdl, Nat.mul_one]
  have HB2 := Lib.hid hb2
  have HRA := Lib.hid hra
  have HRB := Lib.hid hrb
  have HDL := Lib.hid hdl
  have hdl6 : dl ≤ 1000000 := by omega
  have hu53 := Try.underlying53
  have hsz := hb2.size
  clear hb2 hra hrb hrd hdl
  go_enter Try.func60, Try.ntmps60
  go_wp2_with (at_builtin; refine wpList_row_append_any _ rfl (.const (.slice none 0 0)) (.tmp 4) 51 rfl W.heap.size hsz 5 i0 _ 1 1 Try.underlying51 hi hz0 hz1 hz2 rfl (by decide) (.slice none 0 0) 0 [] rfl (World.ownsRow_nil _ _ _ _) ad dl cap (cv dt) rfl hl2 hx (cv_one dt) (by omega) (by decide) ?_)
  intro v' w' ow' hg' hf'
  (try simp only [Nat.zero_add, List.nil_append] at ow')
  obtain ⟨ad', cap', rfl⟩ := slice_of_own ow'
  have hb' : Below W2.heap.size W2 w' := hg'.below (Nat.le_refl _) (fun b _ e => by cases e)
  have ha' := (hb'.block W.heap.size (lt_of_block HRA.out)).trans HRA.out
  have hb1' := (hb'.block (W.heap.size + 1) (lt_of_block HRB.out)).trans HRB.out
  have c9' : w'.cell? ⟨W.heap.size, 9, none⟩ = some (.slice ad dl cap) := by rw [cell_of_blk ha']; rfl
  have f9' : w'.frozen? ⟨W.heap.size, 9, none⟩ = false := free_of_blk ha'
  obtain ⟨w3, hw3⟩ : ∃ w3, w'.setCell ⟨W.heap.size, 9, none⟩ (.slice ad' dl cap') = w3 := ⟨_, rfl⟩
  have ha3 : w3.heap[W.heap.size]? = some (.cells ([.int .i64 peer, .int .i64 number, .int .i64 s1, .int .i64 s2, .int .i64 s3, .int .i64 bl, .int .i64 es, .bool gn, .int .i64 ti, .slice ad' dl cap'] : List Value).toArray 53 (0, 0)) := by rw [← hw3]; exact blk_setCell ha' 9 _
  have hb3 : w3.heap[W.heap.size + 1]? = some (.cells #[.int .i64 0, .int .i64 0, .int .i64 0, .int .i64 0, .int .i64 0, .int .i64 0, .int .i64 0, .bool false, .int .i64 0, .slice none 0 0] 53 (0, 0)) := by rw [← hw3, Below.heap_setCell _ _ _ _ (by dsimp only; omega)]; exact hb1'
  have ho3 : w3.ownsRow W.heap.size 5 1 (.slice ad' dl cap') dl (cv dt) := by rw [← hw3]; exact ownsRow_setCell_other ow' (fun e => own_ne ow' ha' (by decide) e) _
  have HBW3 := Lib.hid (show Below W.heap.size W w3 by rw [← hw3]; exact (HB2.out.trans (hb'.mono HB2.out.size)).setCell (Nat.le_refl _) _)
  have HO3 := Lib.hid ho3
  have HA3 := Lib.hid ha3
  have HB3 := Lib.hid hb3
  have hi53 : (Try.prog.info? 53).map (·.size) = some ([.int .i64 peer, .int .i64 number, .int .i64 s1, .int .i64 s2, .int .i64 s3, .int .i64 bl, .int .i64 es, .bool gn, .int .i64 ti, .slice ad' dl cap'] : List Value).toArray.size := info53
  have HNE := Lib.hid (own_ne ho3 hb3 (by decide))
  clear ow' hg' hf' hb' ha' hb1' ha3 hb3 ho3 hx hl2 hz0 hz1 hz2 hi c9
  obtain ⟨rr, hrr⟩ : ∃ rr : Array Value, ([.int .i64 peer, .int .i64 number, .int .i64 s1, .int .i64 s2, .int .i64 s3, .int .i64 bl, .int .i64 es, .bool gn, .int .i64 ti, .slice ad' dl cap'] : List Value).toArray = rr := ⟨_, rfl⟩
  have hrz : (#[.int .i64 0, .int .i64 0, .int .i64 0, .int .i64 0, .int .i64 0, .int .i64 0, .int .i64 0, .bool false, .int .i64 0, .slice none 0 0] : Array Value).size = rr.size := by rw [← hrr]; rfl
  have hro : rr.all (·.oneCell') = true := by rw [← hrr]; kernel_rfl
  have HRR := Lib.hid hrr
  rw [hrr] at HA3 hi53
  clear hrr
  go_wp2_with (first | (refine wpList_load_row rfl 53 (.tmp 1) rfl W.heap.size rfl 53 rr (0, 0) _ HA3.out hu53 rfl hi53 ?_) | (refine wpList_store_row rfl 53 (.tmp 2) (.tmp 7) rfl (W.heap.size + 1) rfl rr rfl 53 #[.int .i64 0, .int .i64 0, .int .i64 0, .int .i64 0, .int .i64 0, .int .i64 0, .int .i64 0, .bool false, .int .i64 0, .slice none 0 0] HB3.out hi53 hrz hro ?_))
  refine bodyPost_ret (v := .agg rr) ?_ rfl ?_
  · exact results_cell_row rfl _ _ (W.heap.size + 1) 53 _ (0, 0) _ rfl (setRow_heap w3 _ #[.int .i64 0, .int .i64 0, .int .i64 0, .int .i64 0, .int .i64 0, .int .i64 0, .int .i64 0, .bool false, .int .i64 0, .slice none 0 0] _ 53 _ HB3.out) Try.underlying53 rfl hi53
  · refine ⟨.slice ad' dl cap', by rw [← HRR.out]; rfl, ?_, below_setRow HBW3.out (Nat.le_succ _) _⟩
    have T := Turns.setRowK (W.heap.size + 1) rr w3
    show (w3.setRow (W.heap.size + 1) rr).ownsRow W.heap.size 5 1 (.slice ad' dl cap') dt.length (cv dt)
    rw [HDL.out]
    exact T.own HO3.out (fun k hk e => by rw [e] at hk; exact HNE.out hk)
end Go.Proofs.Ytbkcopejclcfdaa

/- slices.Delete of one contact. -/
import Derived.Test.YtddchhoplomjgaaBIdx
namespace Go.Proofs.Ytddchhoplomjgaa
open Go.RowKit Go.Proofs.YtddchhoplomjgaaW.PrintLast
set_option linter.unusedVariables false
set_option linter.unusedSimpArgs false
theorem cons_erase {l : List Con} (h : Oks l) (i : Nat) (hi : i < l.length) : (cons l).take (i * 21) ++ (cons l).drop ((i + 1) * 21) = cons (l.eraseIdx i) := by
  rw [cons_take h i (by omega), cons_drop h (i + 1) (by omega), ← cons_append, List.eraseIdx_eq_take_drop_succ]
theorem zero54 : ∀ w : World, (zeroValue 54).run Try.prog w = .ok (.agg (Array.mk (.int .i64 0 :: List.replicate 20 (.int .u8 0)))) w := fun w => by kernel_rfl
set_option maxHeartbeats 1000000 in
theorem del_any (W : World) (B g m cap i : Nat) (l : List Con) (hn : m + 1 = l.length) (hl : m ≤ 1000000) (hok : Oks l) (hi : i < m + 1) (h : W.ownsRow B 54 21 (.slice (some ⟨g, 0, none⟩) (m + 1) cap) (m + 1) (cons l)) :
    Calls Try.prog 41 #[.slice (some ⟨g, 0, none⟩) (m + 1) cap, .int .i64 i, .int .i64 (i + 1)] W fun e W' => e = .returned (.slice (some ⟨g, 0, none⟩) m cap) ∧ W'.ownsRow B 54 21 (.slice (some ⟨g, 0, none⟩) m cap) m (cons (l.eraseIdx i)) ∧ Turns (fun q => q = g) W W' := by
  have hcap := own_le h
  have e0 : ((i : Int) == (i : Int) + 1) = false := by simp; omega
  obtain ⟨i0, hi0⟩ : ∃ i0, Try.prog.info? 54 = some i0 := by
    cases hh : Try.prog.info? 54 with
    | none => have := info54; rw [hh] at this; cases this
    | some x => exact ⟨x, rfl⟩
  have hi1 : i0.size = 21 := by have := info54; rw [hi0] at this; injection this
  obtain ⟨w1, hr1, ow1, T1⟩ := row_shift (P := Try.prog) W.drew 48 48 54 i0 21 Try.underlying48 hi0 hi1 B g (m + 1) cap i (cons l) h (by omega) (cons_one hok) (cap - (i + 1))
  rw [Nat.add_sub_cancel, cons_erase hok i (by omega)] at ow1
  obtain ⟨w2, hr2, ow2, T2⟩ := row_clear (P := Try.prog) w1 48 0 54 21 _ Try.underlying48 (zero54 w1) (by decide) (by decide) B g m cap (cons (l.eraseIdx i)) ow1 (by omega) (cap - m)
  replace T1 : Turns (fun q => q = g) W w1 := ⟨T1.os, T1.tape, T1.output, T1.size, T1.block⟩
  have HF := Lib.hid (show W.heap.size = W.heap.size ∧ w2.ownsRow B 54 21 (.slice (some ⟨g, 0, none⟩) m cap) m (cons (l.eraseIdx i)) ∧ Turns (fun q => q = g) W w2 from ⟨rfl, ow2, T1.trans T2⟩)
  have HR2 := Lib.hid hr2
  rw [Nat.add_sub_cancel] at hr1
  have HR1 := Lib.hid hr1
  clear hr1 hr2 ow1 ow2 T1 T2 h hn hok
  have hmc : m < cap := by omega
  go_enter Try.func41, Try.ntmps41
  go_wp2
  have hr1 := HR1.out
  clear HR1
  refine start_ (n := 8) (S := fun _ => True) (ds := [6]) #[false, false, false, false, false, false, false, false] (by kernel_rfl) rfl rfl (trivial) (fun hHeld => ?_)
  generalize W.drew = W2 at *
  refine pure_ (i := 0) (N := some 20) (v := ?_) (a' := ?_) #[true, false, false, false, false, false, false, false] rfl rfl (by kernel_rfl) (fun _ _ _ h => h) (Or.inl ⟨by rfl, ?_⟩) ?_ ?_
  rotate_left
  · intro w'
    go_simp
    with_reducible rfl
  rotate_left
  · simp only [Act.put, List.setIfInBounds_toArray, List.set_cons_zero, List.set_cons_succ]
    rfl
  refine pure_ (i := 1) (N := some 21) (v := ?_) (a' := ?_) #[true, true, false, false, false, false, false, false] rfl rfl (by kernel_rfl) (fun _ _ _ h => h) (Or.inl ⟨by rfl, ?_⟩) ?_ ?_
  rotate_left
  · intro w'
    go_simp
    with_reducible rfl
  rotate_left
  · simp only [Act.put, List.setIfInBounds_toArray, List.set_cons_zero, List.set_cons_succ]
    rfl
  refine pure_ (i := 2) (N := some 22) (v := .slice (some ⟨g, 0, none⟩) i cap) (a' := ?_) #[true, true, true, false, false, false, false, false] rfl rfl (by kernel_rfl) (fun _ _ _ h => h) (Or.inl ⟨by rfl, ?_⟩) ?_ ?_
  · intro w'
    exact exec_cut_hi w' 48 54 (.tmp 20) (.tmp 21) rfl 21 Try.underlying48 info54 _ (m + 1) cap i rfl rfl (by omega)
  rotate_left
  · simp only [Act.put, List.setIfInBounds_toArray, List.set_cons_zero, List.set_cons_succ]
    rfl
  refine pure_ (i := 3) (N := some 23) (v := ?_) (a' := ?_) #[true, true, true, true, false, false, false, false] rfl rfl (by kernel_rfl) (fun _ _ _ h => h) (Or.inl ⟨by rfl, ?_⟩) ?_ ?_
  rotate_left
  · intro w'
    go_simp
    with_reducible rfl
  rotate_left
  · simp only [Act.put, List.setIfInBounds_toArray, List.set_cons_zero, List.set_cons_succ]
    rfl
  refine pure_ (i := 4) (N := some 24) (v := ?_) (a' := ?_) #[true, true, true, true, true, false, false, false] rfl rfl (by kernel_rfl) (fun _ _ _ h => h) (Or.inl ⟨by rfl, ?_⟩) ?_ ?_
  rotate_left
  · intro w'
    go_simp
    with_reducible rfl
  rotate_left
  · simp only [Act.put, List.setIfInBounds_toArray, List.set_cons_zero, List.set_cons_succ]
    rfl
  refine pure_ (i := 5) (N := some 25) (v := .slice (cutAt (some ⟨g, 0, none⟩) cap (i + 1) 21) (m + 1 - (i + 1)) (cap - (i + 1))) (a' := ?_) #[true, true, true, true, true, true, false, false] rfl rfl (by kernel_rfl) (fun _ _ _ h => h) (Or.inl ⟨by rfl, ?_⟩) ?_ ?_
  · intro w'
    exact exec_cut_lo w' 48 54 (.tmp 23) (.tmp 24) rfl 21 Try.underlying48 info54 _ (m + 1) cap (i + 1) rfl rfl (by omega)
  rotate_left
  · simp only [Act.put, List.setIfInBounds_toArray, List.set_cons_zero, List.set_cons_succ]
    rfl
  refine last_ (i := 6) (N := some 26) #[true, true, true, true, true, true, true, false] rfl rfl (by kernel_rfl) (by decide) (fun K hK => ?_)
  refine value_ (by rfl) rfl (exec_append _ (.tmp 22) (.tmp 25) 48 rfl rfl rfl hr1) ?_
  refine hK.out _ _ ?_
  clear hK K
  refine norm_ (a' := ?_) ?_ ?_
  rotate_left
  · (try unfold Act.put); simp only [Act.put, List.setIfInBounds_toArray, List.set_cons_zero, List.set_cons_succ]
    rfl
  refine pure_ (i := 7) (N := some 0) (v := ?_) (a' := ?_) #[true, true, true, true, true, true, true, true] rfl rfl (by kernel_rfl) (fun _ _ _ h => h) (Or.inl ⟨by rfl, ?_⟩) ?_ ?_
  rotate_left
  · intro w'
    go_simp
    with_reducible rfl
  rotate_left
  · simp only [Act.put, List.setIfInBounds_toArray, List.set_cons_zero, List.set_cons_succ]
    rfl
  refine done_ (by kernel_rfl) ?_
  clear hr1
  go_wp2_with (first | (refine wpList_cut_both rfl 48 54 (.tmp 27) (.tmp 29) (.tmp 30) rfl 21 Try.underlying48 info54 (some ⟨g, 0, none⟩) m cap m (m + 1) rfl rfl rfl (by omega) (by omega) ?_; rw [Nat.add_sub_cancel_left]) | (refine wpList_exec _ rfl (exec_clear _ (.tmp 31) 48 rfl rfl HR2.out) ?_))
  go_ret
  exact ⟨rfl, HF.out.2⟩
end Go.Proofs.Ytddchhoplomjgaa

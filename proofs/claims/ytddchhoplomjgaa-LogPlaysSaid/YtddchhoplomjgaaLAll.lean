/- log's All, Len and num. -/
import Derived.Test.YtddchhoplomjgaaLRows
import Derived.Deep.LoopGhost
namespace Go.Proofs.Ytddchhoplomjgaa
open Go.RowKit Go.Proofs.YtddchhoplomjgaaW.PrintLast
set_option linter.unusedVariables false
set_option linter.unusedSimpArgs false
theorem llen_any (W : World) (p : Nat) (ad : Option Addr) (cap : Nat) (b : List Int) (sure : Int) (h : LO W p ad cap b sure) :
    Calls Try.prog 19 #[.pointer (some ⟨p, 0, none⟩)] W fun e W' => e = .returned (.int .i64 b.length) ∧ W = W' := by
  have c0 := cell_of_blk (i := 0) h.blk
  simp at c0
  clear h
  go_enter Try.func19, Try.ntmps19
  go_wp2
  go_ret
  exact ⟨rfl, rfl⟩
theorem num_any (W : World) (n : Int) : Calls Try.prog 18 #[.int .i64 n] W fun e W' => e = .returned (.int .i64 n) ∧ W = W' := by
  go_enter Try.func18, Try.ntmps18
  go_wp2
  go_ret
  exact ⟨rfl, rfl⟩
def AllPost (W : World) (b : List Int) (e : Ending) (W' : World) : Prop := ∃ v, e = .returned v ∧ RowsAt W' W.heap.size v (allP b) ∧ Below W.heap.size W W'
theorem size5 : (Try.prog.info? 5).map (·.size) = some 1 := by kernel_rfl
theorem size38 : (Try.prog.info? 38).map (·.size) = some 1 := by kernel_rfl
set_option maxHeartbeats 1000000 in
theorem all_any (W : World) (p : Nat) (ad : Option Addr) (cap : Nat) (b : List Int) (sure : Int) (h : LO W p ad cap b sure) (hl : b.length ≤ 1000000000) :
    Calls Try.prog 20 #[.pointer (some ⟨p, 0, none⟩)] W (AllPost W b) := by
  have c0 := cell_of_blk (i := 0) h.blk
  simp at c0
  have hlt0 := lt_of_block h.blk
  have hcap := own_cap h.own
  have HB := Lib.hid h
  clear h
  obtain ⟨i0, hi, hz0, hz1, hz2⟩ := info_parts info38
  go_enter Try.func20, Try.ntmps20
  go_wp2
  go_loopw [3, 4] (fun o i wr => ∃ n : Nat, n ≤ b.length ∧ i = .int .i64 n ∧ ∃ rows, rows ++ allP (b.drop n) = allP b ∧ rows.length ≤ n ∧ RowsAt wr W.heap.size o rows ∧ Below W.heap.size W wr) (fun _ i _ => b.length - (intOf i).toNat)
  case atStart => exact ⟨0, Nat.zero_le _, rfl, [], rfl, Nat.le_refl _, RowsAt.nil _ _, Below.refl _ _⟩
  case round =>
    obtain ⟨n, hn, rfl, rows, hrows, hrn, hra, hbel⟩ := hrel
    obtain ⟨ado, capo, rfl⟩ := hra.shape
    have cc := hbel.cell (p := ⟨p, 0, none⟩) hlt0
    rw [c0] at cc
    have hrd : Reads wr (cutAt ad cap n 1) (bv (b.drop n)) := by
      have h1 := (Reads.of_own HB.out.own).below hbel
      have h2 := h1.cut cap n 1 (fun e => by rw [bv_length]; omega)
      rw [Nat.mul_one] at h2
      simpa [bv] using h2
    have HN := Lib.hid (next_any wr (cutAt ad cap n 1) (cap - n) (b.drop n) hrd (HB.out.bytes.drop n) (by rw [List.length_drop]; omega) (by rw [List.length_drop]; omega))
    have HRows := Lib.hid hrows
    have HRA := Lib.hid hra
    have HBel := Lib.hid hbel
    clear hrd hrows hra hbel
    rcases hnx : nextP (b.drop n) with _ | ⟨ys, k⟩
    · have HX := Lib.hid hnx
      clear hnx
      go_wp2_with (refine wpList_cut_lo rfl 38 5 (.tmp 14) (.tmp 15) rfl 1 Try.underlying38 size5 ad b.length cap n rfl rfl hn ?_)
      go_wp2_with fail
      have HN2 := HN.out
      rw [List.length_drop] at HN2
      refine HN2.mono ?_
      rintro e w1 ⟨hb1, he⟩
      rw [HX.out] at he
      dsimp only at he
      subst he
      have HF : Hid (RowsAt w1 W.heap.size (.slice ado rows.length capo) (allP b) ∧ Below W.heap.size W w1) := by
        have e1 : rows = allP b := by have := HRows.out; rw [allP_none HX.out, List.append_nil] at this; exact this
        rw [← e1]
        exact ⟨HRA.out.keep (Turns.of_below hb1 (fun _ => False)) (fun _ _ h => h), HBel.out.trans (hb1.mono HBel.out.size)⟩
      clear hb1 HN2 cc c0
      go_wp2
      go_ret
      exact ⟨_, rfl, HF.out.1, HF.out.2⟩
    · have HX := Lib.hid hnx
      have hk := nextP_some hnx
      rw [List.length_drop] at hk
      have hk1 := hk.1
      have hk2 := hk.2.1
      clear hnx hk
      go_wp2_with (refine wpList_cut_lo rfl 38 5 (.tmp 14) (.tmp 15) rfl 1 Try.underlying38 size5 ad b.length cap n rfl rfl hn ?_)
      go_wp2_with fail
      have HN2 := HN.out
      rw [List.length_drop] at HN2
      refine HN2.mono ?_
      rintro e w1 ⟨hb1, he⟩
      rw [HX.out] at he
      obtain ⟨ady, capy, rfl, hoy⟩ := he
      have R1 := HRA.out.keep (Turns.of_below hb1 (fun _ => False)) (fun _ _ h => h)
      have T1 := (Turns.refl (fun _ => False) w1).alloc (.cells #[.slice ady ys.length capy] 38)
      have R2 := Lib.hid (R1.keep T1 (fun _ _ h => h))
      have hoy2 := Lib.hid (T1.own hoy (fun _ _ h => h))
      have s1 := hb1.size
      have s2 := HBel.out.size
      have B2 := Lib.hid ((HBel.out.trans (hb1.mono s2)).alloc (Nat.le_trans s2 s1) (.cells #[.slice ady ys.length capy] 38))
      obtain ⟨cs, hcs, hcs2⟩ := R2.out.cells
      have HCS2 := Lib.hid hcs2
      clear hb1 HN2 cc R1 T1 hcs2 hoy
      go_wp2_with (at_builtin; refine wpList_row_append _ rfl (.tmp 24) (.tmp 26) 44 rfl W.heap.size (by simp; omega) 38 i0 _ 1 24 Try.underlying44 hi hz0 hz1 hz2 rfl (by decide) (.slice ado rows.length capo) rows.length cs rfl hcs ⟨w1.heap.size, 0, none⟩ 1 1 [.slice ady ys.length capy] rfl rfl (fun j u hu => by rw [Addr.add_lit, Nat.zero_add, World.cell?_alloc_new, List.getElem?_toArray]; exact hu) (by simp [Value.oneCell']) (by omega) (by decide) (fun v' w2 ow' hg' hf' => ?_))
      refine ⟨⟨n + k, by omega, by go_num, rows ++ [ys], ?_, by rw [List.length_append]; simp; omega, RowsAt.snoc cs hcs HCS2.out (own_low hoy2.out s2) ow' hg', ?_⟩, by simp [intOf]; omega⟩
      · rw [List.append_assoc, List.singleton_append, ← List.drop_drop, ← allP_some HX.out]; exact HRows.out
      · have T5 := hg'.below (B := W.heap.size) (by simp; omega) (fun q hq hF => by have := (hcs.lt q hF).1; omega)
        exact B2.out.trans T5
end Go.Proofs.Ytddchhoplomjgaa

/- split's walk, with Take's closure and with Late's. -/
import Derived.Test.YtddchhoplomjgaaSplit
namespace Go.Proofs.Ytddchhoplomjgaa
open Go.RowKit Go.Proofs.YtddchhoplomjgaaW.PrintLast
set_option linter.unusedVariables false
set_option linter.unusedSimpArgs false
theorem split_fin {W wr : World} {p : Nat} {ad : Option Addr} {cap : Nat} {l : List CallR} {last : Int} {is : CallR → Bool} {ad1 ad2 : Option Addr} {cap1 cap2 : Nat}
    (h : SR W wr l is l.length (.slice ad1 ((l.take l.length).filter is).length cap1) (.slice ad2 ((l.take l.length).filter (fun x => !is x)).length cap2)) (hc : CO W p ad cap l last)
    (hb : wr.heap[p]? = some (.cells #[.slice ad l.length cap, .int .i64 last] 27 (0, 0))) :
    SplitPost W p is l last (.returned (.slice ad1 (l.filter is).length cap1)) (wr.setCell ⟨p, 0, none⟩ (.slice ad2 (l.filter (fun x => !is x)).length cap2)) := by
  obtain ⟨h1, h2, h3, h4⟩ := h
  rw [List.take_length] at h2 h3 h4
  have n1 := own_ne h2 hb (by decide)
  have n2 := own_ne h3 hb (by decide)
  refine ⟨ad1, cap1, ad2, cap2, rfl, ownsRow_setCell_other h2 n1 _, ⟨?_, ?_⟩, fun k hk => (h3.lt k hk).1, Turns.setCell (F := fun k => k = p) (p := ⟨p, 0, none⟩) (Turns.of_below h1 _) (.inr rfl) _⟩
  · have := blk_setCell hb 0 (.slice ad2 (l.filter (fun x => !is x)).length cap2)
    simpa using this
  · have := ownsRow_setCell_other h3 n2 (a := ⟨p, 0, none⟩) (.slice ad2 (l.filter (fun x => !is x)).length cap2)
    refine ⟨this.1, ?_⟩
    rcases this.2 with hh | ⟨g, c, cur, q1, q2, q3⟩
    · exact .inl hh
    · exact .inr ⟨g, c, cur, q1, Nat.zero_le _, q3⟩
set_option maxHeartbeats 1000000 in
theorem split36_any (W : World) (p : Nat) (ad : Option Addr) (cap : Nat) (l : List CallR) (last : Int) (b1 b2 : Nat) (tag peer : Int) (h : CO W p ad cap l last) (hl : l.length ≤ 1000000)
    (h1 : W.cell? ⟨b1, 0, none⟩ = some (.int .i64 tag)) (h2 : W.cell? ⟨b2, 0, none⟩ = some (.int .i64 peer)) :
    Calls Try.prog 35 #[.pointer (some ⟨p, 0, none⟩), .func (.func 36) #[] #[.pointer (some ⟨b1, 0, none⟩), .pointer (some ⟨b2, 0, none⟩)]] W (SplitPost W p (isTake tag peer) l last) := by
  have c0 := cell_of_blk (i := 0) h.blk
  have f0 := free_of_blk (i := 0) h.blk
  simp at c0
  have HB := Lib.hid h
  have hlt0 := lt_of_block h.blk
  clear h
  obtain ⟨i0, hi, hz0, hz1, hz2⟩ := info_parts info30
  go_enter Try.func35, Try.ntmps35
  go_wp2
  go_loopw [5, 6, 16] (fun o f i wr => ∃ k : Nat, k ≤ l.length ∧ i = .int .i64 k ∧ SR W wr l (isTake tag peer) k o f) (fun _ _ i _ => l.length - (intOf i).toNat)
  case atStart => exact ⟨0, Nat.zero_le _, rfl, Below.refl _ _, World.ownsRow_nil _ _ _ _, World.ownsRow_nil _ _ _ _, fun k h => by simp [Value.ownBlock] at h⟩
  case round =>
    obtain ⟨k, hk, rfl, hr⟩ := hrel
    by_cases hlt : k < l.length
    · obtain ⟨g, rfl, _⟩ := own_some HB.out.own (fun e => by injection e with _ e2 _; omega)
      have hgl : g < W.heap.size := own_lt HB.out.own rfl
      have hx : ∀ j, j < 4 → wr.cell? ⟨g, k * 4 + j, none⟩ = l[k].cells[j]? := fun j hj => by
        rw [hr.bel.cell hgl]
        exact HB.out.get k j hlt hj
      have hlx : ∃ x, l[k] = x := ⟨_, rfl⟩
      obtain ⟨⟨xt, xo, xp, xu⟩, hxx⟩ := hlx
      rw [hxx] at hx
      have x0 := hx 0 (by omega)
      have x1 := hx 1 (by omega)
      have x2 := hx 2 (by omega)
      have x3 := hx 3 (by omega)
      simp [CallR.cells] at x0 x1 x2 x3
      have HX := Lib.hid hxx
      have HR := Lib.hid hr
      have hws := hr.bel.size
      clear hx hxx hr
      have hlen : ((l.take k).filter (isTake tag peer)).length ≤ 1000000 := Nat.le_trans (List.length_filter_le _ _) (by rw [List.length_take]; omega)
      have hlen2 : ((l.take k).filter (fun x => !isTake tag peer x)).length ≤ 1000000 := Nat.le_trans (List.length_filter_le _ _) (by rw [List.length_take]; omega)
      rcases Bool.eq_false_or_eq_true (isTake tag peer ⟨xt, xo, xp, xu⟩) with hb | hb
      · have HBo := Lib.hid hb
        clear hb
        go_wp2_with fail
        refine (take1_at _ b1 b2 tag peer xt xo xp xu _ HBo.out ?_ ?_).mono ?_
        · rw [World.cell?_alloc_some _ _ _ (by rw [HR.out.bel.cell (World.block_lt_of_cell? _ _ h1), h1]; rfl), HR.out.bel.cell (World.block_lt_of_cell? _ _ h1)]; exact h1
        · rw [World.cell?_alloc_some _ _ _ (by rw [HR.out.bel.cell (World.block_lt_of_cell? _ _ h2), h2]; rfl), HR.out.bel.cell (World.block_lt_of_cell? _ _ h2)]; exact h2
        rintro e w1 ⟨rfl, hw1⟩
        have y0 := hw1.cell (p := ⟨wr.heap.size, 0, none⟩) (by simp)
        have y1 := hw1.cell (p := ⟨wr.heap.size, 1, none⟩) (by simp)
        have y2 := hw1.cell (p := ⟨wr.heap.size, 2, none⟩) (by simp)
        have y3 := hw1.cell (p := ⟨wr.heap.size, 3, none⟩) (by simp)
        simp at y0 y1 y2 y3
        have T1 : Turns (fun _ => False) wr w1 := ((Turns.refl _ wr).alloc _).trans ((Turns.of_below hw1 _))
        have T2 := T1.alloc (.cells #[.int .i64 xt, .int .i64 xo, .int .i64 xp, .int .i64 xu] 30)
        have ow := T2.own HR.out.own1 (fun _ _ h => h)
        clear hw1
        go_wp2_with (at_builtin; refine wpList_row_append _ rfl (.tmp 23) (.tmp 25) 25 rfl W.heap.size (by have := T2.size; omega) 30 i0 _ 4 32 Try.underlying25 hi hz0 hz1 hz2 rfl (by decide) _ _ _ rfl ow ⟨w1.heap.size, 0, none⟩ 1 1 [.int .i64 xt, .int .i64 xo, .int .i64 xp, .int .i64 xu] rfl rfl (fun j u hu => by rw [Addr.add_lit, Nat.zero_add, World.cell?_alloc_new, List.getElem?_toArray]; exact hu) (by simp [Value.oneCell']) (by omega) (by decide) (fun v' w2 ow' hg' hf' => ?_))
        have R := SR.take1 HR.out hlt (by rw [HX.out]; exact HBo.out) T2 (by rw [HX.out]; exact ow') hg' hf'
        clear ow' hg' hf' ow T2 T1 y0 y1 y2 y3 x0 x1 x2 x3
        go_wp2
        go_roundw
        case rel => exact ⟨k + 1, by omega, by go_num, R⟩
        case measure => simp [intOf]; omega
      · have HBo := Lib.hid hb
        clear hb
        go_wp2_with fail
        refine (take1_at _ b1 b2 tag peer xt xo xp xu _ HBo.out ?_ ?_).mono ?_
        · rw [World.cell?_alloc_some _ _ _ (by rw [HR.out.bel.cell (World.block_lt_of_cell? _ _ h1), h1]; rfl), HR.out.bel.cell (World.block_lt_of_cell? _ _ h1)]; exact h1
        · rw [World.cell?_alloc_some _ _ _ (by rw [HR.out.bel.cell (World.block_lt_of_cell? _ _ h2), h2]; rfl), HR.out.bel.cell (World.block_lt_of_cell? _ _ h2)]; exact h2
        rintro e w1 ⟨rfl, hw1⟩
        have y0 := hw1.cell (p := ⟨wr.heap.size, 0, none⟩) (by simp)
        have y1 := hw1.cell (p := ⟨wr.heap.size, 1, none⟩) (by simp)
        have y2 := hw1.cell (p := ⟨wr.heap.size, 2, none⟩) (by simp)
        have y3 := hw1.cell (p := ⟨wr.heap.size, 3, none⟩) (by simp)
        simp at y0 y1 y2 y3
        have T1 : Turns (fun _ => False) wr w1 := ((Turns.refl _ wr).alloc _).trans ((Turns.of_below hw1 _))
        have T2 := T1.alloc (.cells #[.int .i64 xt, .int .i64 xo, .int .i64 xp, .int .i64 xu] 30)
        have ow := T2.own HR.out.own2 (fun _ _ h => h)
        clear hw1
        go_wp2_with (at_builtin; refine wpList_row_append _ rfl (.tmp 27) (.tmp 29) 25 rfl W.heap.size (by have := T2.size; omega) 30 i0 _ 4 32 Try.underlying25 hi hz0 hz1 hz2 rfl (by decide) _ _ _ rfl ow ⟨w1.heap.size, 0, none⟩ 1 1 [.int .i64 xt, .int .i64 xo, .int .i64 xp, .int .i64 xu] rfl rfl (fun j u hu => by rw [Addr.add_lit, Nat.zero_add, World.cell?_alloc_new, List.getElem?_toArray]; exact hu) (by simp [Value.oneCell']) (by omega) (by decide) (fun v' w2 ow' hg' hf' => ?_))
        have R := SR.take2 HR.out hlt (by rw [HX.out]; exact HBo.out) T2 (by rw [HX.out]; exact ow') hg' hf'
        clear ow' hg' hf' ow T2 T1 y0 y1 y2 y3 x0 x1 x2 x3
        go_wp2
        go_roundw
        case rel => exact ⟨k + 1, by omega, by go_num, R⟩
        case measure => simp [intOf]; omega
    · have hkl : k = l.length := by omega
      subst hkl
      obtain ⟨ad1, cap1, rfl⟩ := slice_of_own hr.own1
      obtain ⟨ad2, cap2, rfl⟩ := slice_of_own hr.own2
      have cc := hr.bel.cell (p := ⟨p, 0, none⟩) hlt0
      have ff := hr.bel.frozen (p := ⟨p, 0, none⟩) hlt0
      rw [c0] at cc
      rw [f0] at ff
      have bb := (hr.bel.block p hlt0).trans HB.out.blk
      have hfin := split_fin hr HB.out bb
      clear c0 f0 bb hr
      have HF := Lib.hid hfin
      clear hfin
      rw [List.take_length] at *
      go_wp2
      go_ret
      exact HF.out
set_option maxHeartbeats 1000000 in
theorem split38_any (W : World) (p : Nat) (ad : Option Addr) (cap : Nat) (l : List CallR) (last : Int) (b1 : Nat) (now : Int) (h : CO W p ad cap l last) (hl : l.length ≤ 1000000)
    (h1 : W.cell? ⟨b1, 0, none⟩ = some (.int .i64 now)) :
    Calls Try.prog 35 #[.pointer (some ⟨p, 0, none⟩), .func (.func 38) #[] #[.pointer (some ⟨b1, 0, none⟩)]] W (SplitPost W p (isLate now) l last) := by
  have c0 := cell_of_blk (i := 0) h.blk
  have f0 := free_of_blk (i := 0) h.blk
  simp at c0
  have HB := Lib.hid h
  have hlt0 := lt_of_block h.blk
  clear h
  obtain ⟨i0, hi, hz0, hz1, hz2⟩ := info_parts info30
  go_enter Try.func35, Try.ntmps35
  go_wp2
  go_loopw [5, 6, 16] (fun o f i wr => ∃ k : Nat, k ≤ l.length ∧ i = .int .i64 k ∧ SR W wr l (isLate now) k o f) (fun _ _ i _ => l.length - (intOf i).toNat)
  case atStart => exact ⟨0, Nat.zero_le _, rfl, Below.refl _ _, World.ownsRow_nil _ _ _ _, World.ownsRow_nil _ _ _ _, fun k h => by simp [Value.ownBlock] at h⟩
  case round =>
    obtain ⟨k, hk, rfl, hr⟩ := hrel
    by_cases hlt : k < l.length
    · obtain ⟨g, rfl, _⟩ := own_some HB.out.own (fun e => by injection e with _ e2 _; omega)
      have hgl : g < W.heap.size := own_lt HB.out.own rfl
      have hx : ∀ j, j < 4 → wr.cell? ⟨g, k * 4 + j, none⟩ = l[k].cells[j]? := fun j hj => by
        rw [hr.bel.cell hgl]
        exact HB.out.get k j hlt hj
      have hlx : ∃ x, l[k] = x := ⟨_, rfl⟩
      obtain ⟨⟨xt, xo, xp, xu⟩, hxx⟩ := hlx
      rw [hxx] at hx
      have x0 := hx 0 (by omega)
      have x1 := hx 1 (by omega)
      have x2 := hx 2 (by omega)
      have x3 := hx 3 (by omega)
      simp [CallR.cells] at x0 x1 x2 x3
      have HX := Lib.hid hxx
      have HR := Lib.hid hr
      have hws := hr.bel.size
      clear hx hxx hr
      have hlen : ((l.take k).filter (isLate now)).length ≤ 1000000 := Nat.le_trans (List.length_filter_le _ _) (by rw [List.length_take]; omega)
      have hlen2 : ((l.take k).filter (fun x => !isLate now x)).length ≤ 1000000 := Nat.le_trans (List.length_filter_le _ _) (by rw [List.length_take]; omega)
      rcases Bool.eq_false_or_eq_true (isLate now ⟨xt, xo, xp, xu⟩) with hb | hb
      · have HBo := Lib.hid hb
        clear hb
        go_wp2_with fail
        refine (late1_at _ b1 now xt xo xp xu _ HBo.out ?_).mono ?_
        · rw [World.cell?_alloc_some _ _ _ (by rw [HR.out.bel.cell (World.block_lt_of_cell? _ _ h1), h1]; rfl), HR.out.bel.cell (World.block_lt_of_cell? _ _ h1)]; exact h1
        rintro e w1 ⟨rfl, hw1⟩
        have y0 := hw1.cell (p := ⟨wr.heap.size, 0, none⟩) (by simp)
        have y1 := hw1.cell (p := ⟨wr.heap.size, 1, none⟩) (by simp)
        have y2 := hw1.cell (p := ⟨wr.heap.size, 2, none⟩) (by simp)
        have y3 := hw1.cell (p := ⟨wr.heap.size, 3, none⟩) (by simp)
        simp at y0 y1 y2 y3
        have T1 : Turns (fun _ => False) wr w1 := ((Turns.refl _ wr).alloc _).trans ((Turns.of_below hw1 _))
        have T2 := T1.alloc (.cells #[.int .i64 xt, .int .i64 xo, .int .i64 xp, .int .i64 xu] 30)
        have ow := T2.own HR.out.own1 (fun _ _ h => h)
        clear hw1
        go_wp2_with (at_builtin; refine wpList_row_append _ rfl (.tmp 23) (.tmp 25) 25 rfl W.heap.size (by have := T2.size; omega) 30 i0 _ 4 32 Try.underlying25 hi hz0 hz1 hz2 rfl (by decide) _ _ _ rfl ow ⟨w1.heap.size, 0, none⟩ 1 1 [.int .i64 xt, .int .i64 xo, .int .i64 xp, .int .i64 xu] rfl rfl (fun j u hu => by rw [Addr.add_lit, Nat.zero_add, World.cell?_alloc_new, List.getElem?_toArray]; exact hu) (by simp [Value.oneCell']) (by omega) (by decide) (fun v' w2 ow' hg' hf' => ?_))
        have R := SR.take1 HR.out hlt (by rw [HX.out]; exact HBo.out) T2 (by rw [HX.out]; exact ow') hg' hf'
        clear ow' hg' hf' ow T2 T1 y0 y1 y2 y3 x0 x1 x2 x3
        go_wp2
        go_roundw
        case rel => exact ⟨k + 1, by omega, by go_num, R⟩
        case measure => simp [intOf]; omega
      · have HBo := Lib.hid hb
        clear hb
        go_wp2_with fail
        refine (late1_at _ b1 now xt xo xp xu _ HBo.out ?_).mono ?_
        · rw [World.cell?_alloc_some _ _ _ (by rw [HR.out.bel.cell (World.block_lt_of_cell? _ _ h1), h1]; rfl), HR.out.bel.cell (World.block_lt_of_cell? _ _ h1)]; exact h1
        rintro e w1 ⟨rfl, hw1⟩
        have y0 := hw1.cell (p := ⟨wr.heap.size, 0, none⟩) (by simp)
        have y1 := hw1.cell (p := ⟨wr.heap.size, 1, none⟩) (by simp)
        have y2 := hw1.cell (p := ⟨wr.heap.size, 2, none⟩) (by simp)
        have y3 := hw1.cell (p := ⟨wr.heap.size, 3, none⟩) (by simp)
        simp at y0 y1 y2 y3
        have T1 : Turns (fun _ => False) wr w1 := ((Turns.refl _ wr).alloc _).trans ((Turns.of_below hw1 _))
        have T2 := T1.alloc (.cells #[.int .i64 xt, .int .i64 xo, .int .i64 xp, .int .i64 xu] 30)
        have ow := T2.own HR.out.own2 (fun _ _ h => h)
        clear hw1
        go_wp2_with (at_builtin; refine wpList_row_append _ rfl (.tmp 27) (.tmp 29) 25 rfl W.heap.size (by have := T2.size; omega) 30 i0 _ 4 32 Try.underlying25 hi hz0 hz1 hz2 rfl (by decide) _ _ _ rfl ow ⟨w1.heap.size, 0, none⟩ 1 1 [.int .i64 xt, .int .i64 xo, .int .i64 xp, .int .i64 xu] rfl rfl (fun j u hu => by rw [Addr.add_lit, Nat.zero_add, World.cell?_alloc_new, List.getElem?_toArray]; exact hu) (by simp [Value.oneCell']) (by omega) (by decide) (fun v' w2 ow' hg' hf' => ?_))
        have R := SR.take2 HR.out hlt (by rw [HX.out]; exact HBo.out) T2 (by rw [HX.out]; exact ow') hg' hf'
        clear ow' hg' hf' ow T2 T1 y0 y1 y2 y3 x0 x1 x2 x3
        go_wp2
        go_roundw
        case rel => exact ⟨k + 1, by omega, by go_num, R⟩
        case measure => simp [intOf]; omega
    · have hkl : k = l.length := by omega
      subst hkl
      obtain ⟨ad1, cap1, rfl⟩ := slice_of_own hr.own1
      obtain ⟨ad2, cap2, rfl⟩ := slice_of_own hr.own2
      have cc := hr.bel.cell (p := ⟨p, 0, none⟩) hlt0
      have ff := hr.bel.frozen (p := ⟨p, 0, none⟩) hlt0
      rw [c0] at cc
      rw [f0] at ff
      have bb := (hr.bel.block p hlt0).trans HB.out.blk
      have hfin := split_fin hr HB.out bb
      clear c0 f0 bb hr
      have HF := Lib.hid hfin
      clear hfin
      rw [List.take_length] at *
      go_wp2
      go_ret
      exact HF.out
end Go.Proofs.Ytddchhoplomjgaa

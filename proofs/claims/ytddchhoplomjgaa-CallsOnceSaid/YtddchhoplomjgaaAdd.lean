/- Add's walk. -/
import Derived.Test.YtddchhoplomjgaaObj
import Derived.Test.YtddchhoplomjgaaWLast
import Derived.Outline
import Derived.IntWalk
namespace Go.Proofs.Ytddchhoplomjgaa
open Go.RowKit Go.Proofs.YtddchhoplomjgaaW.PrintLast
set_option linter.unusedVariables false
set_option linter.unusedSimpArgs false
/-- a call that waits -/
structure CallR where
  tag : Int
  op : Int
  peer : Int
  til : Int
def CallR.cells (c : CallR) : List Value := [.int .i64 c.tag, .int .i64 c.op, .int .i64 c.peer, .int .i64 c.til]
/-- the calls that wait, as they lie in the world -/
structure CO (W : World) (p : Nat) (ad : Option Addr) (cap : Nat) (l : List CallR) (last : Int) : Prop where
  blk : W.heap[p]? = some (.cells #[.slice ad l.length cap, .int .i64 last] 27 (0, 0))
  own : W.ownsRow 0 30 4 (.slice ad l.length cap) l.length (l.flatMap CallR.cells)
def capT (now : Int) : Int := if 1099511627776 < now then 1099511627776 else now
theorem capT_le (now : Int) : capT now ≤ 1099511627776 := by unfold capT; split <;> omega
theorem capT_ge (now : Int) (h : -1099511627776 ≤ now) : -1099511627776 ≤ capT now := by unfold capT; split <;> omega
theorem info30 : (Try.prog.info? 30).map (fun i => (i.zero, i.size, i.bytes)) = some (some (.agg #[.int .i64 0, .int .i64 0, .int .i64 0, .int .i64 0]), 4, 32) := by kernel_rfl
/-- what a call of a method that changes the calls leaves: r the answer -/
def COPost (W : World) (p : Nat) (v : Value) (r : Value) (l : List CallR) (last : Int) (e : Ending) (W' : World) : Prop :=
  e = .returned r ∧ ∃ ad' cap', CO W' p ad' cap' l last ∧ Turns (fun k => k = p ∨ v.ownBlock = some k) W W' ∧ Fresh W v (.slice ad' l.length cap')
set_option maxHeartbeats 1000000 in
theorem add_any (W : World) (p : Nat) (ad : Option Addr) (cap : Nat) (l : List CallR) (last op peer now : Int) (h : CO W p ad cap l last) (hl : l.length ≤ 1000000) (h0 : 0 ≤ last) (h1 : last ≤ 1000000) (hn : -1099511627776 ≤ now) :
    Calls Try.prog 12 #[.pointer (some ⟨p, 0, none⟩), .int .i64 op, .int .i64 peer, .int .i64 now] W
      (COPost W p (.slice ad l.length cap) (.int .i64 (last + 1)) (l ++ [⟨last + 1, op, peer, capT now + 6⟩]) (last + 1)) := by
  have c0 := cell_of_blk (i := 0) h.blk
  have c1 := cell_of_blk (i := 1) h.blk
  have f0 := free_of_blk (i := 0) h.blk
  have f1 := free_of_blk (i := 1) h.blk
  have t0 := capT_le now
  have t1 := capT_ge now hn
  simp at c0 c1
  go_enter Try.func12, Try.ntmps12
  go_wp2
  have e0 : (W.setCell ⟨p, 1, none⟩ (.int .i64 (last + 1))).cell? ⟨p, 0, none⟩ = some (.slice ad l.length cap) := by rw [World.cell?_setCell_other _ _ _ _ (by simp)]; exact c0
  have e1 : (W.setCell ⟨p, 1, none⟩ (.int .i64 (last + 1))).cell? ⟨p, 1, none⟩ = some (.int .i64 (last + 1)) := World.cell?_setCell_same _ _ _ c1
  have b1 := blk_setCell h.blk 1 (.int .i64 (last + 1))
  simp at b1
  have hne0 := own_ne h.own h.blk (by decide)
  have hne : ¬ (Value.slice ad l.length cap).ownBlock = some p := hne0
  have ow : (W.setCell ⟨p, 1, none⟩ (.int .i64 (last + 1))).ownsRow 0 30 4 (.slice ad l.length cap) l.length (l.flatMap CallR.cells) := ownsRow_setCell_other h.own hne0 _
  have g0 := free_of_blk (i := 0) b1
  have g1 := free_of_blk (i := 1) b1
  have T1 : Turns (fun k => k = p ∨ (Value.slice ad l.length cap).ownBlock = some k) W (W.setCell ⟨p, 1, none⟩ (.int .i64 (last + 1))) := (Turns.refl _ W).setCell (.inr (.inl rfl)) _
  generalize W.setCell ⟨p, 1, none⟩ (.int .i64 (last + 1)) = W1 at *
  clear c0 c1 f0 f1 h hne0
  have hwr : IntKind.i64.wrap (capT now + 6) = capT now + 6 := IntWalk.i64_in _ ⟨by omega, by omega⟩
  obtain ⟨i0, hi, hz0, hz1, hz2⟩ := info_parts info30
  replace ow : W1.drew.ownsRow 0 30 4 (.slice ad l.length cap) l.length (l.flatMap CallR.cells) := ow
  replace b1 : W1.drew.heap[p]? = some (.cells #[.slice ad l.length cap, .int .i64 (last + 1)] 27 (0, 0)) := b1
  replace T1 := T1.drew
  refine start_ (n := 20) (S := fun w' => w'.cell? ⟨p, 0, none⟩ = some (.slice ad l.length cap) ∧ w'.cell? ⟨p, 1, none⟩ = some (.int .i64 (last + 1))) (ds := [16, 19]) #[false, false, false, false, false, false, false, false, false, false, false, false, false, false, false, false, false, false, false, false] (by kernel_rfl) rfl rfl (⟨e0, e1⟩) (fun hHeld => ?_)
  generalize W1.drew = W2 at *
  refine pure_ (i := 0) (N := some 18) (v := ?_) (a' := ?_) #[true, false, false, false, false, false, false, false, false, false, false, false, false, false, false, false, false, false, false, false] rfl rfl (by kernel_rfl) (fun _ _ _ h => h) (Or.inl ⟨by rfl, ?_⟩) ?_ ?_
  rotate_left
  · intro w'
    go_simp
    with_reducible rfl
  rotate_left
  · simp only [Act.put, List.setIfInBounds_toArray, List.set_cons_zero, List.set_cons_succ]
    rfl
  refine pure_ (i := 1) (N := some 19) (v := ?_) (a' := ?_) #[true, true, false, false, false, false, false, false, false, false, false, false, false, false, false, false, false, false, false, false] rfl rfl (by kernel_rfl) (fun _ _ _ h => h) (Or.inl ⟨by rfl, ?_⟩) ?_ ?_
  rotate_left
  · intro w'
    go_simp
    with_reducible rfl
  rotate_left
  · simp only [Act.put, List.setIfInBounds_toArray, List.set_cons_zero, List.set_cons_succ]
    rfl
  refine pure_ (i := 2) (N := some 20) (v := ?_) (a' := ?_) #[true, true, true, false, false, false, false, false, false, false, false, false, false, false, false, false, false, false, false, false] rfl rfl (by kernel_rfl) (fun _ _ _ h => h) (Or.inl ⟨by rfl, ?_⟩) ?_ ?_
  rotate_left
  · intro w'
    go_simp
    with_reducible rfl
  rotate_left
  · simp only [Act.put, List.setIfInBounds_toArray, List.set_cons_zero, List.set_cons_succ]
    rfl
  refine pure_ (i := 3) (N := some 21) (v := ?_) (a' := ?_) #[true, true, true, true, false, false, false, false, false, false, false, false, false, false, false, false, false, false, false, false] rfl rfl (by kernel_rfl) (fun _ _ _ h => h) (Or.inl ⟨by rfl, ?_⟩) ?_ ?_
  rotate_left
  · intro w'
    go_simp
    with_reducible rfl
  rotate_left
  · simp only [Act.put, List.setIfInBounds_toArray, List.set_cons_zero, List.set_cons_succ]
    rfl
  refine take_ (i := 4) (N := some 22) (v := ?_) (a' := ?_) #[true, true, true, true, true, false, false, false, false, false, false, false, false, false, false, false, false, false, false, false] rfl rfl (by kernel_rfl) (fun _ _ _ h => h) (Or.inl ⟨by rfl, ?_⟩) hHeld ?_ ?_
  rotate_left
  · intro w' hSw
    (try dsimp only at hSw)
    go_simp
    with_reducible rfl
  rotate_left
  · simp only [Act.put, List.setIfInBounds_toArray, List.set_cons_zero, List.set_cons_succ]
    rfl
  refine pure_ (i := 5) (N := some 23) (v := ?_) (a' := ?_) #[true, true, true, true, true, true, false, false, false, false, false, false, false, false, false, false, false, false, false, false] rfl rfl (by kernel_rfl) (fun _ _ _ h => h) (Or.inl ⟨by rfl, ?_⟩) ?_ ?_
  rotate_left
  · intro w'
    go_simp
    with_reducible rfl
  rotate_left
  · simp only [Act.put, List.setIfInBounds_toArray, List.set_cons_zero, List.set_cons_succ]
    rfl
  refine pure_ (i := 6) (N := some 24) (v := ?_) (a' := ?_) #[true, true, true, true, true, true, true, false, false, false, false, false, false, false, false, false, false, false, false, false] rfl rfl (by kernel_rfl) (fun _ _ _ h => h) (Or.inl ⟨by rfl, ?_⟩) ?_ ?_
  rotate_left
  · intro w'
    go_simp
    with_reducible rfl
  rotate_left
  · simp only [Act.put, List.setIfInBounds_toArray, List.set_cons_zero, List.set_cons_succ]
    rfl
  refine pure_ (i := 7) (N := some 25) (v := ?_) (a' := ?_) #[true, true, true, true, true, true, true, true, false, false, false, false, false, false, false, false, false, false, false, false] rfl rfl (by kernel_rfl) (fun _ _ _ h => h) (Or.inl ⟨by rfl, ?_⟩) ?_ ?_
  rotate_left
  · intro w'
    go_simp
    with_reducible rfl
  rotate_left
  · simp only [Act.put, List.setIfInBounds_toArray, List.set_cons_zero, List.set_cons_succ]
    rfl
  refine take_ (i := 8) (N := some 26) (v := ?_) (a' := ?_) #[true, true, true, true, true, true, true, true, true, false, false, false, false, false, false, false, false, false, false, false] rfl rfl (by kernel_rfl) (fun _ _ _ h => h) (Or.inl ⟨by rfl, ?_⟩) hHeld ?_ ?_
  rotate_left
  · intro w' hSw
    (try dsimp only at hSw)
    go_simp
    with_reducible rfl
  rotate_left
  · simp only [Act.put, List.setIfInBounds_toArray, List.set_cons_zero, List.set_cons_succ]
    rfl
  refine pure_ (i := 9) (N := some 27) (v := ?_) (a' := ?_) #[true, true, true, true, true, true, true, true, true, true, false, false, false, false, false, false, false, false, false, false] rfl rfl (by kernel_rfl) (fun _ _ _ h => h) (Or.inl ⟨by rfl, ?_⟩) ?_ ?_
  rotate_left
  · intro w'
    go_simp
    with_reducible rfl
  rotate_left
  · simp only [Act.put, List.setIfInBounds_toArray, List.set_cons_zero, List.set_cons_succ]
    rfl
  refine pure_ (i := 10) (N := some 28) (v := ?_) (a' := ?_) #[true, true, true, true, true, true, true, true, true, true, true, false, false, false, false, false, false, false, false, false] rfl rfl (by kernel_rfl) (fun _ _ _ h => h) (Or.inl ⟨by rfl, ?_⟩) ?_ ?_
  rotate_left
  · intro w'
    go_simp
    with_reducible rfl
  rotate_left
  · simp only [Act.put, List.setIfInBounds_toArray, List.set_cons_zero, List.set_cons_succ]
    rfl
  refine pure_ (i := 11) (N := some 29) (v := ?_) (a' := ?_) #[true, true, true, true, true, true, true, true, true, true, true, true, false, false, false, false, false, false, false, false] rfl rfl (by kernel_rfl) (fun _ _ _ h => h) (Or.inl ⟨by rfl, ?_⟩) ?_ ?_
  rotate_left
  · intro w'
    go_simp
    with_reducible rfl
  rotate_left
  · simp only [Act.put, List.setIfInBounds_toArray, List.set_cons_zero, List.set_cons_succ]
    rfl
  refine pure_ (i := 12) (N := some 30) (v := .int .i64 (capT now)) (a' := ?_) #[true, true, true, true, true, true, true, true, true, true, true, true, true, false, false, false, false, false, false, false] rfl rfl (by kernel_rfl) (fun _ _ _ h => h) (Or.inl ⟨by rfl, ?_⟩) ?_ ?_
  · intro w'
    go_simp
    rfl
  rotate_left
  · simp only [Act.put, List.setIfInBounds_toArray, List.set_cons_zero, List.set_cons_succ]
    rfl
  refine pure_ (i := 13) (N := some 31) (v := ?_) (a' := ?_) #[true, true, true, true, true, true, true, true, true, true, true, true, true, true, false, false, false, false, false, false] rfl rfl (by kernel_rfl) (fun _ _ _ h => h) (Or.inl ⟨by rfl, ?_⟩) ?_ ?_
  rotate_left
  · intro w'
    go_simp
    with_reducible rfl
  rotate_left
  · simp only [Act.put, List.setIfInBounds_toArray, List.set_cons_zero, List.set_cons_succ]
    rfl
  refine pure_ (i := 14) (N := some 32) (v := ?_) (a' := ?_) #[true, true, true, true, true, true, true, true, true, true, true, true, true, true, true, false, false, false, false, false] rfl rfl (by kernel_rfl) (fun _ _ _ h => h) (Or.inl ⟨by rfl, ?_⟩) ?_ ?_
  rotate_left
  · intro w'
    go_simp
    with_reducible rfl
  rotate_left
  · simp only [Act.put, List.setIfInBounds_toArray, List.set_cons_zero, List.set_cons_succ]
    rfl
  refine one_ (i := 15) (N := some 33) #[true, true, true, true, true, true, true, true, true, true, true, true, true, true, true, true, false, false, false, false] rfl rfl (by kernel_rfl) (by decide) (fun K hK => ?_)
  go_simp
  refine hK.out _ _ ⟨?_, ?_⟩ (fun hHeld => ?_)
  · rw [World.cell?_alloc_some _ _ _ (by rw [hHeld.1]; rfl)]; exact hHeld.1
  · rw [World.cell?_alloc_some _ _ _ (by rw [hHeld.2]; rfl)]; exact hHeld.2
  have ow2 := ow.alloc (.cells #[.int .i64 (last + 1), .int .i64 op, .int .i64 peer, .int .i64 (capT now + 6)] 30)
  have T2 := T1.alloc (.cells #[.int .i64 (last + 1), .int .i64 op, .int .i64 peer, .int .i64 (capT now + 6)] 30)
  have b2 := heap_alloc_old W2 (.cells #[.int .i64 (last + 1), .int .i64 op, .int .i64 peer, .int .i64 (capT now + 6)] 30) (lt_of_block b1)
  rw [b1] at b2
  clear hK K
  refine last_ (i := 16) (N := some 34) #[true, true, true, true, true, true, true, true, true, true, true, true, true, true, true, true, true, false, false, false] rfl rfl (by kernel_rfl) (by decide) (fun K hK => ?_)
  rw [if_pos (by rfl)]
  refine wp_row_append _ (.tmp 22) (.tmp 33) 25 rfl 0 (Nat.zero_le _) 30 i0 _ 4 32 Try.underlying25 hi hz0 hz1 hz2 rfl (by decide) (.slice ad l.length cap) l.length (l.flatMap CallR.cells) rfl ow2 ⟨W2.heap.size, 0, none⟩ 1 1 [.int .i64 (last + 1), .int .i64 op, .int .i64 peer, .int .i64 (capT now + 6)] rfl rfl (fun j u hu => ?_) (by simp [Value.oneCell']) (by omega) (by decide) (fun v' w' ow' hg' hf' => ?_)
  · rw [Addr.add_lit, Nat.zero_add, World.cell?_alloc_new, List.getElem?_toArray]; exact hu
  obtain ⟨ad', cap', rfl⟩ := slice_of_own ow'
  refine hK.out _ _ ?_
  clear hK K
  refine norm_ (a' := ?_) ?_ ?_
  rotate_left
  · (try unfold Act.put); simp only [Act.put, List.setIfInBounds_toArray, List.set_cons_zero, List.set_cons_succ]
    rfl
  refine pure_ (i := 17) (N := some 35) (v := ?_) (a' := ?_) #[true, true, true, true, true, true, true, true, true, true, true, true, true, true, true, true, true, true, false, false] rfl rfl (by kernel_rfl) (fun _ _ _ h => h) (Or.inl ⟨by rfl, ?_⟩) ?_ ?_
  rotate_left
  · intro w'
    go_simp
    with_reducible rfl
  rotate_left
  · simp only [Act.put, List.setIfInBounds_toArray, List.set_cons_zero, List.set_cons_succ]
    rfl
  refine pure_ (i := 18) (N := some 36) (v := ?_) (a' := ?_) #[true, true, true, true, true, true, true, true, true, true, true, true, true, true, true, true, true, true, true, false] rfl rfl (by kernel_rfl) (fun _ _ _ h => h) (Or.inl ⟨by rfl, ?_⟩) ?_ ?_
  rotate_left
  · intro w'
    go_simp
    with_reducible rfl
  rotate_left
  · simp only [Act.put, List.setIfInBounds_toArray, List.set_cons_zero, List.set_cons_succ]
    rfl
  refine last_ (i := 19) (N := none) #[true, true, true, true, true, true, true, true, true, true, true, true, true, true, true, true, true, true, true, true] rfl rfl (by kernel_rfl) (by decide) (fun K hK => ?_)
  have b3 := hg'.keep b2 hne
  have T3 := T2.trans (hg'.mono (fun k hk hF => Or.inr hF))
  have c3 := cell_of_blk (i := 0) b3
  have f3 := free_of_blk (i := 0) b3
  simp at c3
  have hfin : CO (w'.setCell ⟨p, 0, none⟩ (.slice ad' (l.length + 1) cap')) p ad' cap' (l ++ [⟨last + 1, op, peer, capT now + 6⟩]) (last + 1) := ⟨by have := blk_setCell b3 0 (.slice ad' (l.length + 1) cap'); simpa using this, by rw [List.length_append, List.flatMap_append]; exact ownsRow_setCell_other ow' (fun e => own_ne ow' b3 (by decide) e) _⟩
  have T4 := T3.setCell (p := ⟨p, 0, none⟩) (.inr (.inl rfl)) (.slice ad' (l.length + 1) cap')
  have e4 := cell_of_blk (i := 1) hfin.blk
  simp at e4
  replace hf' : Fresh W (.slice ad l.length cap) (.slice ad' (l.length + 1) cap') := Fresh.trans (Fresh.refl W _) hf' T2.size
  clear b1 b2 b3 ow ow2 ow' T1 T2 T3 hg' e0 e1 g0 g1 hi hz0 hz1 hz2 hwr
  have HF := Lib.hid hfin
  clear hfin
  go_simp
  refine hK.out _ _ ?_
  clear hK K
  refine done_ (by kernel_rfl) ?_
  go_wp2
  go_ret
  exact ⟨rfl, ad', cap', HF.out, T4, by rw [List.length_append]; exact hf'⟩
end Go.Proofs.Ytddchhoplomjgaa

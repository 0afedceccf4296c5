/- Records; place.Key, Home, of, Peer, Clone of bytes. -/
import Derived.Test.YtbkcopejclcfdaaLkFn
import Derived.Laws.ResultCell
namespace Go.Proofs.Ytbkcopejclcfdaa
open Go.RowKit Go.Proofs.YtbkcopejclcfdaaW.PrintLast Go.Proofs.Ytbkcopejclcfdaa.Sum
set_option linter.unusedVariables false
set_option linter.unusedSimpArgs false
/-- a record -/
structure Rc where
  peer : Int
  number : Int
  s1 : Int
  s2 : Int
  s3 : Int
  block : Int
  esi : Int
  gone : Bool
  til : Int
  data : List Int
def Rc.cells (r : Rc) (v : Value) : List Value := [.int .i64 r.peer, .int .i64 r.number, .int .i64 r.s1, .int .i64 r.s2, .int .i64 r.s3, .int .i64 r.block, .int .i64 r.esi, .bool r.gone, .int .i64 r.til, v]
/-- the numbers of a record's key -/
def Rc.nums (r : Rc) : List Int := if r.gone = true then [r.peer, r.number] else [r.peer, r.number, r.block, r.esi]
theorem build_nums {w : World} {l : List Int} : Reads (w.alloc (.cells (ints l).toArray 3)) (some ⟨w.heap.size, 0, none⟩) (ints l) := fun j u hj => by
  refine ⟨w.heap.size, 0, rfl, by simp, ?_⟩
  rw [Nat.zero_add, World.cell?_alloc_new, List.getElem?_toArray]
  exact hj
theorem of_new (w : World) (l : List Int) (n : Nat) (hn : n = l.length) (hl : n ≤ 1000000) : Calls Try.prog 14 #[.slice (some ⟨w.heap.size, 0, none⟩) n n] (w.alloc (.cells (ints l).toArray 3)) fun e w' => e = .returned (.agg (kv (ofL l))) ∧ Below w.heap.size w w' := by
  subst hn
  exact (of_any (some ⟨w.heap.size, 0, none⟩) l.length l _ (by omega) (Reads.nums build_nums)).mono fun e w' ⟨he, hb⟩ => ⟨he, ((Below.refl _ _).alloc (Nat.le_refl _) _).trans (hb.mono (by simp))⟩
theorem keyOf_new (w : World) (l : List Int) (n : Nat) (hn : n = l.length) (hl : n ≤ 1000000) : Calls Try.prog 15 #[.slice (some ⟨w.heap.size, 0, none⟩) n n] (w.alloc (.cells (ints l).toArray 3)) fun e w' => e = .returned (.agg (kv (ofL l))) ∧ Below w.heap.size w w' := by
  subst hn
  exact (keyOf_any (some ⟨w.heap.size, 0, none⟩) l.length l _ (by omega) (Reads.nums build_nums)).mono fun e w' ⟨he, hb⟩ => ⟨he, ((Below.refl _ _).alloc (Nat.le_refl _) _).trans (hb.mono (by simp))⟩
theorem infoK (l : List Int) : (Try.prog.info? 23).map (·.size) = some (kv (ofL l)).size := by rw [kv_size, ofL_length]; exact info23
set_option maxHeartbeats 2000000 in
set_option maxRecDepth 20000 in
theorem pkey_any (W : World) (a b c d : Int) : Calls Try.prog 27 #[.agg #[.int .i64 a, .int .i64 b], .int .i64 c, .int .i64 d] W fun e W' => e = .returned (.agg (kv (ofL [a, b, c, d]))) ∧ Below W.heap.size W W' := by
  obtain ⟨W2, hW2⟩ : ∃ W2, (W.alloc (.cells #[.int .i64 a, .int .i64 b] 34)).alloc (.cells #[.int .u8 0, .int .u8 0, .int .u8 0, .int .u8 0, .int .u8 0, .int .u8 0, .int .u8 0, .int .u8 0, .int .u8 0, .int .u8 0, .int .u8 0, .int .u8 0, .int .u8 0, .int .u8 0, .int .u8 0, .int .u8 0, .int .u8 0, .int .u8 0, .int .u8 0, .int .u8 0] 23) = W2 := ⟨_, rfl⟩
  have hb2 : Below W.heap.size W W2 := by rw [← hW2]; exact ((Below.refl _ _).alloc (Nat.le_refl _) _).alloc (by simp) _
  have hg2 : W2.heap[W.heap.size + 1]? = some (.cells zero20 23 (0, 0)) := by rw [← hW2, heap_alloc2_new]; rfl
  have hr2 : W2.heap[W.heap.size]? = some (.cells #[.int .i64 a, .int .i64 b] 34 (0, 0)) := by rw [← hW2, heap_alloc2_old]
  have c0 : W2.cell? ⟨W.heap.size, 0, none⟩ = some (.int .i64 a) := by rw [cell_of_blk hr2]; rfl
  have c1 : W2.cell? ⟨W.heap.size, 1, none⟩ = some (.int .i64 b) := by rw [cell_of_blk hr2]; rfl
  have HC := Lib.hid (of_new W2 [a, b, c, d] 4 rfl (by decide) : Calls Try.prog 14 #[.slice (some ⟨W2.heap.size, 0, none⟩) 4 4] (W2.alloc (.cells #[.int .i64 a, .int .i64 b, .int .i64 c, .int .i64 d] 3)) _)
  have HB2 := Lib.hid hb2
  have HG2 := Lib.hid hg2
  have hlt := lt_of_block hr2
  have hs1 := infoK [a, b, c, d]
  have hsz : zero20.size = (kv (ofL [a, b, c, d])).size := by rw [kv_size, ofL_length]; rfl
  have hon := kv_one (ofL [a, b, c, d])
  have hgl := lt_of_block hg2
  generalize ofL [a, b, c, d] = key at *
  clear hb2 hg2 hr2
  go_enter Try.func27, Try.ntmps27
  go_wp2_with fail
  refine HC.out.mono ?_
  rintro e w3 ⟨rfl, hb⟩
  have hg3 := (hb.block (W.heap.size + 1) hgl).trans HG2.out
  have HG3 := Lib.hid hg3
  have HB3 := Lib.hid (HB2.out.trans (hb.mono HB2.out.size))
  clear hb hg3
  go_wp2_with (refine wpList_store_row rfl 23 (.tmp 6) (.tmp 14) rfl (W.heap.size + 1) rfl (kv key) rfl 23 zero20 HG3.out hs1 hsz hon ?_)
  refine bodyPost_ret (v := .agg (kv key)) ?_ rfl ⟨rfl, below_setRow HB3.out (Nat.le_succ _) _⟩
  exact results_cell_row rfl _ _ (W.heap.size + 1) 23 _ (0, 0) _ rfl (setRow_heap w3 _ zero20 _ 23 _ HG3.out) Try.underlying23 rfl hs1
set_option maxHeartbeats 2000000 in
set_option maxRecDepth 20000 in
theorem rpkey_any (W : World) (a b c d : Int) : Calls Try.prog 28 #[.agg #[.int .i64 a, .int .i64 b], .int .i64 c, .int .i64 d] W fun e W' => e = .returned (.agg (kv (ofL [a, b, c, d]))) ∧ Below W.heap.size W W' := by
  obtain ⟨W2, hW2⟩ : ∃ W2, (W.alloc (.cells #[.int .i64 a, .int .i64 b] 34)).alloc (.cells #[.int .u8 0, .int .u8 0, .int .u8 0, .int .u8 0, .int .u8 0, .int .u8 0, .int .u8 0, .int .u8 0, .int .u8 0, .int .u8 0, .int .u8 0, .int .u8 0, .int .u8 0, .int .u8 0, .int .u8 0, .int .u8 0, .int .u8 0, .int .u8 0, .int .u8 0, .int .u8 0] 23) = W2 := ⟨_, rfl⟩
  have hb2 : Below W.heap.size W W2 := by rw [← hW2]; exact ((Below.refl _ _).alloc (Nat.le_refl _) _).alloc (by simp) _
  have hg2 : W2.heap[W.heap.size + 1]? = some (.cells zero20 23 (0, 0)) := by rw [← hW2, heap_alloc2_new]; rfl
  have hr2 : W2.heap[W.heap.size]? = some (.cells #[.int .i64 a, .int .i64 b] 34 (0, 0)) := by rw [← hW2, heap_alloc2_old]
  have c0 : W2.cell? ⟨W.heap.size, 0, none⟩ = some (.int .i64 a) := by rw [cell_of_blk hr2]; rfl
  have c1 : W2.cell? ⟨W.heap.size, 1, none⟩ = some (.int .i64 b) := by rw [cell_of_blk hr2]; rfl
  have HC := Lib.hid (keyOf_new W2 [a, b, c, d] 4 rfl (by decide) : Calls Try.prog 15 #[.slice (some ⟨W2.heap.size, 0, none⟩) 4 4] (W2.alloc (.cells #[.int .i64 a, .int .i64 b, .int .i64 c, .int .i64 d] 3)) _)
  have HB2 := Lib.hid hb2
  have HG2 := Lib.hid hg2
  have hlt := lt_of_block hr2
  have hs1 := infoK [a, b, c, d]
  have hsz : zero20.size = (kv (ofL [a, b, c, d])).size := by rw [kv_size, ofL_length]; rfl
  have hon := kv_one (ofL [a, b, c, d])
  have hgl := lt_of_block hg2
  generalize ofL [a, b, c, d] = key at *
  clear hb2 hg2 hr2
  go_enter Try.func28, Try.ntmps28
  go_wp2_with fail
  refine HC.out.mono ?_
  rintro e w3 ⟨rfl, hb⟩
  have hg3 := (hb.block (W.heap.size + 1) hgl).trans HG2.out
  have HG3 := Lib.hid hg3
  have HB3 := Lib.hid (HB2.out.trans (hb.mono HB2.out.size))
  clear hb hg3
  go_wp2_with (refine wpList_store_row rfl 23 (.tmp 6) (.tmp 14) rfl (W.heap.size + 1) rfl (kv key) rfl 23 zero20 HG3.out hs1 hsz hon ?_)
  refine bodyPost_ret (v := .agg (kv key)) ?_ rfl ⟨rfl, below_setRow HB3.out (Nat.le_succ _) _⟩
  exact results_cell_row rfl _ _ (W.heap.size + 1) 23 _ (0, 0) _ rfl (setRow_heap w3 _ zero20 _ 23 _ HG3.out) Try.underlying23 rfl hs1
set_option maxHeartbeats 2000000 in
set_option maxRecDepth 20000 in
theorem home_any (W : World) (a b : Int) : Calls Try.prog 29 #[.agg #[.int .i64 a, .int .i64 b]] W fun e W' => e = .returned (.agg (kv (ofL [a, b]))) ∧ Below W.heap.size W W' := by
  obtain ⟨W2, hW2⟩ : ∃ W2, (W.alloc (.cells #[.int .i64 a, .int .i64 b] 34)).alloc (.cells #[.int .u8 0, .int .u8 0, .int .u8 0, .int .u8 0, .int .u8 0, .int .u8 0, .int .u8 0, .int .u8 0, .int .u8 0, .int .u8 0, .int .u8 0, .int .u8 0, .int .u8 0, .int .u8 0, .int .u8 0, .int .u8 0, .int .u8 0, .int .u8 0, .int .u8 0, .int .u8 0] 23) = W2 := ⟨_, rfl⟩
  have hb2 : Below W.heap.size W W2 := by rw [← hW2]; exact ((Below.refl _ _).alloc (Nat.le_refl _) _).alloc (by simp) _
  have hg2 : W2.heap[W.heap.size + 1]? = some (.cells zero20 23 (0, 0)) := by rw [← hW2, heap_alloc2_new]; rfl
  have hr2 : W2.heap[W.heap.size]? = some (.cells #[.int .i64 a, .int .i64 b] 34 (0, 0)) := by rw [← hW2, heap_alloc2_old]
  have c0 : W2.cell? ⟨W.heap.size, 0, none⟩ = some (.int .i64 a) := by rw [cell_of_blk hr2]; rfl
  have c1 : W2.cell? ⟨W.heap.size, 1, none⟩ = some (.int .i64 b) := by rw [cell_of_blk hr2]; rfl
  have HC := Lib.hid (of_new W2 [a, b] 2 rfl (by decide) : Calls Try.prog 14 #[.slice (some ⟨W2.heap.size, 0, none⟩) 2 2] (W2.alloc (.cells #[.int .i64 a, .int .i64 b] 3)) _)
  have HB2 := Lib.hid hb2
  have HG2 := Lib.hid hg2
  have hlt := lt_of_block hr2
  have hs1 := infoK [a, b]
  have hsz : zero20.size = (kv (ofL [a, b])).size := by rw [kv_size, ofL_length]; rfl
  have hon := kv_one (ofL [a, b])
  have hgl := lt_of_block hg2
  generalize ofL [a, b] = key at *
  clear hb2 hg2 hr2
  go_enter Try.func29, Try.ntmps29
  go_wp2_with fail
  refine HC.out.mono ?_
  rintro e w3 ⟨rfl, hb⟩
  have hg3 := (hb.block (W.heap.size + 1) hgl).trans HG2.out
  have HG3 := Lib.hid hg3
  have HB3 := Lib.hid (HB2.out.trans (hb.mono HB2.out.size))
  clear hb hg3
  go_wp2_with (refine wpList_store_row rfl 23 (.tmp 2) (.tmp 8) rfl (W.heap.size + 1) rfl (kv key) rfl 23 zero20 HG3.out hs1 hsz hon ?_)
  refine bodyPost_ret (v := .agg (kv key)) ?_ rfl ⟨rfl, below_setRow HB3.out (Nat.le_succ _) _⟩
  exact results_cell_row rfl _ _ (W.heap.size + 1) 23 _ (0, 0) _ rfl (setRow_heap w3 _ zero20 _ 23 _ HG3.out) Try.underlying23 rfl hs1
set_option maxHeartbeats 2000000 in
set_option maxRecDepth 20000 in
theorem rhome_any (W : World) (a b : Int) : Calls Try.prog 30 #[.agg #[.int .i64 a, .int .i64 b]] W fun e W' => e = .returned (.agg (kv (ofL [a, b]))) ∧ Below W.heap.size W W' := by
  obtain ⟨W2, hW2⟩ : ∃ W2, (W.alloc (.cells #[.int .i64 a, .int .i64 b] 34)).alloc (.cells #[.int .u8 0, .int .u8 0, .int .u8 0, .int .u8 0, .int .u8 0, .int .u8 0, .int .u8 0, .int .u8 0, .int .u8 0, .int .u8 0, .int .u8 0, .int .u8 0, .int .u8 0, .int .u8 0, .int .u8 0, .int .u8 0, .int .u8 0, .int .u8 0, .int .u8 0, .int .u8 0] 23) = W2 := ⟨_, rfl⟩
  have hb2 : Below W.heap.size W W2 := by rw [← hW2]; exact ((Below.refl _ _).alloc (Nat.le_refl _) _).alloc (by simp) _
  have hg2 : W2.heap[W.heap.size + 1]? = some (.cells zero20 23 (0, 0)) := by rw [← hW2, heap_alloc2_new]; rfl
  have hr2 : W2.heap[W.heap.size]? = some (.cells #[.int .i64 a, .int .i64 b] 34 (0, 0)) := by rw [← hW2, heap_alloc2_old]
  have c0 : W2.cell? ⟨W.heap.size, 0, none⟩ = some (.int .i64 a) := by rw [cell_of_blk hr2]; rfl
  have c1 : W2.cell? ⟨W.heap.size, 1, none⟩ = some (.int .i64 b) := by rw [cell_of_blk hr2]; rfl
  have HC := Lib.hid (keyOf_new W2 [a, b] 2 rfl (by decide) : Calls Try.prog 15 #[.slice (some ⟨W2.heap.size, 0, none⟩) 2 2] (W2.alloc (.cells #[.int .i64 a, .int .i64 b] 3)) _)
  have HB2 := Lib.hid hb2
  have HG2 := Lib.hid hg2
  have hlt := lt_of_block hr2
  have hs1 := infoK [a, b]
  have hsz : zero20.size = (kv (ofL [a, b])).size := by rw [kv_size, ofL_length]; rfl
  have hon := kv_one (ofL [a, b])
  have hgl := lt_of_block hg2
  generalize ofL [a, b] = key at *
  clear hb2 hg2 hr2
  go_enter Try.func30, Try.ntmps30
  go_wp2_with fail
  refine HC.out.mono ?_
  rintro e w3 ⟨rfl, hb⟩
  have hg3 := (hb.block (W.heap.size + 1) hgl).trans HG2.out
  have HG3 := Lib.hid hg3
  have HB3 := Lib.hid (HB2.out.trans (hb.mono HB2.out.size))
  clear hb hg3
  go_wp2_with (refine wpList_store_row rfl 23 (.tmp 2) (.tmp 8) rfl (W.heap.size + 1) rfl (kv key) rfl 23 zero20 HG3.out hs1 hsz hon ?_)
  refine bodyPost_ret (v := .agg (kv key)) ?_ rfl ⟨rfl, below_setRow HB3.out (Nat.le_succ _) _⟩
  exact results_cell_row rfl _ _ (W.heap.size + 1) 23 _ (0, 0) _ rfl (setRow_heap w3 _ zero20 _ 23 _ HG3.out) Try.underlying23 rfl hs1
theorem info53 : (Try.prog.info? 53).map (·.size) = some 10 := by kernel_rfl
theorem info34 : (Try.prog.info? 34).map (·.size) = some 2 := by kernel_rfl
set_option maxHeartbeats 2000000 in
set_option maxRecDepth 20000 in
theorem of57t_any (W : World) (r : Rc) (v : Value) (hv : v.oneCell' = true) (hg : r.gone = true) : Calls Try.prog 57 #[.agg (r.cells v).toArray] W fun e W' => e = .returned (.agg (kv (ofL r.nums))) ∧ Below W.heap.size W W' := by
  obtain ⟨W2, hW2⟩ : ∃ W2, (W.alloc (.cells (r.cells v).toArray 53)).alloc (.cells #[.int .u8 0, .int .u8 0, .int .u8 0, .int .u8 0, .int .u8 0, .int .u8 0, .int .u8 0, .int .u8 0, .int .u8 0, .int .u8 0, .int .u8 0, .int .u8 0, .int .u8 0, .int .u8 0, .int .u8 0, .int .u8 0, .int .u8 0, .int .u8 0, .int .u8 0, .int .u8 0] 23) = W2 := ⟨_, rfl⟩
  have hb2 : Below W.heap.size W W2 := by rw [← hW2]; exact ((Below.refl _ _).alloc (Nat.le_refl _) _).alloc (by simp) _
  have hg2 : W2.heap[W.heap.size + 1]? = some (.cells zero20 23 (0, 0)) := by rw [← hW2, heap_alloc2_new]; rfl
  have hr2 : W2.heap[W.heap.size]? = some (.cells (r.cells v).toArray 53 (0, 0)) := by rw [← hW2, heap_alloc2_old]
  have c0 : W2.cell? ⟨W.heap.size, 0, none⟩ = some (.int .i64 r.peer) := by rw [cell_of_blk hr2]; rfl
  have c1 : W2.cell? ⟨W.heap.size, 1, none⟩ = some (.int .i64 r.number) := by rw [cell_of_blk hr2]; rfl
  have c5 : W2.cell? ⟨W.heap.size, 5, none⟩ = some (.int .i64 r.block) := by rw [cell_of_blk hr2]; rfl
  have c6 : W2.cell? ⟨W.heap.size, 6, none⟩ = some (.int .i64 r.esi) := by rw [cell_of_blk hr2]; rfl
  have c7 : W2.cell? ⟨W.heap.size, 7, none⟩ = some (.bool true) := by rw [cell_of_blk hr2, ← hg]; rfl
  have hnum : r.nums = [r.peer, r.number] := by unfold Rc.nums; rw [hg]; rfl
  rw [hnum]
  have HC := Lib.hid (home_any W2 r.peer r.number)
  have HB2 := Lib.hid hb2
  have HG2 := Lib.hid hg2
  have HRG := Lib.hid (show W2.rangeAt W.heap.size 0 [.int .i64 r.peer, .int .i64 r.number] from fun j u hj => by
    match j, hj with
    | 0, hj => cases hj; exact c0
    | 1, hj => cases hj; exact c1)
  have hlt := lt_of_block hr2
  have hs1 := infoK [r.peer, r.number]
  have hsz : zero20.size = (kv (ofL [r.peer, r.number])).size := by rw [kv_size, ofL_length]; rfl
  have hon := kv_one (ofL [r.peer, r.number])
  have hgl := lt_of_block hg2
  generalize ofL [r.peer, r.number] = key at *
  obtain ⟨arr, harr⟩ : ∃ arr, (r.cells v).toArray = arr := ⟨_, rfl⟩
  rw [harr] at hW2 ⊢
  clear hb2 hg2 hr2 hnum harr hg c1
  go_enter Try.func57, Try.ntmps57
  go_wp2_with (refine wpList_load_mid rfl 34 (.tmp 5) rfl W.heap.size 0 rfl [.int .i64 r.peer, .int .i64 r.number] _ HRG.out Try.underlying34 rfl info34 ?_)
  refine HC.out.mono ?_
  rintro e w3 ⟨rfl, hb⟩
  have hg3 := (hb.block (W.heap.size + 1) hgl).trans HG2.out
  have HG3 := Lib.hid hg3
  have HB3 := Lib.hid (HB2.out.trans (hb.mono HB2.out.size))
  clear hb hg3
  go_wp2_with (refine wpList_store_row rfl 23 (.tmp 2) (.tmp 7) rfl (W.heap.size + 1) rfl (kv key) rfl 23 zero20 HG3.out hs1 hsz hon ?_)
  refine bodyPost_ret (v := .agg (kv key)) ?_ rfl ⟨rfl, below_setRow HB3.out (Nat.le_succ _) _⟩
  exact results_cell_row rfl _ _ (W.heap.size + 1) 23 _ (0, 0) _ rfl (setRow_heap w3 _ zero20 _ 23 _ HG3.out) Try.underlying23 rfl hs1
set_option maxHeartbeats 2000000 in
set_option maxRecDepth 20000 in
theorem of57f_any (W : World) (r : Rc) (v : Value) (hv : v.oneCell' = true) (hg : r.gone = false) : Calls Try.prog 57 #[.agg (r.cells v).toArray] W fun e W' => e = .returned (.agg (kv (ofL r.nums))) ∧ Below W.heap.size W W' := by
  obtain ⟨W2, hW2⟩ : ∃ W2, (W.alloc (.cells (r.cells v).toArray 53)).alloc (.cells #[.int .u8 0, .int .u8 0, .int .u8 0, .int .u8 0, .int .u8 0, .int .u8 0, .int .u8 0, .int .u8 0, .int .u8 0, .int .u8 0, .int .u8 0, .int .u8 0, .int .u8 0, .int .u8 0, .int .u8 0, .int .u8 0, .int .u8 0, .int .u8 0, .int .u8 0, .int .u8 0] 23) = W2 := ⟨_, rfl⟩
  have hb2 : Below W.heap.size W W2 := by rw [← hW2]; exact ((Below.refl _ _).alloc (Nat.le_refl _) _).alloc (by simp) _
  have hg2 : W2.heap[W.heap.size + 1]? = some (.cells zero20 23 (0, 0)) := by rw [← hW2, heap_alloc2_new]; rfl
  have hr2 : W2.heap[W.heap.size]? = some (.cells (r.cells v).toArray 53 (0, 0)) := by rw [← hW2, heap_alloc2_old]
  have c0 : W2.cell? ⟨W.heap.size, 0, none⟩ = some (.int .i64 r.peer) := by rw [cell_of_blk hr2]; rfl
  have c1 : W2.cell? ⟨W.heap.size, 1, none⟩ = some (.int .i64 r.number) := by rw [cell_of_blk hr2]; rfl
  have c5 : W2.cell? ⟨W.heap.size, 5, none⟩ = some (.int .i64 r.block) := by rw [cell_of_blk hr2]; rfl
  have c6 : W2.cell? ⟨W.heap.size, 6, none⟩ = some (.int .i64 r.esi) := by rw [cell_of_blk hr2]; rfl
  have c7 : W2.cell? ⟨W.heap.size, 7, none⟩ = some (.bool false) := by rw [cell_of_blk hr2, ← hg]; rfl
  have hnum : r.nums = [r.peer, r.number, r.block, r.esi] := by unfold Rc.nums; rw [hg]; rfl
  rw [hnum]
  have HC := Lib.hid (pkey_any W2 r.peer r.number r.block r.esi)
  have HB2 := Lib.hid hb2
  have HG2 := Lib.hid hg2
  have HRG := Lib.hid (show W2.rangeAt W.heap.size 0 [.int .i64 r.peer, .int .i64 r.number] from fun j u hj => by
    match j, hj with
    | 0, hj => cases hj; exact c0
    | 1, hj => cases hj; exact c1)
  have hlt := lt_of_block hr2
  have hs1 := infoK [r.peer, r.number, r.block, r.esi]
  have hsz : zero20.size = (kv (ofL [r.peer, r.number, r.block, r.esi])).size := by rw [kv_size, ofL_length]; rfl
  have hon := kv_one (ofL [r.peer, r.number, r.block, r.esi])
  have hgl := lt_of_block hg2
  generalize ofL [r.peer, r.number, r.block, r.esi] = key at *
  obtain ⟨arr, harr⟩ : ∃ arr, (r.cells v).toArray = arr := ⟨_, rfl⟩
  rw [harr] at hW2 ⊢
  clear hb2 hg2 hr2 hnum harr hg c1
  go_enter Try.func57, Try.ntmps57
  go_wp2_with (refine wpList_load_mid rfl 34 (.tmp 8) rfl W.heap.size 0 rfl [.int .i64 r.peer, .int .i64 r.number] _ HRG.out Try.underlying34 rfl info34 ?_)
  refine HC.out.mono ?_
  rintro e w3 ⟨rfl, hb⟩
  have hg3 := (hb.block (W.heap.size + 1) hgl).trans HG2.out
  have HG3 := Lib.hid hg3
  have HB3 := Lib.hid (HB2.out.trans (hb.mono HB2.out.size))
  clear hb hg3
  go_wp2_with (refine wpList_store_row rfl 23 (.tmp 2) (.tmp 14) rfl (W.heap.size + 1) rfl (kv key) rfl 23 zero20 HG3.out hs1 hsz hon ?_)
  refine bodyPost_ret (v := .agg (kv key)) ?_ rfl ⟨rfl, below_setRow HB3.out (Nat.le_succ _) _⟩
  exact results_cell_row rfl _ _ (W.heap.size + 1) 23 _ (0, 0) _ rfl (setRow_heap w3 _ zero20 _ 23 _ HG3.out) Try.underlying23 rfl hs1
theorem of57_any (W : World) (r : Rc) (v : Value) (hv : v.oneCell' = true) : Calls Try.prog 57 #[.agg (r.cells v).toArray] W fun e W' => e = .returned (.agg (kv (ofL r.nums))) ∧ Below W.heap.size W W' := by
  rcases Bool.eq_false_or_eq_true r.gone with h | h
  · exact of57t_any W r v hv h
  · exact of57f_any W r v hv h
set_option maxHeartbeats 2000000 in
theorem peer_any (W : World) (k : List Int) (hk : Key20 k) (A : Option Addr) (n cap : Nat) (l : List Int) (hn : n = l.length) (hl : n ≤ 1000000000) (hr : Reads W A (ints l)) :
    Calls Try.prog 23 #[.agg (kv k), .slice A n cap] W fun e W' => e = .returned (.tuple #[.int .i64 (minL k l), .bool (!decide (n = 0))]) ∧ Below W.heap.size W W' := by
  obtain ⟨W1, hW1⟩ : ∃ W1, W.alloc (.cells (kv k) 23) = W1 := ⟨_, rfl⟩
  have hb1 : Below W.heap.size W W1 := by rw [← hW1]; exact (Below.refl _ _).alloc (Nat.le_refl _) _
  have HB1 := Lib.hid hb1
  by_cases h0 : n = 0
  · have hl0 : l = [] := by cases l with
      | nil => rfl
      | cons x l => simp at hn; omega
    subst hl0
    subst h0
    clear hb1 hn hr
    go_enter Try.func23, Try.ntmps23
    go_wp2
    go_ret2
    exact ⟨rfl, HB1.out⟩
  · have hg1 : W1.heap[W.heap.size]? = some (.cells (kv k) 23 (0, 0)) := by rw [← hW1, heap_alloc_new]
    have hrg : W1.rangeAt W.heap.size 0 (cv k) := fun j u hj => by
      rw [Nat.zero_add, cell_of_row _ _ j (kv k) 23 (0, 0) hg1]
      simpa [kv_cv] using hj
    have hlt := lt_of_block hg1
    have hm := min54_any W1 A n cap l k W.heap.size hn hl (by omega) (hr.below hb1) (fun w' hb x y => clo54_any w' W.heap.size k x y hk (range_below hb hlt hrg) (Nat.lt_of_lt_of_le hlt hb.size))
    have HM := Lib.hid hm
    have HD := Lib.hid (show (!decide (n = 0)) = true by simp [h0])
    have i0 : ((n : Int) == 0) = false := by simp; omega
    have hmf : ∀ (fn : Fn) (first cap : Array Value) (w : World), (Instr.makeFunc fn first cap).run Try.prog w = .ok (.func fn first cap) w := fun _ _ _ _ => rfl
    generalize minL k l = m at *
    clear hb1 hn hr hg1 hrg hm h0
    go_enter Try.func23, Try.ntmps23
    go_wp2_with fail
    refine HM.out.mono ?_
    rintro e w2 ⟨rfl, hb⟩
    have HB := Lib.hid (HB1.out.trans (hb.mono HB1.out.size))
    clear hb
    go_wp2
    go_ret2
    rw [HD.out]
    exact ⟨rfl, HB.out⟩
theorem info5p : (Try.prog.info? 5).map (fun i => (i.zero, i.size, i.bytes)) = some (some (.int .u8 0), 1, 1) := by kernel_rfl
/-- a row of bytes of its own: a copy -/
def ClonedU (W : World) (d : List Int) (r : Ending) (W' : World) : Prop :=
  ∃ ad cap, r = .returned (.slice ad d.length cap) ∧ W'.ownsRow W.heap.size 5 1 (.slice ad d.length cap) d.length (cv d) ∧ Below W.heap.size W W'
theorem clone59_nil (W : World) : Calls Try.prog 59 #[.slice none 0 0] W fun e W' => e = .returned (.slice none 0 0) ∧ W = W' := by
  have hq := fun w : World => Lib.run_eql_slice_nil (P := Try.prog) w 51 5 none 0 0 0 0 Try.underlying51
  go_enter Try.func59, Try.ntmps59
  go_wp2
  go_ret
  exact ⟨rfl, rfl⟩
set_option maxHeartbeats 400000 in
theorem clone59_some (W : World) (a : Addr) (n cap : Nat) (d : List Int) (hl : n = d.length) (hn : n ≤ 1000000000) (hx : Reads W (some a) (cv d)) :
    Calls Try.prog 59 #[.slice (some a) n cap] W (ClonedU W d) := by
  have hq := fun w : World => Lib.run_eql_slice_nil (P := Try.prog) w 51 5 (some a) n cap 0 0 Try.underlying51
  obtain ⟨i0, hi, hz0, hz1, hz2⟩ := info_parts info5p
  have ow := World.ownsRow_made (base := W.heap.size) (e := 5) (size := 1) W #[] 0 (Nat.le_refl _) (by decide) rfl
  have hx' : Reads (W.alloc (.cells #[] 5)) (some a) (cv d) := hx.below ((Below.refl _ _).alloc (Nat.le_refl _) _)
  have T0 := (Turns.refl (fun _ => False) W).alloc (.cells #[] 5)
  have hl2 : (cv d).length = n * 1 := by rw [cv_length, hl, Nat.mul_one]
  have HL := Lib.hid hl
  clear hl
  go_enter Try.func59, Try.ntmps59
  go_wp2_with (at_builtin; refine wpList_row_append_any _ rfl (.tmp 5) (.tmp 6) 51 rfl W.heap.size (by simp) 5 i0 _ 1 1 Try.underlying51 hi hz0 hz1 hz2 rfl (by decide) (.slice (some ⟨W.heap.size, 0, none⟩) 0 0) 0 [] rfl ow (some a) n cap (cv d) rfl hl2 hx' (cv_one d) (by omega) (by decide) ?_)
  intro v' w' ow' hg' hf'
  (try simp only [Nat.zero_add, List.nil_append] at ow')
  obtain ⟨ad', cap', rfl⟩ := slice_of_own ow'
  have hb : Below W.heap.size W w' := below_ofI T0 hg' (fun k hk h => by simp [Value.ownBlock] at h; omega)
  have HO := Lib.hid ow'
  have HBB := Lib.hid hb
  clear ow' hg' hf' hq hi hz0 hz1 hz2 ow hx' hx T0 hl2 hb
  go_wp2
  go_ret
  rw [HL.out] at HO ⊢
  exact ⟨_, _, rfl, HO.out, HBB.out⟩
/-- a slice of bytes, as it can be read -/
def DataV (W : World) (v : Value) (d : List Int) : Prop := ∃ ad cap, v = .slice ad d.length cap ∧ Reads W ad (cv d) ∧ (ad = none → cap = 0)
theorem DataV.below {W W' : World} {v : Value} {d : List Int} (h : DataV W v d) (hb : Below W.heap.size W W') : DataV W' v d := by
  obtain ⟨ad, cap, h1, h2, h3⟩ := h
  exact ⟨ad, cap, h1, h2.below hb, h3⟩
theorem DataV.one {W : World} {v : Value} {d : List Int} (h : DataV W v d) : v.oneCell' = true := by
  obtain ⟨ad, cap, rfl, _⟩ := h
  rfl
theorem clone59_any (W : World) (v : Value) (d : List Int) (h : DataV W v d) (hn : d.length ≤ 1000000000) : Calls Try.prog 59 #[v] W (ClonedU W d) := by
  obtain ⟨ad, cap, rfl, hx, hA⟩ := h
  cases ad with
  | none =>
    have hd : d = [] := by
      cases d with
      | nil => rfl
      | cons x d =>
        obtain ⟨b, off, h2, _⟩ := hx 0 _ rfl
        cases h2
    subst hd
    obtain rfl := hA rfl
    exact (clone59_nil W).mono fun e W' ⟨he, hw⟩ => ⟨none, 0, he, World.ownsRow_nil _ _ _ _, hw ▸ Below.refl _ _⟩
  | some a => exact clone59_some W a d.length cap d rfl hn hx
end Go.Proofs.Ytbkcopejclcfdaa

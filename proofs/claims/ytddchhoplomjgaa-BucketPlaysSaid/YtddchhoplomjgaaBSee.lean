/- Bucket's See. -/
import Derived.Test.YtddchhoplomjgaaBMeth
namespace Go.Proofs.Ytddchhoplomjgaa
open Go.RowKit Go.Proofs.YtddchhoplomjgaaW.PrintLast
set_option linter.unusedVariables false
set_option linter.unusedSimpArgs false
theorem thenRow {p : Nat} {v v1 : Value} {W W2 w3 : World} (T : Turns (fun k => k = p ∨ v.ownBlock = some k) W W2) (T2 : Turns (fun k => v1.ownBlock = some k) W2 w3) (F : Fresh W v v1) : Turns (fun k => k = p ∨ v.ownBlock = some k) W w3 :=
  ⟨T2.os.trans T.os, T2.tape.trans T.tape, T2.output.trans T.output, Nat.le_trans T.size T2.size, fun k hk hF => (T2.block k (Nat.lt_of_lt_of_le hk T.size) (fun h => by
    rcases F with F | ⟨q, F, hq⟩
    · rw [F] at h; exact hF (.inr h)
    · rw [F] at h; injection h with h; omega)).trans (T.block k hk hF)⟩
theorem hRead_below {W W5 : World} {g off : Nat} {xs : List Value} (h : W.rangeAt g off xs) (hb : Below W.heap.size W W5) (hg : g < W.heap.size) : W5.rangeAt g off xs := fun j u hu => by
  rw [hb.cell (p := ⟨g, off + j, none⟩) hg]; exact h j u hu
theorem own_lt4 {w : World} {B : Nat} {e : TypeId} {size n k : Nat} {v : Value} {xs : List Value} (h : w.ownsRow B e size v n xs) (hk : v.ownBlock = some k) : k < w.heap.size := (h.lt k hk).2
/-- the cells of no contact -/
def zArr : Array Value := #[.int .i64 0, .int .u8 0, .int .u8 0, .int .u8 0, .int .u8 0, .int .u8 0, .int .u8 0, .int .u8 0, .int .u8 0, .int .u8 0, .int .u8 0, .int .u8 0, .int .u8 0, .int .u8 0, .int .u8 0, .int .u8 0, .int .u8 0, .int .u8 0, .int .u8 0, .int .u8 0, .int .u8 0]
def zCon : Con := ⟨0, List.replicate 20 (.int .u8 0)⟩
theorem zCon_cells : zCon.cells.toArray = zArr := rfl
theorem zArr_one : zArr.all (·.oneCell') = true := by kernel_rfl
theorem load54 (w : World) (g : Nat) (cs : Array Value) (hg : w.heap[g]? = some (.cells cs 54 (0, 0))) (hs : cs.size = 21) : (loadVar 54 ⟨g, 0, none⟩).run Try.prog w = .ok (.agg cs) w :=
  run_loadVar_row (P := Try.prog) w g 54 54 cs (0, 0) _ hg Try.underlying54 rfl (by rw [hs]; exact info54)
theorem see_fin {W w7 : World} {p : Nat} {v : Value} {r : Value} {l : List Con} {ad' : Option Addr} {cap' : Nat} (q : Nat) (cs : Array Value) (hq : W.heap.size ≤ q) (hp : p < W.heap.size) (h : BO w7 p ad' cap' l) (T : Turns (fun k => k = p ∨ v.ownBlock = some k) W w7) (F : Fresh W v (.slice ad' l.length cap'))
    (hn : ∀ k, (Value.slice ad' l.length cap').ownBlock = some k → k ≠ q) : BOPost W p v r l (.returned r) (w7.setRow q cs) := by
  have T2 := Turns.setRow (F := fun k => k = q) (Turns.refl _ w7) (g := q) (.inr rfl) cs
  refine ⟨rfl, ad', cap', h.keep T2 (by omega) (fun k hk e => hn k hk e), T.setRow (.inl hq) cs, F⟩
/-- See: what it answers, and what there is then -/
def seeL (c : Con) (l : List Con) : List Con := match idxP c.peer l with
  | some i => l.eraseIdx i ++ [c]
  | none => if 3 ≤ l.length then l else l ++ [c]
def seeR (c : Con) (l : List Con) : Con × Bool := match idxP c.peer l with
  | some _ => (zCon, false)
  | none => if 3 ≤ l.length then (l.headD zCon, true) else (zCon, false)
set_option maxHeartbeats 2000000 in
theorem see_new (W : World) (p : Nat) (ad : Option Addr) (cap : Nat) (l : List Con) (c : Con) (h : BO W p ad cap l) (hl : l.length ≤ 1000) (hc : c.ok) (hx : idxP c.peer l = none) (h3 : l.length < 3) :
    Calls Try.prog 22 #[.pointer (some ⟨p, 0, none⟩), .agg c.cells.toArray] W (BOPost W p (.slice ad l.length cap) (.tuple #[.agg (seeR c l).1.cells.toArray, .bool (seeR c l).2]) (seeL c l)) := by
  have hlt := lt_of_block h.blk
  have W2d : ∃ Wz, Wz = (W.alloc (.cells c.cells.toArray 54)).alloc (.cells zArr 54) := ⟨_, rfl⟩
  obtain ⟨Wz, hWz⟩ := W2d
  have hb2 : Below W.heap.size W Wz := by rw [hWz]; exact ((Below.refl _ _).alloc (Nat.le_refl _) _).alloc (by simp) _
  have hC := h.keep (Turns.of_below hb2 (fun _ => False)) (fun h => h) (fun _ _ h => h)
  have hz := heap_alloc_new (W.alloc (.cells c.cells.toArray 54)) (.cells zArr 54)
  rw [World.size_alloc, ← hWz] at hz
  have hcb : Wz.heap[W.heap.size]? = some (.cells c.cells.toArray 54 (0, 0)) := by rw [hWz, heap_alloc_old _ _ (by simp), heap_alloc_new]
  have hrg : Wz.rangeAt W.heap.size 0 c.cells := fun j u hj => by rw [Nat.zero_add, cell_of_row Wz _ j _ _ _ hcb, List.getElem?_toArray]; exact hj
  have hk0 : Wz.cell? ⟨W.heap.size, 0, none⟩ = some (.int .i64 c.peer) := by rw [cell_of_row Wz _ 0 _ _ _ hcb, List.getElem?_toArray]; rfl
  have hsz : W.heap.size + 2 ≤ Wz.heap.size := by rw [hWz]; simp
  have HPL := place_any Wz p ad cap l c.peer hC (by omega)
  have hown : ∀ k, (Value.slice ad l.length cap).ownBlock = some k → k < W.heap.size := fun k hk => own_lt4 h.own hk
  have hne := own_ne h.own h.blk (by decide)
  have hi : idxI c.peer l = -1 := by unfold idxI; rw [hx]
  rw [hi] at HPL
  have HP := Lib.hid HPL
  have hR : seeR c l = (zCon, false) := by unfold seeR; rw [hx]; exact if_neg (by omega)
  have hL : seeL c l = l ++ [c] := by unfold seeL; rw [hx]; exact if_neg (by omega)
  rw [hR, hL, zCon_cells]
  have HOK := Lib.hid hc
  have HLO := Lib.hid h.ok
  have c00 : (W.alloc (.cells c.cells.toArray 54)).heap.size = W.heap.size + 1 := by simp
  have harr : c.cells.toArray[0]? = some (.int .i64 c.peer) := rfl
  obtain ⟨i0, hi0, hz0, hz1, hz2⟩ := info_parts info54p
  have HWz := Lib.hid hWz
  have HC := Lib.hid hC
  clear hR hL hi hx h hWz HPL hk0 hC
  go_enter Try.func22, Try.ntmps22
  go_wp2_with fail
  show Calls Try.prog 40 _ ((W.alloc (.cells c.cells.toArray 54)).alloc (.cells zArr 54)) _
  rw [← HWz.out]
  refine HP.out.mono ?_
  rintro e W5 ⟨rfl, hb1⟩
  have hbo := HC.out.keep (Turns.of_below hb1 (fun _ => False)) (fun h => h) (fun _ _ h => h)
  have b5 := hbo.blk
  have cP := cell_of_blk (i := 0) b5
  have fP := free_of_blk (i := 0) b5
  simp at cP
  have ow5 := hbo.own
  have rC : W5.rangeAt W.heap.size 0 c.cells := fun j u hj => by rw [hb1.cell (p := ⟨W.heap.size, 0 + j, none⟩) (by dsimp only; omega)]; exact hrg j u hj
  have hrz := (hb1.block (W.heap.size + 1) (by omega)).trans hz
  have T5 : Turns (fun k => k = p ∨ (Value.slice ad l.length cap).ownBlock = some k) W W5 := Turns.of_below (hb2.trans (hb1.mono hb2.size)) _
  have HFr := Lib.hid (Fresh.refl W (.slice ad l.length cap))
  have hown5 := hown
  have hne5 := hne
  have HT5 := Lib.hid T5
  have Hsz5 := Lib.hid hb1.size
  have Hr := Lib.hid hrz
  have HrC := Lib.hid rC
  have Hb5 := Lib.hid b5
  have Ho5 := Lib.hid ow5
  have Hown := Lib.hid hown5
  have Hne := Lib.hid hne5
  have Hi0 := Lib.hid hi0
  have Hz0 := Lib.hid hz0
  clear hb1 hz hcb hrg hbo T5 hrz rC b5 ow5 hown5 hne5 hown hne hi0 hz0 hb2 hc
  have hz1' := Lib.hid hz1
  have hz2' := Lib.hid hz2
  clear hz1 hz2
  go_wp2
  have T5 := HT5.out
  have hrz := Hr.out
  have rC := HrC.out
  have b5 := Hb5.out
  have ow5 := Ho5.out
  have hown5 := Hown.out
  have hne5 := Hne.out
  have hi0 := Hi0.out
  have hz0 := Hz0.out
  have hz1 := hz1'.out
  have hz2 := hz2'.out
  replace b5 : W5.drew.heap[p]? = some (.cells #[.slice ad l.length cap] 50 (0, 0)) := b5
  replace ow5 : W5.drew.ownsRow 0 54 21 (.slice ad l.length cap) l.length (cons l) := ow5
  replace hrz : W5.drew.heap[W.heap.size + 1]? = some (.cells zArr 54 (0, 0)) := hrz
  replace T5 := T5.drew
  have hs5 : W.heap.size + 2 ≤ W5.drew.heap.size := Nat.le_trans hsz Hsz5.out
  refine start_ (n := 11) (S := fun w' => w'.cell? ⟨p, 0, none⟩ = some (.slice ad l.length cap) ∧ w'.rangeAt W.heap.size 0 c.cells) (ds := [7, 10]) #[false, false, false, false, false, false, false, false, false, false, false] (by kernel_rfl) rfl rfl (⟨cP, (World.rangeAt_drew _ _ _ _).2 rC⟩) (fun hHeld => ?_)
  generalize W5.drew = W6 at *
  refine pure_ (i := 0) (N := some 39) (v := ?_) (a' := ?_) #[true, false, false, false, false, false, false, false, false, false, false] rfl rfl (by kernel_rfl) (fun _ _ _ h => h) (Or.inl ⟨by rfl, ?_⟩) ?_ ?_
  rotate_left
  · intro w'
    go_simp
    with_reducible rfl
  rotate_left
  · simp only [Act.put, List.setIfInBounds_toArray, List.set_cons_zero, List.set_cons_succ]
    rfl
  refine pure_ (i := 1) (N := some 40) (v := ?_) (a' := ?_) #[true, true, false, false, false, false, false, false, false, false, false] rfl rfl (by kernel_rfl) (fun _ _ _ h => h) (Or.inl ⟨by rfl, ?_⟩) ?_ ?_
  rotate_left
  · intro w'
    go_simp
    with_reducible rfl
  rotate_left
  · simp only [Act.put, List.setIfInBounds_toArray, List.set_cons_zero, List.set_cons_succ]
    rfl
  refine pure_ (i := 2) (N := some 41) (v := ?_) (a' := ?_) #[true, true, true, false, false, false, false, false, false, false, false] rfl rfl (by kernel_rfl) (fun _ _ _ h => h) (Or.inl ⟨by rfl, ?_⟩) ?_ ?_
  rotate_left
  · intro w'
    go_simp
    with_reducible rfl
  rotate_left
  · simp only [Act.put, List.setIfInBounds_toArray, List.set_cons_zero, List.set_cons_succ]
    rfl
  refine pure_ (i := 3) (N := some 42) (v := ?_) (a' := ?_) #[true, true, true, true, false, false, false, false, false, false, false] rfl rfl (by kernel_rfl) (fun _ _ _ h => h) (Or.inl ⟨by rfl, ?_⟩) ?_ ?_
  rotate_left
  · intro w'
    go_simp
    with_reducible rfl
  rotate_left
  · simp only [Act.put, List.setIfInBounds_toArray, List.set_cons_zero, List.set_cons_succ]
    rfl
  refine take_ (i := 4) (N := some 43) (v := ?_) (a' := ?_) #[true, true, true, true, true, false, false, false, false, false, false] rfl rfl (by kernel_rfl) (fun _ _ _ h => h) (Or.inl ⟨by rfl, ?_⟩) hHeld ?_ ?_
  rotate_left
  · intro w' hSw
    (try dsimp only at hSw)
    go_simp
    with_reducible rfl
  rotate_left
  · simp only [Act.put, List.setIfInBounds_toArray, List.set_cons_zero, List.set_cons_succ]
    rfl
  refine take_ (i := 5) (N := some 44) (v := .agg c.cells.toArray) (a' := ?_) #[true, true, true, true, true, true, false, false, false, false, false] rfl rfl (by kernel_rfl) (fun _ _ _ h => h) (yieldsIf_load_mid (by rfl) _ _ rfl _ _ rfl c.cells _ (fun w' s => s.2) Try.underlying54 rfl (by rw [Con.len HOK.out]; exact info54)) hHeld ?_ ?_
  rotate_left
  · simp only [Act.put, List.setIfInBounds_toArray, List.set_cons_zero, List.set_cons_succ]
    rfl
  refine one_ (i := 6) (N := some 45) #[true, true, true, true, true, true, true, false, false, false, false] rfl rfl (by kernel_rfl) (by decide) (fun K hK => ?_)
  refine value_ (by rfl) rfl (exec_buildOne _ 48 (.tmp 44) rfl 54 21 _ c.cells.toArray rfl Try.underlying48 info54 (zero54 _) (by simp [Con.len HOK.out]) (by decide) (by decide)) ?_
  refine hK.out _ _ ⟨?_, ?_⟩ (fun hHeld => ?_)
  · rw [World.cell?_alloc_some _ _ _ (by rw [hHeld.1]; rfl)]; exact hHeld.1
  · exact World.rangeAt_alloc hHeld.2 _
  have ow6 := ow5.alloc (.cells c.cells.toArray 54)
  have T6 := T5.alloc (.cells c.cells.toArray 54)
  have b6 := heap_alloc_old W6 (.cells c.cells.toArray 54) (lt_of_block b5)
  rw [b5] at b6
  clear hK K
  refine norm_ (a' := ?_) ?_ ?_
  rotate_left
  · (try unfold Act.put); simp only [Act.put, List.setIfInBounds_toArray, List.set_cons_zero, List.set_cons_succ]
    rfl
  refine last_ (i := 7) (N := some 46) #[true, true, true, true, true, true, true, true, false, false, false] rfl rfl (by kernel_rfl) (by decide) (fun K hK => ?_)
  rw [if_pos (by rfl)]
  refine wp_row_append _ (.tmp 43) (.tmp 45) 48 rfl 0 (Nat.zero_le _) 54 i0 _ 21 32 Try.underlying48 hi0 hz0 hz1 hz2 rfl (by decide) (.slice ad l.length cap) l.length (cons l) rfl ow6 ⟨W6.heap.size, 0, none⟩ 1 1 c.cells rfl (by rw [Con.len HOK.out]) (fun j u hu => ?_) (Con.one HOK.out) (by omega) (by decide) ?_
  · rw [Addr.add_lit, Nat.zero_add, World.cell?_alloc_new, List.getElem?_toArray]; exact hu
  intro v7 w7 ow7 hg7 hf7
  obtain ⟨ad7, cap7, rfl⟩ := slice_of_own ow7
  refine hK.out _ _ ?_
  clear hK K
  refine norm_ (a' := ?_) ?_ ?_
  rotate_left
  · (try unfold Act.put); simp only [Act.put, List.setIfInBounds_toArray, List.set_cons_zero, List.set_cons_succ]
    rfl
  refine pure_ (i := 8) (N := some 47) (v := ?_) (a' := ?_) #[true, true, true, true, true, true, true, true, true, false, false] rfl rfl (by kernel_rfl) (fun _ _ _ h => h) (Or.inl ⟨by rfl, ?_⟩) ?_ ?_
  rotate_left
  · intro w'
    go_simp
    with_reducible rfl
  rotate_left
  · simp only [Act.put, List.setIfInBounds_toArray, List.set_cons_zero, List.set_cons_succ]
    rfl
  refine pure_ (i := 9) (N := some 48) (v := ?_) (a' := ?_) #[true, true, true, true, true, true, true, true, true, true, false] rfl rfl (by kernel_rfl) (fun _ _ _ h => h) (Or.inl ⟨by rfl, ?_⟩) ?_ ?_
  rotate_left
  · intro w'
    go_simp
    with_reducible rfl
  rotate_left
  · simp only [Act.put, List.setIfInBounds_toArray, List.set_cons_zero, List.set_cons_succ]
    rfl
  refine last_ (i := 10) (N := none) #[true, true, true, true, true, true, true, true, true, true, true] rfl rfl (by kernel_rfl) (by decide) (fun K hK => ?_)
  have b7 := hg7.keep b6 hne5
  have c7 := cell_of_blk (i := 0) b7
  have f7 := free_of_blk (i := 0) b7
  simp at c7
  have hne7 := own_ne ow7 b7 (by decide)
  have b8 := blk_setCell b7 0 (.slice ad7 (l.length + 1) cap7)
  simp at b8
  have ow8 := ownsRow_setCell_other (a := ⟨p, 0, none⟩) ow7 hne7 (.slice ad7 (l.length + 1) cap7)
  have T8 := Turns.setCell (p := ⟨p, 0, none⟩) (thenRow T6 hg7 HFr.out) (.inr (.inl rfl)) (.slice ad7 (l.length + 1) cap7)
  have F8 : Fresh W (.slice ad l.length cap) (.slice ad7 (l.length + 1) cap7) := Fresh.trans HFr.out hf7 T6.size
  have hl8 : (l ++ [c]).length = l.length + 1 := by rw [List.length_append, show (l).length = l.length from rfl]; rfl
  have HBO8 := Lib.hid (show BO (w7.setCell ⟨p, 0, none⟩ (.slice ad7 (l.length + 1) cap7)) p ad7 cap7 (l ++ [c]) from ⟨by rw [hl8]; exact b8, by rw [hl8, cons_append]; simpa [cons] using ow8, Oks.append HLO.out (fun d hd => by simp only [List.mem_cons, List.not_mem_nil, or_false] at hd; subst hd; exact HOK.out)⟩)
  have HN8 : ∀ k, (Value.slice ad7 (l ++ [c]).length cap7).ownBlock = some k → k ≠ W.heap.size + 1 := fun k hk => by rw [hl8] at hk; rcases hf7 with hq | ⟨q, hq, hq2⟩; (have := hown5 k (hq ▸ hk); omega); (rw [hq] at hk; injection hk with hk; rw [World.size_alloc] at hq2; omega)
  have HN8 := Lib.hid HN8
  rw [← hl8] at F8
  have HT8 := Lib.hid T8
  have HF8 := Lib.hid F8
  have HL8 := Lib.hid hl8
  have hr6 := heap_alloc_old W6 (.cells c.cells.toArray 54) (lt_of_block hrz)
  rw [hrz] at hr6
  have hr7 := hg7.keep hr6 (fun h => by have := hown5 _ h; omega)
  have hr8 := (Below.heap_setCell w7 ⟨p, 0, none⟩ (.slice ad7 (l.length + 1) cap7) (W.heap.size + 1) (by dsimp only; omega)).trans hr7
  clear hr6 hr7 hrz b5 b6 b7 b8 ow5 ow6 ow7 ow8 T5 T6 T8 F8 hl8 hg7 hf7 cP rC hz0 hz1 hz2 hi0
  go_simp
  refine hK.out _ _ ?_
  clear hK K
  refine done_ (by kernel_rfl) ?_
  have Hr8 := Lib.hid hr8
  go_wp2_with ((refine wpList_store_row _ rfl 54 (.tmp 4) (.tmp 49) rfl (W.heap.size + 1) rfl zArr rfl 54 zArr Hr8.out info54 rfl zArr_one ?_))
  have hld := load54 _ (W.heap.size + 1) zArr (setRow_heap _ _ _ zArr 54 (0, 0) Hr8.out) rfl
  exact bodyPost_ret (v := .tuple #[.agg zArr, .bool false]) (by rw [results_cell_tmp (fn := Try.f22) (p := 4) (ty := 54) (u := 5) rfl]; show ((loadVar 54 ⟨W.heap.size + 1, 0, none⟩).run Try.prog _).andThen _ = _; rw [hld]; rfl) rfl (see_fin (W.heap.size + 1) zArr (Nat.le_succ _) hlt HBO8.out HT8.out HF8.out HN8.out)
set_option maxHeartbeats 2000000 in
theorem see_full (W : World) (p : Nat) (ad : Option Addr) (cap : Nat) (l : List Con) (c : Con) (h : BO W p ad cap l) (hl : l.length ≤ 1000) (hc : c.ok) (hx : idxP c.peer l = none) (h3 : ¬ l.length < 3) :
    Calls Try.prog 22 #[.pointer (some ⟨p, 0, none⟩), .agg c.cells.toArray] W (BOPost W p (.slice ad l.length cap) (.tuple #[.agg (seeR c l).1.cells.toArray, .bool (seeR c l).2]) (seeL c l)) := by
  have hlt := lt_of_block h.blk
  have W2d : ∃ Wz, Wz = (W.alloc (.cells c.cells.toArray 54)).alloc (.cells zArr 54) := ⟨_, rfl⟩
  obtain ⟨Wz, hWz⟩ := W2d
  have hb2 : Below W.heap.size W Wz := by rw [hWz]; exact ((Below.refl _ _).alloc (Nat.le_refl _) _).alloc (by simp) _
  have hC := h.keep (Turns.of_below hb2 (fun _ => False)) (fun h => h) (fun _ _ h => h)
  have hz := heap_alloc_new (W.alloc (.cells c.cells.toArray 54)) (.cells zArr 54)
  rw [World.size_alloc, ← hWz] at hz
  have hcb : Wz.heap[W.heap.size]? = some (.cells c.cells.toArray 54 (0, 0)) := by rw [hWz, heap_alloc_old _ _ (by simp), heap_alloc_new]
  have hrg : Wz.rangeAt W.heap.size 0 c.cells := fun j u hj => by rw [Nat.zero_add, cell_of_row Wz _ j _ _ _ hcb, List.getElem?_toArray]; exact hj
  have hk0 : Wz.cell? ⟨W.heap.size, 0, none⟩ = some (.int .i64 c.peer) := by rw [cell_of_row Wz _ 0 _ _ _ hcb, List.getElem?_toArray]; rfl
  have hsz : W.heap.size + 2 ≤ Wz.heap.size := by rw [hWz]; simp
  have HPL := place_any Wz p ad cap l c.peer hC (by omega)
  have hown : ∀ k, (Value.slice ad l.length cap).ownBlock = some k → k < W.heap.size := fun k hk => own_lt4 h.own hk
  have hne := own_ne h.own h.blk (by decide)
  have hi : idxI c.peer l = -1 := by unfold idxI; rw [hx]
  rw [hi] at HPL
  have HP := Lib.hid HPL
  obtain ⟨d, l1, rfl⟩ : ∃ d l1, l = d :: l1 := by
    cases l with
    | nil => exact absurd (by decide) h3
    | cons d l1 => exact ⟨d, l1, rfl⟩
  have hR : seeR c (d :: l1) = (d, true) := by unfold seeR; rw [hx]; exact if_pos (by omega)
  have hL : seeL c (d :: l1) = d :: l1 := by unfold seeL; rw [hx]; exact if_pos (by omega)
  rw [hR, hL]
  have HOK := Lib.hid hc
  have HDK := Lib.hid (h.ok d (by simp))
  have harr : c.cells.toArray[0]? = some (.int .i64 c.peer) := rfl
  have HWz := Lib.hid hWz
  have HC := Lib.hid hC
  obtain ⟨g, rfl, _⟩ := own_some h.own (fun e => by injection e with _ e2 _; simp at e2)
  have HRG := Lib.hid (range_at (Reads.of_own h.own) h.ok 0 (by simp))
  have H1 := Lib.hid (cons_one (l := [d]) (fun e he => by simp at he; subst he; exact HDK.out))
  have HU := Lib.hid (Reads.of_own h.own)
  have hgl : g < W.heap.size := hown g rfl
  have HOW := Lib.hid h
  have hlen : ((d :: l1).length : Int) = l1.length + 1 := by simp
  obtain ⟨m, hm⟩ : ∃ m, (d :: l1).length = m + 1 := ⟨l1.length, rfl⟩
  have HM := Lib.hid hm
  have h3m : ¬ m + 1 < 3 := by rw [← hm]; exact h3
  have hlm : m + 1 ≤ 1000 := by rw [← hm]; exact hl
  clear hR hL hi hx h hWz HPL hk0 hC hc hlen h3 hl
  go_enter Try.func22, Try.ntmps22
  go_wp2_with fail
  show Calls Try.prog 40 _ ((W.alloc (.cells c.cells.toArray 54)).alloc (.cells zArr 54)) _
  rw [← HWz.out]
  refine HP.out.mono ?_
  rintro e W5 ⟨rfl, hb1⟩
  have hbo := HC.out.keep (Turns.of_below hb1 (fun _ => False)) (fun h => h) (fun _ _ h => h)
  have b5 := hbo.blk
  rw [hm] at b5
  have cP := cell_of_blk (i := 0) b5
  simp at cP
  have hrz := (hb1.block (W.heap.size + 1) (by omega)).trans hz
  have HT5 := Lib.hid (hb2.trans (hb1.mono hb2.size))
  have HB := Lib.hid hb2
  have Hr := Lib.hid hrz
  have hG : W5.rangeAt g 0 d.cells := hRead_below HRG.out HT5.out hgl
  have HG := Lib.hid hG
  have HBO := Lib.hid (HOW.out.keep (Turns.of_below HT5.out (fun _ => False)) (fun h => h) (fun _ _ h => h))
  have Hown := Lib.hid hown
  clear hb1 hz hcb hrg hbo hrz b5 hown hne hb2 hm HRG HU hG
  have hs1 : d.cells.toArray.size = 21 := by rw [List.size_toArray, Con.len HDK.out]
  have hs2 : (Try.prog.info? 54).map (·.size) = some d.cells.toArray.size := by rw [hs1]; exact info54
  have hs3 : zArr.size = d.cells.toArray.size := by rw [hs1]; rfl
  have hs4 : d.cells.toArray.all (·.oneCell') = true := by rw [List.all_toArray, List.all_eq_true]; intro u hu; exact H1.out u (by simpa [cons] using hu)
  have HS2 := Lib.hid hs2
  have HS3 := Lib.hid hs3
  have HS4 := Lib.hid hs4
  clear hs1 hs2 hs3 hs4
  go_wp2_with (first
    | (refine wpList_load_mid rfl 54 (.tmp 37) rfl g 0 rfl d.cells _ HG.out Try.underlying54 rfl (by rw [Con.len HDK.out]; exact info54) ?_)
    | (refine wpList_store_row _ rfl 54 (.tmp 4) (.tmp 38) rfl (W.heap.size + 1) rfl d.cells.toArray rfl 54 zArr Hr.out HS2.out HS3.out HS4.out ?_))
  have hld := load54 _ (W.heap.size + 1) d.cells.toArray (setRow_heap _ _ _ d.cells.toArray 54 (0, 0) Hr.out) (by rw [List.size_toArray, Con.len HDK.out])
  exact bodyPost_ret (v := .tuple #[.agg d.cells.toArray, .bool true]) (by rw [results_cell_tmp (fn := Try.f22) (p := 4) (ty := 54) (u := 5) rfl]; show ((loadVar 54 ⟨W.heap.size + 1, 0, none⟩).run Try.prog _).andThen _ = _; rw [hld]; rfl) rfl
    (see_fin (W.heap.size + 1) d.cells.toArray (Nat.le_succ _) hlt HBO.out (Turns.of_below HT5.out _) (Fresh.refl _ _) (fun k hk => by have := Hown.out k hk; omega))
set_option maxHeartbeats 2000000 in
theorem see_found (W : World) (p : Nat) (ad : Option Addr) (cap : Nat) (l : List Con) (c : Con) (h : BO W p ad cap l) (hl : l.length ≤ 1000) (hc : c.ok) (i : Nat) (hx : idxP c.peer l = some i) (h3 : l.length ≤ 3) :
    Calls Try.prog 22 #[.pointer (some ⟨p, 0, none⟩), .agg c.cells.toArray] W (BOPost W p (.slice ad l.length cap) (.tuple #[.agg (seeR c l).1.cells.toArray, .bool (seeR c l).2]) (seeL c l)) := by
  have hlt := lt_of_block h.blk
  have W2d : ∃ Wz, Wz = (W.alloc (.cells c.cells.toArray 54)).alloc (.cells zArr 54) := ⟨_, rfl⟩
  obtain ⟨Wz, hWz⟩ := W2d
  have hb2 : Below W.heap.size W Wz := by rw [hWz]; exact ((Below.refl _ _).alloc (Nat.le_refl _) _).alloc (by simp) _
  have hC := h.keep (Turns.of_below hb2 (fun _ => False)) (fun h => h) (fun _ _ h => h)
  have hz := heap_alloc_new (W.alloc (.cells c.cells.toArray 54)) (.cells zArr 54)
  rw [World.size_alloc, ← hWz] at hz
  have hcb : Wz.heap[W.heap.size]? = some (.cells c.cells.toArray 54 (0, 0)) := by rw [hWz, heap_alloc_old _ _ (by simp), heap_alloc_new]
  have hrg : Wz.rangeAt W.heap.size 0 c.cells := fun j u hj => by rw [Nat.zero_add, cell_of_row Wz _ j _ _ _ hcb, List.getElem?_toArray]; exact hj
  have hk0 : Wz.cell? ⟨W.heap.size, 0, none⟩ = some (.int .i64 c.peer) := by rw [cell_of_row Wz _ 0 _ _ _ hcb, List.getElem?_toArray]; rfl
  have hsz : W.heap.size + 2 ≤ Wz.heap.size := by rw [hWz]; simp
  have HPL := place_any Wz p ad cap l c.peer hC (by omega)
  have hown : ∀ k, (Value.slice ad l.length cap).ownBlock = some k → k < W.heap.size := fun k hk => own_lt4 h.own hk
  have hne := own_ne h.own h.blk (by decide)
  have hi : idxI c.peer l = i := by unfold idxI; rw [hx]
  rw [hi] at HPL
  have HP := Lib.hid HPL
  have hR : seeR c l = (zCon, false) := by unfold seeR; rw [hx]
  have hL : seeL c l = l.eraseIdx i ++ [c] := by unfold seeL; rw [hx]
  obtain ⟨hil, -, -⟩ := idxP_spec hx
  rw [hR, hL, zCon_cells]
  have HOK := Lib.hid hc
  have HLO := Lib.hid (h.ok.erase i)
  have c00 : (W.alloc (.cells c.cells.toArray 54)).heap.size = W.heap.size + 1 := by simp
  have harr : c.cells.toArray[0]? = some (.int .i64 c.peer) := rfl
  obtain ⟨i0, hi0, hz0, hz1, hz2⟩ := info_parts info54p
  have HWz := Lib.hid hWz
  have HC := Lib.hid hC
  obtain ⟨g, rfl, _⟩ := own_some h.own (fun e => by injection e with _ e2 _; omega)
  have hgl : g < W.heap.size := hown g rfl
  obtain ⟨m, hm⟩ : ∃ m, l.length = m + 1 := ⟨l.length - 1, by omega⟩
  have HM := Lib.hid hm
  have HIL := Lib.hid hil
  have hm3 : m < 3 := by omega
  have him : i < m + 1 := by omega
  have HNE := Lib.hid (show ¬ p = g from fun e => hne (by rw [e]; rfl))
  have HOKL := Lib.hid h.ok
  have HL := Lib.hid hl
  clear hR hL hi hx h hWz HPL hk0 hC hm hil hne hl h3
  go_enter Try.func22, Try.ntmps22
  go_wp2_with fail
  show Calls Try.prog 40 _ ((W.alloc (.cells c.cells.toArray 54)).alloc (.cells zArr 54)) _
  rw [← HWz.out]
  refine HP.out.mono ?_
  rintro e W5 ⟨rfl, hb1⟩
  have hbo := HC.out.keep (Turns.of_below hb1 (fun _ => False)) (fun h => h) (fun _ _ h => h)
  have b5 := hbo.blk
  rw [HM.out] at b5
  have cP := cell_of_blk (i := 0) b5
  have fP := free_of_blk (i := 0) b5
  simp at cP
  have ow5 := hbo.own
  rw [HM.out] at ow5
  have rC : W5.rangeAt W.heap.size 0 c.cells := fun j u hj => by rw [hb1.cell (p := ⟨W.heap.size, 0 + j, none⟩) (by dsimp only; omega)]; exact hrg j u hj
  have hrz := (hb1.block (W.heap.size + 1) (by omega)).trans hz
  have T5 : Turns (fun k => k = p ∨ (Value.slice (some ⟨g, 0, none⟩) l.length cap).ownBlock = some k) W W5 := Turns.of_below (hb2.trans (hb1.mono hb2.size)) _
  have HDEL := Lib.hid (del_any W5 0 g m cap i l HM.out.symm (by omega) HOKL.out (by omega) ow5)
  have HT5 := Lib.hid T5
  have Hsz5 := Lib.hid hb1.size
  have Hr := Lib.hid hrz
  have HrC := Lib.hid rC
  have Hb5 := Lib.hid b5
  have Hown := Lib.hid hown
  have Hi0 := Lib.hid hi0
  have Hz0 := Lib.hid hz0
  have hz1' := Lib.hid hz1
  have hz2' := Lib.hid hz2
  have HS := Lib.hid hsz
  clear hb1 hz hcb hrg hbo T5 hrz rC b5 ow5 hown hi0 hz0 hb2 hc hz1 hz2 hsz
  go_wp2_with fail
  refine HDEL.out.mono ?_
  rintro e w2 ⟨rfl, ow2, T2⟩
  have b2 := T2.keep Hb5.out HNE.out
  have f2 := free_of_blk (i := 0) b2
  have c2 := cell_of_blk (i := 0) b2
  simp at c2
  have b3 := blk_setCell b2 0 (.slice (some ⟨g, 0, none⟩) m cap)
  simp at b3
  have ow3 := ownsRow_setCell_other (a := ⟨p, 0, none⟩) ow2 (fun e => HNE.out (by injection e with e; exact e.symm)) (.slice (some ⟨g, 0, none⟩) m cap)
  have hel : (l.eraseIdx i).length = m := by rw [List.length_eraseIdx_of_lt (by rw [HM.out]; exact him), HM.out]; rfl
  have T3 := Turns.setCell (p := ⟨p, 0, none⟩) (HT5.out.trans (T2.mono (fun k _ hk => .inr (by rw [hk]; rfl)))) (.inr (.inl rfl)) (.slice (some ⟨g, 0, none⟩) m cap)
  have r2 := T2.keep Hr.out (by omega)
  have r3 := (Below.heap_setCell w2 ⟨p, 0, none⟩ (.slice (some ⟨g, 0, none⟩) m cap) (W.heap.size + 1) (by dsimp only; omega)).trans r2
  have rC3 : (w2.setCell ⟨p, 0, none⟩ (.slice (some ⟨g, 0, none⟩) m cap)).rangeAt W.heap.size 0 c.cells := fun j u hj => by
    have h1 := HrC.out j u hj
    have h2 : w2.cell? ⟨W.heap.size, 0 + j, none⟩ = some u := by
      rw [World.cell?_of_block (T2.block W.heap.size (by have := HS.out; have := Hsz5.out; omega) (by omega))]
      exact h1
    rw [World.cell?_setCell_other _ _ _ _ (fun e => by injection e; omega)]
    exact h2
  have c3 := cell_of_blk (i := 0) b3
  simp at c3
  have HB3 := Lib.hid b3
  have HO3 := Lib.hid ow3
  have HT3 := Lib.hid T3
  have HR3 := Lib.hid r3
  have HRC3 := Lib.hid rC3
  have HEL := Lib.hid hel
  have HSZ2 := Lib.hid T2.size
  clear b3 ow3 T3 r3 rC3 b2 ow2 T2 r2 hel
  go_wp2
  have T5 := HT3.out.drew
  have hrz := HR3.out
  have rC := HRC3.out
  have b5 := HB3.out
  have ow5 := HO3.out
  have hown5 := Hown.out
  have hel := HEL.out
  have hi0 := Hi0.out
  have hz0 := Hz0.out
  have hz1 := hz1'.out
  have hz2 := hz2'.out
  have cP := c3
  have hs5 : W.heap.size + 2 ≤ (w2.setCell ⟨p, 0, none⟩ (.slice (some ⟨g, 0, none⟩) m cap)).drew.heap.size := by have := HS.out; have := Hsz5.out; have := HSZ2.out; simp; omega
  have hne5 := own_ne HO3.out HB3.out (by decide)
  have HFr := Lib.hid (show Fresh W (.slice (some ⟨g, 0, none⟩) l.length cap) (.slice (some ⟨g, 0, none⟩) m cap) from .inl rfl)
  generalize hWS : w2.setCell ⟨p, 0, none⟩ (.slice (some ⟨g, 0, none⟩) m cap) = WS at *
  replace b5 : WS.drew.heap[p]? = some (.cells #[.slice (some ⟨g, 0, none⟩) m cap] 50 (0, 0)) := b5
  replace ow5 : WS.drew.ownsRow 0 54 21 (.slice (some ⟨g, 0, none⟩) m cap) m (cons (l.eraseIdx i)) := ow5
  replace hrz : WS.drew.heap[W.heap.size + 1]? = some (.cells zArr 54 (0, 0)) := hrz
  refine start_ (n := 11) (S := fun w' => w'.cell? ⟨p, 0, none⟩ = some (.slice (some ⟨g, 0, none⟩) m cap) ∧ w'.rangeAt W.heap.size 0 c.cells) (ds := [7, 10]) #[false, false, false, false, false, false, false, false, false, false, false] (by kernel_rfl) rfl rfl (⟨cP, (World.rangeAt_drew _ _ _ _).2 rC⟩) (fun hHeld => ?_)
  generalize WS.drew = W6 at *
  refine pure_ (i := 0) (N := some 39) (v := ?_) (a' := ?_) #[true, false, false, false, false, false, false, false, false, false, false] rfl rfl (by kernel_rfl) (fun _ _ _ h => h) (Or.inl ⟨by rfl, ?_⟩) ?_ ?_
  rotate_left
  · intro w'
    go_simp
    with_reducible rfl
  rotate_left
  · simp only [Act.put, List.setIfInBounds_toArray, List.set_cons_zero, List.set_cons_succ]
    rfl
  refine pure_ (i := 1) (N := some 40) (v := ?_) (a' := ?_) #[true, true, false, false, false, false, false, false, false, false, false] rfl rfl (by kernel_rfl) (fun _ _ _ h => h) (Or.inl ⟨by rfl, ?_⟩) ?_ ?_
  rotate_left
  · intro w'
    go_simp
    with_reducible rfl
  rotate_left
  · simp only [Act.put, List.setIfInBounds_toArray, List.set_cons_zero, List.set_cons_succ]
    rfl
  refine pure_ (i := 2) (N := some 41) (v := ?_) (a' := ?_) #[true, true, true, false, false, false, false, false, false, false, false] rfl rfl (by kernel_rfl) (fun _ _ _ h => h) (Or.inl ⟨by rfl, ?_⟩) ?_ ?_
  rotate_left
  · intro w'
    go_simp
    with_reducible rfl
  rotate_left
  · simp only [Act.put, List.setIfInBounds_toArray, List.set_cons_zero, List.set_cons_succ]
    rfl
  refine pure_ (i := 3) (N := some 42) (v := ?_) (a' := ?_) #[true, true, true, true, false, false, false, false, false, false, false] rfl rfl (by kernel_rfl) (fun _ _ _ h => h) (Or.inl ⟨by rfl, ?_⟩) ?_ ?_
  rotate_left
  · intro w'
    go_simp
    with_reducible rfl
  rotate_left
  · simp only [Act.put, List.setIfInBounds_toArray, List.set_cons_zero, List.set_cons_succ]
    rfl
  refine take_ (i := 4) (N := some 43) (v := ?_) (a' := ?_) #[true, true, true, true, true, false, false, false, false, false, false] rfl rfl (by kernel_rfl) (fun _ _ _ h => h) (Or.inl ⟨by rfl, ?_⟩) hHeld ?_ ?_
  rotate_left
  · intro w' hSw
    (try dsimp only at hSw)
    go_simp
    with_reducible rfl
  rotate_left
  · simp only [Act.put, List.setIfInBounds_toArray, List.set_cons_zero, List.set_cons_succ]
    rfl
  refine take_ (i := 5) (N := some 44) (v := .agg c.cells.toArray) (a' := ?_) #[true, true, true, true, true, true, false, false, false, false, false] rfl rfl (by kernel_rfl) (fun _ _ _ h => h) (yieldsIf_load_mid (by rfl) _ _ rfl _ _ rfl c.cells _ (fun w' s => s.2) Try.underlying54 rfl (by rw [Con.len HOK.out]; exact info54)) hHeld ?_ ?_
  rotate_left
  · simp only [Act.put, List.setIfInBounds_toArray, List.set_cons_zero, List.set_cons_succ]
    rfl
  refine one_ (i := 6) (N := some 45) #[true, true, true, true, true, true, true, false, false, false, false] rfl rfl (by kernel_rfl) (by decide) (fun K hK => ?_)
  refine value_ (by rfl) rfl (exec_buildOne _ 48 (.tmp 44) rfl 54 21 _ c.cells.toArray rfl Try.underlying48 info54 (zero54 _) (by simp [Con.len HOK.out]) (by decide) (by decide)) ?_
  refine hK.out _ _ ⟨?_, ?_⟩ (fun hHeld => ?_)
  · rw [World.cell?_alloc_some _ _ _ (by rw [hHeld.1]; rfl)]; exact hHeld.1
  · exact World.rangeAt_alloc hHeld.2 _
  have ow6 := ow5.alloc (.cells c.cells.toArray 54)
  have T6 := T5.alloc (.cells c.cells.toArray 54)
  have b6 := heap_alloc_old W6 (.cells c.cells.toArray 54) (lt_of_block b5)
  rw [b5] at b6
  clear hK K
  refine norm_ (a' := ?_) ?_ ?_
  rotate_left
  · (try unfold Act.put); simp only [Act.put, List.setIfInBounds_toArray, List.set_cons_zero, List.set_cons_succ]
    rfl
  refine last_ (i := 7) (N := some 46) #[true, true, true, true, true, true, true, true, false, false, false] rfl rfl (by kernel_rfl) (by decide) (fun K hK => ?_)
  rw [if_pos (by rfl)]
  refine wp_row_append _ (.tmp 43) (.tmp 45) 48 rfl 0 (Nat.zero_le _) 54 i0 _ 21 32 Try.underlying48 hi0 hz0 hz1 hz2 rfl (by decide) (.slice (some ⟨g, 0, none⟩) m cap) m (cons (l.eraseIdx i)) rfl ow6 ⟨W6.heap.size, 0, none⟩ 1 1 c.cells rfl (by rw [Con.len HOK.out]) (fun j u hu => ?_) (Con.one HOK.out) (by omega) (by decide) ?_
  · rw [Addr.add_lit, Nat.zero_add, World.cell?_alloc_new, List.getElem?_toArray]; exact hu
  intro v7 w7 ow7 hg7 hf7
  obtain ⟨ad7, cap7, rfl⟩ := slice_of_own ow7
  refine hK.out _ _ ?_
  clear hK K
  refine norm_ (a' := ?_) ?_ ?_
  rotate_left
  · (try unfold Act.put); simp only [Act.put, List.setIfInBounds_toArray, List.set_cons_zero, List.set_cons_succ]
    rfl
  refine pure_ (i := 8) (N := some 47) (v := ?_) (a' := ?_) #[true, true, true, true, true, true, true, true, true, false, false] rfl rfl (by kernel_rfl) (fun _ _ _ h => h) (Or.inl ⟨by rfl, ?_⟩) ?_ ?_
  rotate_left
  · intro w'
    go_simp
    with_reducible rfl
  rotate_left
  · simp only [Act.put, List.setIfInBounds_toArray, List.set_cons_zero, List.set_cons_succ]
    rfl
  refine pure_ (i := 9) (N := some 48) (v := ?_) (a' := ?_) #[true, true, true, true, true, true, true, true, true, true, false] rfl rfl (by kernel_rfl) (fun _ _ _ h => h) (Or.inl ⟨by rfl, ?_⟩) ?_ ?_
  rotate_left
  · intro w'
    go_simp
    with_reducible rfl
  rotate_left
  · simp only [Act.put, List.setIfInBounds_toArray, List.set_cons_zero, List.set_cons_succ]
    rfl
  refine last_ (i := 10) (N := none) #[true, true, true, true, true, true, true, true, true, true, true] rfl rfl (by kernel_rfl) (by decide) (fun K hK => ?_)
  have b7 := hg7.keep b6 hne5
  have c7 := cell_of_blk (i := 0) b7
  have f7 := free_of_blk (i := 0) b7
  simp at c7
  have hne7 := own_ne ow7 b7 (by decide)
  have b8 := blk_setCell b7 0 (.slice ad7 (m + 1) cap7)
  simp at b8
  have ow8 := ownsRow_setCell_other (a := ⟨p, 0, none⟩) ow7 hne7 (.slice ad7 (m + 1) cap7)
  have T8 := Turns.setCell (p := ⟨p, 0, none⟩) (thenRow T6 hg7 HFr.out) (.inr (.inl rfl)) (.slice ad7 (m + 1) cap7)
  have F8 : Fresh W (.slice (some ⟨g, 0, none⟩) l.length cap) (.slice ad7 (m + 1) cap7) := Fresh.trans HFr.out hf7 T6.size
  have hl8 : ((l.eraseIdx i) ++ [c]).length = m + 1 := by rw [List.length_append, show ((l.eraseIdx i)).length = m from hel]; rfl
  have HBO8 := Lib.hid (show BO (w7.setCell ⟨p, 0, none⟩ (.slice ad7 (m + 1) cap7)) p ad7 cap7 ((l.eraseIdx i) ++ [c]) from ⟨by rw [hl8]; exact b8, by rw [hl8, cons_append]; simpa [cons] using ow8, Oks.append HLO.out (fun d hd => by simp only [List.mem_cons, List.not_mem_nil, or_false] at hd; subst hd; exact HOK.out)⟩)
  have HN8 : ∀ k, (Value.slice ad7 ((l.eraseIdx i) ++ [c]).length cap7).ownBlock = some k → k ≠ W.heap.size + 1 := fun k hk => by rw [hl8] at hk; rcases hf7 with hq | ⟨q, hq, hq2⟩; (have := hown5 k (hq ▸ hk); omega); (rw [hq] at hk; injection hk with hk; rw [World.size_alloc] at hq2; omega)
  have HN8 := Lib.hid HN8
  rw [← hl8] at F8
  have HT8 := Lib.hid T8
  have HF8 := Lib.hid F8
  have HL8 := Lib.hid hl8
  have hr6 := heap_alloc_old W6 (.cells c.cells.toArray 54) (lt_of_block hrz)
  rw [hrz] at hr6
  have hr7 := hg7.keep hr6 (fun h => by have := hown5 _ h; omega)
  have hr8 := (Below.heap_setCell w7 ⟨p, 0, none⟩ (.slice ad7 (m + 1) cap7) (W.heap.size + 1) (by dsimp only; omega)).trans hr7
  clear hr6 hr7 hrz b5 b6 b7 b8 ow5 ow6 ow7 ow8 T5 T6 T8 F8 hl8 hg7 hf7 cP rC hz0 hz1 hz2 hi0
  go_simp
  refine hK.out _ _ ?_
  clear hK K
  refine done_ (by kernel_rfl) ?_
  have Hr8 := Lib.hid hr8
  go_wp2_with ((refine wpList_store_row _ rfl 54 (.tmp 4) (.tmp 49) rfl (W.heap.size + 1) rfl zArr rfl 54 zArr Hr8.out info54 rfl zArr_one ?_))
  have hld := load54 _ (W.heap.size + 1) zArr (setRow_heap _ _ _ zArr 54 (0, 0) Hr8.out) rfl
  exact bodyPost_ret (v := .tuple #[.agg zArr, .bool false]) (by rw [results_cell_tmp (fn := Try.f22) (p := 4) (ty := 54) (u := 5) rfl]; show ((loadVar 54 ⟨W.heap.size + 1, 0, none⟩).run Try.prog _).andThen _ = _; rw [hld]; rfl) rfl (see_fin (W.heap.size + 1) zArr (Nat.le_succ _) hlt HBO8.out HT8.out HF8.out HN8.out)
theorem see_any (W : World) (p : Nat) (ad : Option Addr) (cap : Nat) (l : List Con) (c : Con) (h : BO W p ad cap l) (hl : l.length ≤ 3) (hc : c.ok)  :
    Calls Try.prog 22 #[.pointer (some ⟨p, 0, none⟩), .agg c.cells.toArray] W (BOPost W p (.slice ad l.length cap) (.tuple #[.agg (seeR c l).1.cells.toArray, .bool (seeR c l).2]) (seeL c l)) := by
  rcases hx : idxP c.peer l with _ | i
  · by_cases h3 : l.length < 3
    · exact see_new W p ad cap l c h (by omega) hc hx h3
    · exact see_full W p ad cap l c h (by omega) hc hx h3
  · exact see_found W p ad cap l c h (by omega) hc i hx hl
end Go.Proofs.Ytddchhoplomjgaa

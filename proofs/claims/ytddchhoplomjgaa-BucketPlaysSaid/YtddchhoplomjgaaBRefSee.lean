/- The other bucket: See. -/
import Derived.Test.YtddchhoplomjgaaBRef
import Derived.Deep.QuietTactic
import Derived.BigQuiet
import Derived.WalkSmall
namespace Go.Proofs.Ytddchhoplomjgaa
open Go.RowKit Go.Proofs.YtddchhoplomjgaaW.PrintLast
set_option linter.unusedVariables false
set_option linter.unusedSimpArgs false
/-- a row that was made behind W2, and nothing else is turned -/
structure J0 (W2 w : World) (n : Nat) (l : List Con) (v : Value) : Prop where
  own : w.ownsRow 0 54 21 v n (cons l)
  new : ∀ q, v.ownBlock = some q → W2.heap.size ≤ q
  T : Turns (fun _ => False) W2 w
structure JF (W2 w : World) (cs : List Value) (n : Nat) (l : List Con) (v : Value) (b : Nat) : Prop extends J0 W2 w n l v where
  blk : w.heap[b]? = some (.cells cs.toArray 54 (0, 0))
  ge : W2.heap.size ≤ b
  ne : v.ownBlock ≠ some b
theorem J0.start (W2 : World) : J0 W2 W2 0 [] (.slice none 0 0) := ⟨World.ownsRow_nil _ _ _ _, fun q h => (by cases h), Turns.refl _ _⟩
theorem J0.app {W2 w w' : World} {n m : Nat} {l l2 : List Con} {v v' : Value} (h : J0 W2 w n l v) (ho : w'.ownsRow 0 54 21 v' (n + m) (cons (l ++ l2))) (T : Turns (fun k => v.ownBlock = some k) w w') (F : Fresh w v v') : J0 W2 w' (n + m) (l ++ l2) v' :=
  ⟨ho, Fresh.new_then F h.new h.T.size, Turns.then_new h.T T h.new⟩
theorem J0.box {W2 w : World} {n : Nat} {l : List Con} {v : Value} (h : J0 W2 w n l v) (cs : List Value) : JF W2 (w.alloc (.cells cs.toArray 54)) cs n l v w.heap.size :=
  ⟨⟨h.own.alloc _, h.new, h.T.alloc _⟩, heap_alloc_new w _, h.T.size, fun e => by have := own_lt4 h.own e; omega⟩
theorem JF.app {W2 w w' : World} {cs : List Value} {n m b : Nat} {l l2 : List Con} {v v' : Value} (h : JF W2 w cs n l v b) (ho : w'.ownsRow 0 54 21 v' (n + m) (cons (l ++ l2))) (T : Turns (fun k => v.ownBlock = some k) w w') (F : Fresh w v v') : JF W2 w' cs (n + m) (l ++ l2) v' b :=
  ⟨h.toJ0.app ho T F, T.keep h.blk h.ne, h.ge, fun e => by
    rcases F with F | ⟨q, F, hq⟩
    · rw [F] at e; exact h.ne e
    · rw [F] at e; injection e with e; have := lt_of_block h.blk; omega⟩
theorem rsee_fin {W w7 : World} {p : Nat} {v : Value} {r : Value} {l : List Con} {ad' : Option Addr} {cap' : Nat} (q : Nat) (cs : Array Value) (hq : W.heap.size ≤ q) (hp : p < W.heap.size) (h : RO w7 p ad' cap' l) (T : Turns (fun k => k = p ∨ v.ownBlock = some k) W w7)
    (F : ∀ k, (Value.slice ad' l.length cap').ownBlock = some k → v.ownBlock = some k ∨ W.heap.size ≤ k) (hn : ∀ k, (Value.slice ad' l.length cap').ownBlock = some k → k ≠ q) : ROPost W p v r l (.returned r) (w7.setRow q cs) := by
  have T2 := Turns.setRow (F := fun k => k = q) (Turns.refl _ w7) (g := q) (.inr rfl) cs
  exact ⟨rfl, ad', cap', h.keep T2 (by omega) (fun k hk e => hn k hk e), T.setRow (.inl hq) cs, F⟩
theorem below_drewB {W w : World} {B : Nat} (h : Below B W w) : Below B W w.drew := ⟨h.os, h.tape, h.output, h.size, h.block⟩
set_option maxHeartbeats 4000000 in
theorem rsee_any (W : World) (p : Nat) (ad : Option Addr) (cap : Nat) (l : List Con) (c : Con) (h : RO W p ad cap l) (hl : l.length ≤ 100000) (hc : c.ok) :
    Calls Try.prog 26 #[.pointer (some ⟨p, 0, none⟩), .agg c.cells.toArray] W (ROPost W p (.slice ad l.length cap) (.tuple #[.agg (seeR c l).1.cells.toArray, .bool (seeR c l).2]) (seeL c l)) := by
  have hlt := lt_of_block h.blk
  have W2d : ∃ Wz, Wz = (W.alloc (.cells c.cells.toArray 54)).alloc (.cells zArr 54) := ⟨_, rfl⟩
  obtain ⟨Wz, hWz⟩ := W2d
  have hb2 : Below W.heap.size W Wz := by rw [hWz]; exact ((Below.refl _ _).alloc (Nat.le_refl _) _).alloc (by simp) _
  have hC := h.keep (Turns.of_below hb2 (fun _ => False)) (fun h => h) (fun _ _ h => h)
  have hz := heap_alloc_new (W.alloc (.cells c.cells.toArray 54)) (.cells zArr 54)
  rw [World.size_alloc, ← hWz] at hz
  have hcb : Wz.heap[W.heap.size]? = some (.cells c.cells.toArray 54 (0, 0)) := by rw [hWz, heap_alloc_old _ _ (by simp), heap_alloc_new]
  have hrg : Wz.rangeAt W.heap.size 0 c.cells := fun j u hj => by rw [Nat.zero_add, cell_of_row Wz _ j _ _ _ hcb, List.getElem?_toArray]; exact hj
  have hk0 : Wz.cell? ⟨W.heap.size, 0, none⟩ = some (.int .i64 c.peer) := by rw [cell_of_row Wz _ 0 _ _ _ hcb, List.getElem?_toArray]; rfl
  have hsz : W.heap.size + 2 ≤ Wz.heap.size := by rw [hWz]; simp
  have hown : ∀ k, (Value.slice ad l.length cap).ownBlock = some k → k < W.heap.size := fun k hk => own_lt4 h.own hk
  have HOK := Lib.hid h.ok
  have HCK := Lib.hid hc
  have HWz := Lib.hid hWz
  have HC := Lib.hid hC
  have HB2 := Lib.hid hb2
  have HZ := Lib.hid hz
  have HRG := Lib.hid hrg
  have HK0 := Lib.hid hk0
  have HOWN := Lib.hid hown
  obtain ⟨n, hn⟩ : ∃ n, l.length = n := ⟨_, rfl⟩
  have HN := Lib.hid hn
  rw [hn] at hl
  have c0 := cell_of_blk (i := 0) hC.blk
  simp at c0
  rw [hn] at c0
  have harr : c.cells.toArray[0]? = some (.int .i64 c.peer) := rfl
  clear hn hb2 hC hz hcb hrg hk0 hc h hown hWz
  go_enter Try.func26, Try.ntmps26
  go_wp2_with fail
  go_loopw [6] (fun i wr => ∃ k : Nat, k ≤ n ∧ i = .int .i64 k ∧ (∀ d ∈ l.take k, d.peer ≠ c.peer) ∧ Below Wz.heap.size Wz wr) (fun i _ => n - (intOf i).toNat)
  case atStart => exact ⟨0, Nat.zero_le _, rfl, by simp, by show Below Wz.heap.size Wz ((W.alloc (.cells c.cells.toArray 54)).alloc (.cells zArr 54)); rw [← HWz.out]; exact Below.refl _ _⟩
  case round =>
    obtain ⟨k, hk, rfl, hno, hbel⟩ := hrel
    have HNO := Lib.hid hno
    have HB := Lib.hid hbel
    have hC := HC.out.keep (Turns.of_below hbel (fun _ => False)) (fun h => h) (fun _ _ h => h)
    have c1 := cell_of_blk (i := 0) hC.blk
    simp at c1
    rw [HN.out] at c1
    have k1 : wr.cell? ⟨W.heap.size, 0, none⟩ = some (.int .i64 c.peer) := by rw [hbel.cell (p := ⟨W.heap.size, 0, none⟩) (by dsimp only; omega)]; exact HK0.out
    have HCr := Lib.hid hC
    clear hno hbel hC c0
    by_cases hlt2 : k < n
    · have hkl : k < l.length := by rw [HN.out]; exact hlt2
      obtain ⟨g, rfl, _⟩ := own_some HCr.out.own (fun e => by injection e with _ e2 _; omega)
      obtain ⟨m, rfl⟩ : ∃ m, n = m + 1 := ⟨n - 1, by omega⟩
      have hcap : m + 1 ≤ cap := by have := own_le HCr.out.own; rw [← HN.out]; exact this
      have ck : wr.cell? ⟨g, k * 21, none⟩ = some (.int .i64 l[k].peer) := peer_at (Reads.of_own HCr.out.own) HOK.out k hkl
      have i1 : (k : Int) < (m : Int) + 1 := by omega
      obtain ⟨q, hq⟩ : ∃ q, l[k].peer = q := ⟨_, rfl⟩
      rw [hq] at ck
      have HQ := Lib.hid hq
      have HKL := Lib.hid hkl
      clear hq
      by_cases he : q = c.peer
      · subst he
        have hkk := Lib.hid hkl
        go_wp2
        go_quiet (fail)
        have hB1 := below_drewN HB.out nq
        generalize wr.drewN nq = w1 at *
        have hI : idxP c.peer l = some k := idxP_some k hkl HNO.out HQ.out
        have hD : seeL c l = l.take k ++ l.drop (k + 1) ++ [c] := by unfold seeL; rw [hI]; show l.eraseIdx k ++ [c] = _; rw [List.eraseIdx_eq_take_drop_succ]
        have hR : seeR c l = (zCon, false) := by unfold seeR; rw [hI]
        have HD := Lib.hid hD
        have HR := Lib.hid hR
        have hC1 := HC.out.keep (Turns.of_below hB1 (fun _ => False)) (fun h => h) (fun _ _ h => h)
        have own := hC1.own
        have blk := hC1.blk
        rw [HN.out] at own blk
        have cw := cell_of_blk (i := 0) blk
        simp at cw
        have hgr : w1.rangeAt W.heap.size 0 c.cells := fun j u hj => by rw [hB1.cell (p := ⟨W.heap.size, 0 + j, none⟩) (by dsimp only; omega)]; exact HRG.out j u hj
        have hzw := (hB1.block (W.heap.size + 1) (by omega)).trans HZ.out
        have hB3 := HB2.out.trans (hB1.mono HB2.out.size)
        have HO := Lib.hid own
        have HK := Lib.hid blk
        have HM := HN
        have Hgr := Lib.hid hgr
        have Hzw := Lib.hid hzw
        have HB3 := Lib.hid hB3
        have HSZ := Lib.hid (Nat.le_trans hsz hB1.size)
        clear own blk hI hD hR HB hC1 hgr hzw hB3 hB1 HCr c1 ck k1
        go_wp2
        have own := HO.out
        have blk := HK.out
        have TW := Turns.drew (Turns.of_below HB3.out (fun k' => k' = p ∨ (Value.slice (some ⟨g, 0, none⟩) (m + 1) cap).ownBlock = some k'))
        have hwr : IntKind.i64.wrap ((k : Int) + 1) = (k : Int) + 1 := IntWalk.i64_in _ ⟨by omega, by omega⟩
        have hs2 : W.heap.size + 2 ≤ w1.drew.heap.size := HSZ.out
        have cP2 : w1.drew.cell? ⟨p, 0, none⟩ = some (.slice (some ⟨g, 0, none⟩) (m + 1) cap) := cw
        have gr2 : w1.drew.rangeAt W.heap.size 0 c.cells := Hgr.out
        have hrz : w1.drew.heap[W.heap.size + 1]? = some (.cells zArr 54 (0, 0)) := Hzw.out
        have b2 : w1.drew.heap[p]? = some (.cells #[.slice (some ⟨g, 0, none⟩) (m + 1) cap] 61 (0, 0)) := blk
        have ow2 : w1.drew.ownsRow 0 54 21 (.slice (some ⟨g, 0, none⟩) (m + 1) cap) (m + 1) (cons l) := own
        have hp2 := lt_of_block b2
        have hS : ∀ w', Turns (fun _ => False) w1.drew w' → w'.cell? ⟨p, 0, none⟩ = some (.slice (some ⟨g, 0, none⟩) (m + 1) cap) ∧ w'.rangeAt W.heap.size 0 c.cells := fun w' T => ⟨by rw [World.cell?_of_block (T.block p hp2 (fun h => h))]; exact cP2, fun j u hu => by rw [World.cell?_of_block (T.block W.heap.size (by omega) (fun h => h))]; exact gr2 j u hu⟩
        have hS0 := hS _ (Turns.refl _ _)
        have hrdT : ∀ w', Turns (fun _ => False) w1.drew w' → Reads w' (some ⟨g, 0, none⟩) (cons (l.take k)) := fun w' T => by have := (Reads.of_own (T.own ow2 (fun _ _ h => h))).take (k * 21); rw [cons_take HOK.out k (by omega)] at this; exact this
        have hrdD : ∀ w', Turns (fun _ => False) w1.drew w' → Reads w' (cutAt (some ⟨g, 0, none⟩) cap (k + 1) 21) (cons (l.drop (k + 1))) := fun w' T => by have := (Reads.of_own (T.own ow2 (fun _ _ h => h))).cut cap (k + 1) 21 (fun e => by rw [cons_length HOK.out, HM.out]; omega); rw [cons_drop HOK.out (k + 1) (by rw [HM.out]; omega)] at this; exact this
        clear own blk cw gr2
        refine start_ (n := 22) (S := fun w' => w'.cell? ⟨p, 0, none⟩ = some (.slice (some ⟨g, 0, none⟩) (m + 1) cap) ∧ w'.rangeAt W.heap.size 0 c.cells) (ds := [18, 21]) #[false, false, false, false, false, false, false, false, false, false, false, false, false, false, false, false, false, false, false, false, false, false] (by kernel_rfl) rfl rfl (hS0) (fun hHeld => ?_)
        generalize w1.drew = W2 at *
        refine pure_ (i := 0) (N := some 27) (v := ?_) (a' := ?_) #[true, false, false, false, false, false, false, false, false, false, false, false, false, false, false, false, false, false, false, false, false, false] rfl rfl (by kernel_rfl) (fun _ _ _ h => h) (Or.inl ⟨by rfl, ?_⟩) ?_ ?_
        rotate_left
        · intro w'
          go_simp
          with_reducible rfl
        rotate_left
        · simp only [Act.put, List.setIfInBounds_toArray, List.set_cons_zero, List.set_cons_succ]
          rfl
        refine pure_ (i := 1) (N := some 28) (v := ?_) (a' := ?_) #[true, true, false, false, false, false, false, false, false, false, false, false, false, false, false, false, false, false, false, false, false, false] rfl rfl (by kernel_rfl) (fun _ _ _ h => h) (Or.inl ⟨by rfl, ?_⟩) ?_ ?_
        rotate_left
        · intro w'
          go_simp
          with_reducible rfl
        rotate_left
        · simp only [Act.put, List.setIfInBounds_toArray, List.set_cons_zero, List.set_cons_succ]
          rfl
        refine pure_ (i := 2) (N := some 29) (v := ?_) (a' := ?_) #[true, true, true, false, false, false, false, false, false, false, false, false, false, false, false, false, false, false, false, false, false, false] rfl rfl (by kernel_rfl) (fun _ _ _ h => h) (Or.inl ⟨by rfl, ?_⟩) ?_ ?_
        rotate_left
        · intro w'
          go_simp
          with_reducible rfl
        rotate_left
        · simp only [Act.put, List.setIfInBounds_toArray, List.set_cons_zero, List.set_cons_succ]
          rfl
        refine pure_ (i := 3) (N := some 30) (v := ?_) (a' := ?_) #[true, true, true, true, false, false, false, false, false, false, false, false, false, false, false, false, false, false, false, false, false, false] rfl rfl (by kernel_rfl) (fun _ _ _ h => h) (Or.inl ⟨by rfl, ?_⟩) ?_ ?_
        rotate_left
        · intro w'
          go_simp
          with_reducible rfl
        rotate_left
        · simp only [Act.put, List.setIfInBounds_toArray, List.set_cons_zero, List.set_cons_succ]
          rfl
        refine take_ (i := 4) (N := some 31) (v := ?_) (a' := ?_) #[true, true, true, true, true, false, false, false, false, false, false, false, false, false, false, false, false, false, false, false, false, false] rfl rfl (by kernel_rfl) (fun _ _ _ h => h) (Or.inl ⟨by rfl, ?_⟩) hHeld ?_ ?_
        rotate_left
        · intro w' hSw
          (try dsimp only at hSw)
          go_simp
          with_reducible rfl
        rotate_left
        · simp only [Act.put, List.setIfInBounds_toArray, List.set_cons_zero, List.set_cons_succ]
          rfl
        refine pure_ (i := 5) (N := some 32) (v := ?_) (a' := ?_) #[true, true, true, true, true, true, false, false, false, false, false, false, false, false, false, false, false, false, false, false, false, false] rfl rfl (by kernel_rfl) (fun _ _ _ h => h) (Or.inl ⟨by rfl, ?_⟩) ?_ ?_
        rotate_left
        · intro w'
          go_simp
          with_reducible rfl
        rotate_left
        · simp only [Act.put, List.setIfInBounds_toArray, List.set_cons_zero, List.set_cons_succ]
          rfl
        refine pure_ (i := 6) (N := some 33) (v := .slice (some ⟨g, 0, none⟩) k cap) (a' := ?_) #[true, true, true, true, true, true, true, false, false, false, false, false, false, false, false, false, false, false, false, false, false, false] rfl rfl (by kernel_rfl) (fun _ _ _ h => h) (Or.inl ⟨by rfl, ?_⟩) ?_ ?_
        · intro w'
          exact exec_cut_hi w' 48 54 (.tmp 31) (.tmp 32) rfl 21 Try.underlying48 info54 _ (m + 1) cap k rfl rfl (by omega)
        rotate_left
        · simp only [Act.put, List.setIfInBounds_toArray, List.set_cons_zero, List.set_cons_succ]
          rfl
        refine pure_ (i := 8) (N := some 35) (v := ?_) (a' := ?_) #[true, true, true, true, true, true, true, false, true, false, false, false, false, false, false, false, false, false, false, false, false, false] rfl rfl (by kernel_rfl) (fun _ _ _ h => h) (Or.inl ⟨by rfl, ?_⟩) ?_ ?_
        rotate_left
        · intro w'
          go_simp
          with_reducible rfl
        rotate_left
        · simp only [Act.put, List.setIfInBounds_toArray, List.set_cons_zero, List.set_cons_succ]
          rfl
        refine pure_ (i := 9) (N := some 36) (v := ?_) (a' := ?_) #[true, true, true, true, true, true, true, false, true, true, false, false, false, false, false, false, false, false, false, false, false, false] rfl rfl (by kernel_rfl) (fun _ _ _ h => h) (Or.inl ⟨by rfl, ?_⟩) ?_ ?_
        rotate_left
        · intro w'
          go_simp
          with_reducible rfl
        rotate_left
        · simp only [Act.put, List.setIfInBounds_toArray, List.set_cons_zero, List.set_cons_succ]
          rfl
        refine pure_ (i := 10) (N := some 37) (v := ?_) (a' := ?_) #[true, true, true, true, true, true, true, false, true, true, true, false, false, false, false, false, false, false, false, false, false, false] rfl rfl (by kernel_rfl) (fun _ _ _ h => h) (Or.inl ⟨by rfl, ?_⟩) ?_ ?_
        rotate_left
        · intro w'
          go_simp
          with_reducible rfl
        rotate_left
        · simp only [Act.put, List.setIfInBounds_toArray, List.set_cons_zero, List.set_cons_succ]
          rfl
        refine take_ (i := 11) (N := some 38) (v := ?_) (a' := ?_) #[true, true, true, true, true, true, true, false, true, true, true, true, false, false, false, false, false, false, false, false, false, false] rfl rfl (by kernel_rfl) (fun _ _ _ h => h) (Or.inl ⟨by rfl, ?_⟩) hHeld ?_ ?_
        rotate_left
        · intro w' hSw
          (try dsimp only at hSw)
          go_simp
          with_reducible rfl
        rotate_left
        · simp only [Act.put, List.setIfInBounds_toArray, List.set_cons_zero, List.set_cons_succ]
          rfl
        refine pure_ (i := 12) (N := some 39) (v := ?_) (a' := ?_) #[true, true, true, true, true, true, true, false, true, true, true, true, true, false, false, false, false, false, false, false, false, false] rfl rfl (by kernel_rfl) (fun _ _ _ h => h) (Or.inl ⟨by rfl, ?_⟩) ?_ ?_
        rotate_left
        · intro w'
          go_simp
          with_reducible rfl
        rotate_left
        · simp only [Act.put, List.setIfInBounds_toArray, List.set_cons_zero, List.set_cons_succ]
          rfl
        refine pure_ (i := 13) (N := some 40) (v := .int .i64 ((k : Int) + 1)) (a' := ?_) #[true, true, true, true, true, true, true, false, true, true, true, true, true, true, false, false, false, false, false, false, false, false] rfl rfl (by kernel_rfl) (fun _ _ _ h => h) (Or.inl ⟨by rfl, ?_⟩) ?_ ?_
        · intro w'
          go_simp
        rotate_left
        · simp only [Act.put, List.setIfInBounds_toArray, List.set_cons_zero, List.set_cons_succ]
          rfl
        refine pure_ (i := 14) (N := some 41) (v := .slice (cutAt (some ⟨g, 0, none⟩) cap (k + 1) 21) (m + 1 - (k + 1)) (cap - (k + 1))) (a' := ?_) #[true, true, true, true, true, true, true, false, true, true, true, true, true, true, true, false, false, false, false, false, false, false] rfl rfl (by kernel_rfl) (fun _ _ _ h => h) (Or.inl ⟨by rfl, ?_⟩) ?_ ?_
        · intro w'
          exact exec_cut_lo w' 48 54 (.tmp 38) (.tmp 40) rfl 21 Try.underlying48 info54 _ (m + 1) cap (k + 1) rfl rfl (by omega)
        rotate_left
        · simp only [Act.put, List.setIfInBounds_toArray, List.set_cons_zero, List.set_cons_succ]
          rfl
        refine take_ (i := 16) (N := some 43) (v := .agg c.cells.toArray) (a' := ?_) #[true, true, true, true, true, true, true, false, true, true, true, true, true, true, true, false, true, false, false, false, false, false] rfl rfl (by kernel_rfl) (fun _ _ _ h => h) (yieldsIf_load_mid (by rfl) _ _ rfl _ _ rfl c.cells _ (fun w' s => s.2) Try.underlying54 rfl (by rw [Con.len HCK.out]; exact info54)) hHeld ?_ ?_
        rotate_left
        · simp only [Act.put, List.setIfInBounds_toArray, List.set_cons_zero, List.set_cons_succ]
          rfl
        refine join_ (σ := Value × Value × Nat) 4 #[true, true, true, true, true, true, true, true, true, true, true, true, true, true, true, true, true, true, false, false, false, false] (fun s => [(34, s.1), (42, s.2.1), (44, Value.slice (some ⟨s.2.2, 0, none⟩) 1 1)]) (fun s w' => JF W2 w' c.cells (0 + k + (m + 1 - (k + 1))) ([] ++ l.take k ++ l.drop (k + 1)) s.2.1 s.2.2) ?_ ?_
        · rintro ⟨v7, v8, b⟩ w8 hJ
          refine norm_ (a' := ?_) ?_ ?_
          rotate_left
          · simp only [putAll, Act.put, List.setIfInBounds_toArray, List.set_cons_zero, List.set_cons_succ]
            rfl
          have hJo := hJ.own
          have hkm : 0 + k + (m + 1 - (k + 1)) = m := by omega
          rw [hkm, List.nil_append] at hJo
          refine last_ (i := 18) (N := some 45) #[true, true, true, true, true, true, true, true, true, true, true, true, true, true, true, true, true, true, true, false, false, false] rfl rfl (by kernel_rfl) (by decide) (fun K hK => ?_)
          rw [if_pos (by rfl)]
          refine append_nil_row (some 45) rfl (.tmp 42) (.tmp 44) rfl 1 [c] (fun d hd => by simp only [List.mem_cons, List.not_mem_nil, or_false] at hd; subst hd; exact HCK.out) v8 rfl m (l.take k ++ l.drop (k + 1)) hJo (some ⟨b, 0, none⟩) 1 rfl rfl (fun j u hu => ⟨b, 0, rfl, lt_of_block hJ.blk, by rw [Nat.zero_add, cell_of_row w8 _ j _ _ _ hJ.blk, List.getElem?_toArray]; simpa [cons] using hu⟩) (by omega) (fun v9 w9 ow9 hg9 hf9 => ?_)
          obtain ⟨ad9, cap9, rfl⟩ := slice_of_own ow9
          refine hK.out _ _ ?_
          clear hK K
          refine norm_ (a' := ?_) ?_ ?_
          rotate_left
          · (try unfold Act.put); simp only [Act.put, List.setIfInBounds_toArray, List.set_cons_zero, List.set_cons_succ]
            rfl
          refine pure_ (i := 19) (N := some 46) (v := ?_) (a' := ?_) #[true, true, true, true, true, true, true, true, true, true, true, true, true, true, true, true, true, true, true, true, false, false] rfl rfl (by kernel_rfl) (fun _ _ _ h => h) (Or.inl ⟨by rfl, ?_⟩) ?_ ?_
          rotate_left
          · intro w'
            go_simp
            with_reducible rfl
          rotate_left
          · simp only [Act.put, List.setIfInBounds_toArray, List.set_cons_zero, List.set_cons_succ]
            rfl
          refine pure_ (i := 20) (N := some 47) (v := ?_) (a' := ?_) #[true, true, true, true, true, true, true, true, true, true, true, true, true, true, true, true, true, true, true, true, true, false] rfl rfl (by kernel_rfl) (fun _ _ _ h => h) (Or.inl ⟨by rfl, ?_⟩) ?_ ?_
          rotate_left
          · intro w'
            go_simp
            with_reducible rfl
          rotate_left
          · simp only [Act.put, List.setIfInBounds_toArray, List.set_cons_zero, List.set_cons_succ]
            rfl
          refine last_ (i := 21) (N := none) #[true, true, true, true, true, true, true, true, true, true, true, true, true, true, true, true, true, true, true, true, true, true] rfl rfl (by kernel_rfl) (by decide) (fun K hK => ?_)
          have b8 := hJ.T.keep b2 (fun h => h)
          have hne8 : v8.ownBlock ≠ some p := fun e => by have := hJ.new p e; omega
          have b9 := hg9.keep b8 hne8
          have c9 := cell_of_blk (i := 0) b9
          have f9 := free_of_blk (i := 0) b9
          simp at c9
          have hn9 := Fresh.new_then hf9 hJ.new hJ.T.size
          have T9 := Turns.then_new hJ.T hg9 hJ.new
          have ow10 := ownsRow_setCell_other (a := ⟨p, 0, none⟩) ow9 (own_ne ow9 b9 (by decide)) (.slice ad9 (m + 1) cap9)
          have b10 := blk_setCell b9 0 (.slice ad9 (m + 1) cap9)
          simp at b10
          have T10 := Turns.setCell (F := fun k' => k' = p ∨ (Value.slice (some ⟨g, 0, none⟩) (m + 1) cap).ownBlock = some k') (p := ⟨p, 0, none⟩) (TW.trans (T9.mono (fun _ _ h => h.elim))) (.inr (.inl rfl)) (.slice ad9 (m + 1) cap9)
          have hel : (l.take k ++ l.drop (k + 1) ++ [c]).length = m + 1 := by rw [List.length_append, List.length_append, List.length_take, List.length_drop, HM.out]; simp; omega
          have r10 := (Below.heap_setCell w9 ⟨p, 0, none⟩ (.slice ad9 (m + 1) cap9) (W.heap.size + 1) (by dsimp only; omega)).trans (T9.keep hrz (fun h => h))
          have HF := Lib.hid (show RO (w9.setCell ⟨p, 0, none⟩ (.slice ad9 (m + 1) cap9)) p ad9 cap9 (l.take k ++ l.drop (k + 1) ++ [c]) from ⟨by rw [hel]; exact b10, by rw [hel]; exact ow10, ((HOK.out.take k).append (HOK.out.drop (k + 1))).append (fun d hd => by simp only [List.mem_cons, List.not_mem_nil, or_false] at hd; subst hd; exact HCK.out)⟩)
          have HT := Lib.hid T10
          have HNW := Lib.hid hn9
          have HEL := Lib.hid hel
          have Hr10 := Lib.hid r10
          have HS2 := Lib.hid hs2
          clear b2 b8 b9 b10 ow2 ow9 ow10 hg9 hf9 T9 T10 TW hn9 hS hS0 hrdT hrdD hJ hJo hel r10 hs2 hrz
          go_simp
          refine hK.out _ _ ?_
          clear hK K
          refine done_ (by kernel_rfl) ?_
          go_wp2_with ((refine wpList_store_row _ rfl 54 (.tmp 4) (.tmp 48) rfl (W.heap.size + 1) rfl zArr rfl 54 zArr Hr10.out info54 rfl zArr_one ?_))
          rw [HD.out, HR.out]
          have hld := load54 _ (W.heap.size + 1) zArr (setRow_heap _ _ _ zArr 54 (0, 0) Hr10.out) rfl
          exact bodyPost_ret (v := .tuple #[.agg zArr, .bool false]) (by rw [results_cell_tmp (fn := Try.f26) (p := 4) (ty := 54) (u := 5) rfl]; show ((loadVar 54 ⟨W.heap.size + 1, 0, none⟩).run Try.prog _).andThen _ = _; rw [hld]; rfl) rfl (rsee_fin (W.heap.size + 1) zArr (Nat.le_succ _) hlt HF.out HT.out (fun k' hk' => .inr (by have := HNW.out k' (by rw [← HEL.out]; exact hk'); have := HS2.out; omega)) (fun k' hk' => by have := HNW.out k' (by rw [← HEL.out]; exact hk'); have := HS2.out; omega))
        · intro hcont
          have J := J0.start W2
          refine two_ (i := 7) (j := 17) (Ni := some 34) (Nj := some 44) #[true, true, true, true, true, true, true, true, true, true, true, true, true, true, true, false, true, false, false, false, false, false] #[true, true, true, true, true, true, true, false, true, true, true, true, true, true, true, false, true, true, false, false, false, false] rfl rfl rfl rfl (by kernel_rfl) (by decide) (by decide) (fun K hK => ?_) (fun K hK => ?_)
          · skip
            rw [if_pos (by rfl)]
            refine append_nil_row (some 34) rfl (.const (.slice none 0 0)) (.tmp 33) rfl k (l.take k) (HOK.out.take k) (.slice none 0 0) rfl 0 [] (World.ownsRow_nil _ _ _ _) (some ⟨g, 0, none⟩) cap rfl (by rw [List.length_take, HM.out]; omega) (hrdT _ J.T) (by omega) (fun v7 w7 ow7 hg7 hf7 => ?_)
            replace J := J.app ow7 hg7 hf7
            refine hK.out _ _ (hS _ J.T) (fun hHeld => ?_)
            clear hK K
            refine norm_ (a' := ?_) ?_ ?_
            rotate_left
            · (try unfold Act.put); simp only [Act.put, List.setIfInBounds_toArray, List.set_cons_zero, List.set_cons_succ]
              rfl
            refine two_ (i := 15) (j := 17) (Ni := some 42) (Nj := some 44) #[true, true, true, true, true, true, true, true, true, true, true, true, true, true, true, true, true, false, false, false, false, false] #[true, true, true, true, true, true, true, true, true, true, true, true, true, true, true, false, true, true, false, false, false, false] rfl rfl rfl rfl (by kernel_rfl) (by decide) (by decide) (fun K hK => ?_) (fun K hK => ?_)
            · skip
              rw [if_pos (by rfl)]
              refine append_nil_row (some 42) rfl (.tmp 34) (.tmp 41) rfl (m + 1 - (k + 1)) (l.drop (k + 1)) (HOK.out.drop (k + 1)) v7 rfl (0 + k) ([] ++ l.take k) J.own (cutAt (some ⟨g, 0, none⟩) cap (k + 1) 21) (cap - (k + 1)) rfl (rest_len HM.out) (hrdD _ J.T) (by omega) (fun v8 w8 ow8 hg8 hf8 => ?_)
              replace J := J.app ow8 hg8 hf8
              refine hK.out _ _ (hS _ J.T) (fun hHeld => ?_)
              clear hK K
              refine norm_ (a' := ?_) ?_ ?_
              rotate_left
              · (try unfold Act.put); simp only [Act.put, List.setIfInBounds_toArray, List.set_cons_zero, List.set_cons_succ]
                rfl
              refine one_ (i := 17) (N := some 44) #[true, true, true, true, true, true, true, true, true, true, true, true, true, true, true, true, true, true, false, false, false, false] rfl rfl (by kernel_rfl) (by decide) (fun K hK => ?_)
              refine value_ (by rfl) rfl (exec_buildOne _ 48 (.tmp 43) rfl 54 21 _ c.cells.toArray rfl Try.underlying48 info54 (zero54 _) (by simp [Con.len HCK.out]) (by decide) (by decide)) ?_
              have J := J.box c.cells
              refine hK.out _ _ (hS _ J.T) (fun hHeld => ?_)
              clear hK K
              refine norm_ (a' := ?_) ?_ ?_
              rotate_left
              · (try unfold Act.put); simp only [Act.put, List.setIfInBounds_toArray, List.set_cons_zero, List.set_cons_succ]
                rfl
              have hc := hcont (v7, v8, w8.heap.size) _ J
              simp only [putAll, Act.put, List.setIfInBounds_toArray, List.set_cons_zero, List.set_cons_succ] at hc
              exact hc
            · skip
              refine value_ (by rfl) rfl (exec_buildOne _ 48 (.tmp 43) rfl 54 21 _ c.cells.toArray rfl Try.underlying48 info54 (zero54 _) (by simp [Con.len HCK.out]) (by decide) (by decide)) ?_
              have J := J.box c.cells
              refine hK.out _ _ (hS _ J.T) (fun hHeld => ?_)
              clear hK K
              refine norm_ (a' := ?_) ?_ ?_
              rotate_left
              · (try unfold Act.put); simp only [Act.put, List.setIfInBounds_toArray, List.set_cons_zero, List.set_cons_succ]
                rfl
              refine one_ (i := 15) (N := some 42) #[true, true, true, true, true, true, true, true, true, true, true, true, true, true, true, true, true, true, false, false, false, false] rfl rfl (by kernel_rfl) (by decide) (fun K hK => ?_)
              rw [if_pos (by rfl)]
              refine append_nil_row (some 42) rfl (.tmp 34) (.tmp 41) rfl (m + 1 - (k + 1)) (l.drop (k + 1)) (HOK.out.drop (k + 1)) v7 rfl (0 + k) ([] ++ l.take k) J.own (cutAt (some ⟨g, 0, none⟩) cap (k + 1) 21) (cap - (k + 1)) rfl (rest_len HM.out) (hrdD _ J.T) (by omega) (fun v8 w8 ow8 hg8 hf8 => ?_)
              replace J := J.app ow8 hg8 hf8
              refine hK.out _ _ (hS _ J.T) (fun hHeld => ?_)
              clear hK K
              refine norm_ (a' := ?_) ?_ ?_
              rotate_left
              · (try unfold Act.put); simp only [Act.put, List.setIfInBounds_toArray, List.set_cons_zero, List.set_cons_succ]
                rfl
              have hc := hcont (v7, v8, w7.heap.size) _ J
              simp only [putAll, Act.put, List.setIfInBounds_toArray, List.set_cons_zero, List.set_cons_succ] at hc
              exact hc
          · skip
            refine value_ (by rfl) rfl (exec_buildOne _ 48 (.tmp 43) rfl 54 21 _ c.cells.toArray rfl Try.underlying48 info54 (zero54 _) (by simp [Con.len HCK.out]) (by decide) (by decide)) ?_
            have J := J.box c.cells
            refine hK.out _ _ (hS _ J.T) (fun hHeld => ?_)
            clear hK K
            refine norm_ (a' := ?_) ?_ ?_
            rotate_left
            · (try unfold Act.put); simp only [Act.put, List.setIfInBounds_toArray, List.set_cons_zero, List.set_cons_succ]
              rfl
            refine one_ (i := 7) (N := some 34) #[true, true, true, true, true, true, true, true, true, true, true, true, true, true, true, false, true, true, false, false, false, false] rfl rfl (by kernel_rfl) (by decide) (fun K hK => ?_)
            rw [if_pos (by rfl)]
            refine append_nil_row (some 34) rfl (.const (.slice none 0 0)) (.tmp 33) rfl k (l.take k) (HOK.out.take k) (.slice none 0 0) rfl 0 [] (World.ownsRow_nil _ _ _ _) (some ⟨g, 0, none⟩) cap rfl (by rw [List.length_take, HM.out]; omega) (hrdT _ J.T) (by omega) (fun v7 w7 ow7 hg7 hf7 => ?_)
            replace J := J.app ow7 hg7 hf7
            refine hK.out _ _ (hS _ J.T) (fun hHeld => ?_)
            clear hK K
            refine norm_ (a' := ?_) ?_ ?_
            rotate_left
            · (try unfold Act.put); simp only [Act.put, List.setIfInBounds_toArray, List.set_cons_zero, List.set_cons_succ]
              rfl
            refine one_ (i := 15) (N := some 42) #[true, true, true, true, true, true, true, true, true, true, true, true, true, true, true, true, true, true, false, false, false, false] rfl rfl (by kernel_rfl) (by decide) (fun K hK => ?_)
            rw [if_pos (by rfl)]
            refine append_nil_row (some 42) rfl (.tmp 34) (.tmp 41) rfl (m + 1 - (k + 1)) (l.drop (k + 1)) (HOK.out.drop (k + 1)) v7 rfl (0 + k) ([] ++ l.take k) J.own (cutAt (some ⟨g, 0, none⟩) cap (k + 1) 21) (cap - (k + 1)) rfl (rest_len HM.out) (hrdD _ J.T) (by omega) (fun v8 w8 ow8 hg8 hf8 => ?_)
            replace J := J.app ow8 hg8 hf8
            refine hK.out _ _ (hS _ J.T) (fun hHeld => ?_)
            clear hK K
            refine norm_ (a' := ?_) ?_ ?_
            rotate_left
            · (try unfold Act.put); simp only [Act.put, List.setIfInBounds_toArray, List.set_cons_zero, List.set_cons_succ]
              rfl
            have hc := hcont (v7, v8, W2.heap.size) _ J
            simp only [putAll, Act.put, List.setIfInBounds_toArray, List.set_cons_zero, List.set_cons_succ] at hc
            exact hc
      · go_wp2
        go_quiet (fail)
        go_wp2
        go_roundw
        case rel =>
          refine ⟨k + 1, by omega, by go_num, ?_, ?_⟩
          · intro d hd
            rw [List.take_succ_eq_append_getElem HKL.out] at hd
            rcases List.mem_append.1 hd with hd | hd
            · exact HNO.out d hd
            · simp only [List.mem_cons, List.not_mem_nil, or_false] at hd
              subst hd
              rw [HQ.out]; exact he
          · exact below_drewN HB.out _
        case measure => simp [intOf]; omega
    · have hkn : k = n := by omega
      subst hkn
      have hI : idxP c.peer l = none := idxP_none (by have := HNO.out; rw [List.take_of_length_le (by rw [HN.out]; exact Nat.le_refl _)] at this; exact this)
      have own := HCr.out.own
      have blk := HCr.out.blk
      rw [HN.out] at own blk
      have hgr : wr.rangeAt W.heap.size 0 c.cells := fun j u hj => by rw [HB.out.cell (p := ⟨W.heap.size, 0 + j, none⟩) (by dsimp only; omega)]; exact HRG.out j u hj
      have hzw := (HB.out.block (W.heap.size + 1) (by omega)).trans HZ.out
      have hB3 := HB2.out.trans (HB.out.mono HB2.out.size)
      have HO := Lib.hid own
      have HK := Lib.hid blk
      have Hgr := Lib.hid hgr
      have Hzw := Lib.hid hzw
      have HB3 := Lib.hid hB3
      have HSZ := Lib.hid (Nat.le_trans hsz HB.out.size)
      clear own blk hgr hzw hB3
      by_cases h3 : k < 3
      · have hD : seeL c l = l ++ [c] := by unfold seeL; rw [hI]; exact if_neg (by rw [HN.out]; omega)
        have hR : seeR c l = (zCon, false) := by unfold seeR; rw [hI]; exact if_neg (by rw [HN.out]; omega)
        have HD := Lib.hid hD
        have HR := Lib.hid hR
        clear hD hR hI HB
        go_wp2
        have own := HO.out
        have blk := HK.out
        have TW := Turns.drew (Turns.of_below HB3.out (fun k' => k' = p ∨ (Value.slice ad k cap).ownBlock = some k'))
        have hs2 : W.heap.size + 2 ≤ wr.drew.heap.size := HSZ.out
        have hrz : wr.drew.heap[W.heap.size + 1]? = some (.cells zArr 54 (0, 0)) := Hzw.out
        have b2 : wr.drew.heap[p]? = some (.cells #[.slice ad k cap] 61 (0, 0)) := blk
        have ow2 : wr.drew.ownsRow 0 54 21 (.slice ad k cap) k (cons l) := own
        have hp2 := lt_of_block b2
        have hS0 : wr.drew.cell? ⟨p, 0, none⟩ = some (.slice ad k cap) ∧ wr.drew.rangeAt W.heap.size 0 c.cells := ⟨c1, Hgr.out⟩
        clear own blk
        refine start_ (n := 11) (S := fun w' => w'.cell? ⟨p, 0, none⟩ = some (.slice ad k cap) ∧ w'.rangeAt W.heap.size 0 c.cells) (ds := [7, 10]) #[false, false, false, false, false, false, false, false, false, false, false] (by kernel_rfl) rfl rfl (hS0) (fun hHeld => ?_)
        generalize wr.drew = W2 at *
        refine pure_ (i := 0) (N := some 55) (v := ?_) (a' := ?_) #[true, false, false, false, false, false, false, false, false, false, false] rfl rfl (by kernel_rfl) (fun _ _ _ h => h) (Or.inl ⟨by rfl, ?_⟩) ?_ ?_
        rotate_left
        · intro w'
          go_simp
          with_reducible rfl
        rotate_left
        · simp only [Act.put, List.setIfInBounds_toArray, List.set_cons_zero, List.set_cons_succ]
          rfl
        refine pure_ (i := 1) (N := some 56) (v := ?_) (a' := ?_) #[true, true, false, false, false, false, false, false, false, false, false] rfl rfl (by kernel_rfl) (fun _ _ _ h => h) (Or.inl ⟨by rfl, ?_⟩) ?_ ?_
        rotate_left
        · intro w'
          go_simp
          with_reducible rfl
        rotate_left
        · simp only [Act.put, List.setIfInBounds_toArray, List.set_cons_zero, List.set_cons_succ]
          rfl
        refine pure_ (i := 2) (N := some 57) (v := ?_) (a' := ?_) #[true, true, true, false, false, false, false, false, false, false, false] rfl rfl (by kernel_rfl) (fun _ _ _ h => h) (Or.inl ⟨by rfl, ?_⟩) ?_ ?_
        rotate_left
        · intro w'
          go_simp
          with_reducible rfl
        rotate_left
        · simp only [Act.put, List.setIfInBounds_toArray, List.set_cons_zero, List.set_cons_succ]
          rfl
        refine pure_ (i := 3) (N := some 58) (v := ?_) (a' := ?_) #[true, true, true, true, false, false, false, false, false, false, false] rfl rfl (by kernel_rfl) (fun _ _ _ h => h) (Or.inl ⟨by rfl, ?_⟩) ?_ ?_
        rotate_left
        · intro w'
          go_simp
          with_reducible rfl
        rotate_left
        · simp only [Act.put, List.setIfInBounds_toArray, List.set_cons_zero, List.set_cons_succ]
          rfl
        refine take_ (i := 4) (N := some 59) (v := ?_) (a' := ?_) #[true, true, true, true, true, false, false, false, false, false, false] rfl rfl (by kernel_rfl) (fun _ _ _ h => h) (Or.inl ⟨by rfl, ?_⟩) hHeld ?_ ?_
        rotate_left
        · intro w' hSw
          (try dsimp only at hSw)
          go_simp
          with_reducible rfl
        rotate_left
        · simp only [Act.put, List.setIfInBounds_toArray, List.set_cons_zero, List.set_cons_succ]
          rfl
        refine take_ (i := 5) (N := some 60) (v := .agg c.cells.toArray) (a' := ?_) #[true, true, true, true, true, true, false, false, false, false, false] rfl rfl (by kernel_rfl) (fun _ _ _ h => h) (yieldsIf_load_mid (by rfl) _ _ rfl _ _ rfl c.cells _ (fun w' s => s.2) Try.underlying54 rfl (by rw [Con.len HCK.out]; exact info54)) hHeld ?_ ?_
        rotate_left
        · simp only [Act.put, List.setIfInBounds_toArray, List.set_cons_zero, List.set_cons_succ]
          rfl
        refine one_ (i := 6) (N := some 61) #[true, true, true, true, true, true, true, false, false, false, false] rfl rfl (by kernel_rfl) (by decide) (fun K hK => ?_)
        refine value_ (by rfl) rfl (exec_buildOne _ 48 (.tmp 60) rfl 54 21 _ c.cells.toArray rfl Try.underlying48 info54 (zero54 _) (by simp [Con.len HCK.out]) (by decide) (by decide)) ?_
        refine hK.out _ _ ⟨?_, ?_⟩ (fun hHeld => ?_)
        · rw [World.cell?_alloc_some _ _ _ (by rw [hHeld.1]; rfl)]; exact hHeld.1
        · exact World.rangeAt_alloc hHeld.2 _
        have ow6 := ow2.alloc (.cells c.cells.toArray 54)
        have b6 := heap_alloc_old W2 (.cells c.cells.toArray 54) hp2
        rw [b2] at b6
        have r6 := heap_alloc_old W2 (.cells c.cells.toArray 54) (lt_of_block hrz)
        rw [hrz] at r6
        have g6 := heap_alloc_new W2 (.cells c.cells.toArray 54)
        have TW6 := TW.alloc (.cells c.cells.toArray 54)
        clear hK K
        refine norm_ (a' := ?_) ?_ ?_
        rotate_left
        · (try unfold Act.put); simp only [Act.put, List.setIfInBounds_toArray, List.set_cons_zero, List.set_cons_succ]
          rfl
        refine last_ (i := 7) (N := some 62) #[true, true, true, true, true, true, true, true, false, false, false] rfl rfl (by kernel_rfl) (by decide) (fun K hK => ?_)
        rw [if_pos (by rfl)]
        refine append_nil_row (some 62) rfl (.tmp 59) (.tmp 61) rfl 1 [c] (fun d hd => by simp only [List.mem_cons, List.not_mem_nil, or_false] at hd; subst hd; exact HCK.out) (.slice ad k cap) rfl k l ow6 (some ⟨W2.heap.size, 0, none⟩) 1 rfl rfl (fun j u hu => ⟨W2.heap.size, 0, rfl, lt_of_block g6, by rw [Nat.zero_add, cell_of_row _ _ j _ _ _ g6, List.getElem?_toArray]; simpa [cons] using hu⟩) (by omega) (fun v9 w9 ow9 hg9 hf9 => ?_)
        obtain ⟨ad9, cap9, rfl⟩ := slice_of_own ow9
        refine hK.out _ _ ?_
        clear hK K
        refine norm_ (a' := ?_) ?_ ?_
        rotate_left
        · (try unfold Act.put); simp only [Act.put, List.setIfInBounds_toArray, List.set_cons_zero, List.set_cons_succ]
          rfl
        refine pure_ (i := 8) (N := some 63) (v := ?_) (a' := ?_) #[true, true, true, true, true, true, true, true, true, false, false] rfl rfl (by kernel_rfl) (fun _ _ _ h => h) (Or.inl ⟨by rfl, ?_⟩) ?_ ?_
        rotate_left
        · intro w'
          go_simp
          with_reducible rfl
        rotate_left
        · simp only [Act.put, List.setIfInBounds_toArray, List.set_cons_zero, List.set_cons_succ]
          rfl
        refine pure_ (i := 9) (N := some 64) (v := ?_) (a' := ?_) #[true, true, true, true, true, true, true, true, true, true, false] rfl rfl (by kernel_rfl) (fun _ _ _ h => h) (Or.inl ⟨by rfl, ?_⟩) ?_ ?_
        rotate_left
        · intro w'
          go_simp
          with_reducible rfl
        rotate_left
        · simp only [Act.put, List.setIfInBounds_toArray, List.set_cons_zero, List.set_cons_succ]
          rfl
        refine last_ (i := 10) (N := none) #[true, true, true, true, true, true, true, true, true, true, true] rfl rfl (by kernel_rfl) (by decide) (fun K hK => ?_)
        have b9 := hg9.keep b6 (own_ne ow6 b6 (by decide))
        have c9 := cell_of_blk (i := 0) b9
        have f9 := free_of_blk (i := 0) b9
        simp at c9
        have ow10 := ownsRow_setCell_other (a := ⟨p, 0, none⟩) ow9 (own_ne ow9 b9 (by decide)) (.slice ad9 (k + 1) cap9)
        have b10 := blk_setCell b9 0 (.slice ad9 (k + 1) cap9)
        simp at b10
        have T10 := Turns.setCell (F := fun k' => k' = p ∨ (Value.slice ad k cap).ownBlock = some k') (p := ⟨p, 0, none⟩) (TW6.trans (hg9.mono (fun _ _ h => .inr h))) (.inr (.inl rfl)) (.slice ad9 (k + 1) cap9)
        have hel : (l ++ [c]).length = k + 1 := by rw [List.length_append, HN.out]; rfl
        have r9 := hg9.keep r6 (fun e => by have := HOWN.out (W.heap.size + 1) (by rw [HN.out]; exact e); omega)
        have r10 := (Below.heap_setCell w9 ⟨p, 0, none⟩ (.slice ad9 (k + 1) cap9) (W.heap.size + 1) (by dsimp only; omega)).trans r9
        have hn9 : ∀ k', (Value.slice ad9 (k + 1) cap9).ownBlock = some k' → (Value.slice ad k cap).ownBlock = some k' ∨ W.heap.size + 2 ≤ k' := fun k' hk' => by rcases hf9 with hf | ⟨q, hf, hq⟩; exact .inl (by rw [← hf]; exact hk'); exact .inr (by rw [hf] at hk'; injection hk' with hk'; rw [World.size_alloc] at hq; omega)
        have HF := Lib.hid (show RO (w9.setCell ⟨p, 0, none⟩ (.slice ad9 (k + 1) cap9)) p ad9 cap9 (l ++ [c]) from ⟨by rw [hel]; exact b10, by rw [hel]; exact ow10, HOK.out.append (fun d hd => by simp only [List.mem_cons, List.not_mem_nil, or_false] at hd; subst hd; exact HCK.out)⟩)
        have HT := Lib.hid T10
        have HNW := Lib.hid hn9
        have HEL := Lib.hid hel
        have Hr10 := Lib.hid r10
        clear b2 b6 b9 b10 ow2 ow6 ow9 ow10 hg9 hf9 T10 TW TW6 hn9 hS0 hel r6 r9 r10 g6 hs2 hrz hHeld
        go_simp
        refine hK.out _ _ ?_
        clear hK K
        refine done_ (by kernel_rfl) ?_
        go_wp2_with ((refine wpList_store_row _ rfl 54 (.tmp 4) (.tmp 65) rfl (W.heap.size + 1) rfl zArr rfl 54 zArr Hr10.out info54 rfl zArr_one ?_))
        rw [HD.out, HR.out]
        have hld := load54 _ (W.heap.size + 1) zArr (setRow_heap _ _ _ zArr 54 (0, 0) Hr10.out) rfl
        have HLK := HN.out
        exact bodyPost_ret (v := .tuple #[.agg zArr, .bool false]) (by rw [results_cell_tmp (fn := Try.f26) (p := 4) (ty := 54) (u := 5) rfl]; show ((loadVar 54 ⟨W.heap.size + 1, 0, none⟩).run Try.prog _).andThen _ = _; rw [hld]; rfl) rfl (rsee_fin (W.heap.size + 1) zArr (Nat.le_succ _) hlt HF.out (by rw [HLK]; exact HT.out) (fun k' hk' => by rcases HNW.out k' (by rw [← HEL.out]; exact hk') with h | h; exact .inl (by rw [HLK]; exact h); exact .inr (by omega)) (fun k' hk' => by rcases HNW.out k' (by rw [← HEL.out]; exact hk') with h | h; have := HOWN.out k' (by rw [HLK]; exact h); omega; omega))
      · obtain ⟨d, l1, rfl⟩ : ∃ d l1, l = d :: l1 := by
          cases l with
          | nil => have := HN.out; simp at this; omega
          | cons d l1 => exact ⟨d, l1, rfl⟩
        have hD : seeL c (d :: l1) = d :: l1 := by unfold seeL; rw [hI]; exact if_pos (by rw [HN.out]; omega)
        have hR : seeR c (d :: l1) = (d, true) := by unfold seeR; rw [hI]; exact if_pos (by rw [HN.out]; omega)
        have HD := Lib.hid hD
        have HR := Lib.hid hR
        have hDK := HOK.out d (by simp)
        have HDK := Lib.hid hDK
        obtain ⟨g, rfl, _⟩ := own_some HO.out (fun e => by injection e with _ e2 _; omega)
        have hG : wr.rangeAt g 0 d.cells := range_at (Reads.of_own HO.out) HOK.out 0 (by simp)
        have HG := Lib.hid hG
        have hs1 : d.cells.toArray.size = 21 := by rw [List.size_toArray, Con.len hDK]
        have HS2 := Lib.hid (show (Try.prog.info? 54).map (·.size) = some d.cells.toArray.size by rw [hs1]; exact info54)
        have HS3 := Lib.hid (show zArr.size = d.cells.toArray.size by rw [hs1]; rfl)
        have HS4 := Lib.hid (show d.cells.toArray.all (·.oneCell') = true by rw [List.all_toArray, List.all_eq_true]; intro u hu; exact Con.one hDK u hu)
        have HS1 := Lib.hid hs1
        have hk0 : 0 < k := by omega
        clear hD hR hI hs1 hDK hG HB
        go_wp2_with (first
          | (refine wpList_load_mid rfl 54 (.tmp 70) rfl g 0 rfl d.cells _ HG.out Try.underlying54 rfl (by rw [Con.len HDK.out]; exact info54) ?_)
          | (refine wpList_store_row _ rfl 54 (.tmp 4) (.tmp 71) rfl (W.heap.size + 1) rfl d.cells.toArray rfl 54 zArr Hzw.out HS2.out HS3.out HS4.out ?_))
        rw [HD.out, HR.out]
        have hld := load54 _ (W.heap.size + 1) d.cells.toArray (setRow_heap _ _ _ d.cells.toArray 54 (0, 0) Hzw.out) HS1.out
        exact bodyPost_ret (v := .tuple #[.agg d.cells.toArray, .bool true]) (by rw [results_cell_tmp (fn := Try.f26) (p := 4) (ty := 54) (u := 5) rfl]; show ((loadVar 54 ⟨W.heap.size + 1, 0, none⟩).run Try.prog _).andThen _ = _; rw [hld]; rfl) rfl (rsee_fin (W.heap.size + 1) d.cells.toArray (Nat.le_succ _) hlt HCr.out (Turns.of_below HB3.out _) (fun k' hk' => .inl hk') (fun k' hk' => by have := HOWN.out k' hk'; omega))
end Go.Proofs.Ytddchhoplomjgaa

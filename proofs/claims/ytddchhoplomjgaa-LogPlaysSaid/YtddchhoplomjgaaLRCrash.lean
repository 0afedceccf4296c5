/- The document's log: Crash. -/
import Derived.Test.YtddchhoplomjgaaLWhole
import Derived.Test.YtddchhoplomjgaaBRow
namespace Go.Proofs.Ytddchhoplomjgaa
open Go.RowKit Go.Proofs.YtddchhoplomjgaaW.PrintLast
set_option linter.unusedVariables false
set_option linter.unusedSimpArgs false
theorem Fresh.new_ofL {W : World} {v v7 : Value} (h : Fresh W v v7) (hv : v.ownBlock = none) : ∀ k, v7.ownBlock = some k → W.heap.size ≤ k := fun k hk => by
  rcases h with h | ⟨q, h, hq⟩
  · rw [h, hv] at hk; cases hk
  · rw [h] at hk; injection hk with hk; omega
/-- what a crash leaves of the document's log: how many bytes -/
def rcrashN (b : List Int) (sure : Nat) (keep : Int) : Nat := wholeN (b.take (crashE sure b.length keep))
set_option maxHeartbeats 2000000 in
theorem rlcrash_any (W : World) (p : Nat) (ad : Option Addr) (cap : Nat) (b : List Int) (sure : Nat) (keep : Int) (h : RL W p ad cap b sure) (hs : sure ≤ b.length) (hl : b.length ≤ 1000000000) :
    Calls Try.prog 32 #[.pointer (some ⟨p, 0, none⟩), .int .i64 keep] W (RLPost W p (.slice ad b.length cap) (.tuple #[]) (b.take (rcrashN b sure keep)) (rcrashN b sure keep : Nat)) := by
  have c0 := cell_of_blk (i := 0) h.blk
  have c1 := cell_of_blk (i := 1) h.blk
  simp at c0 c1
  have hcap := own_cap h.own
  have hne := own_ne h.own h.blk (by decide)
  have hE := crashE_le (keep := keep) hs
  have hE2 := hE.2
  obtain ⟨E, hEE⟩ : ∃ E, crashE sure b.length keep = E := ⟨_, rfl⟩
  rw [hEE] at hE2
  obtain ⟨K, hKE⟩ : ∃ K : Int, (if keep < 0 then 0 else if (b.length : Int) - sure < keep then (b.length : Int) - sure else keep) = K := ⟨_, rfl⟩
  have hSK : (sure : Int) + K = E := by rw [← hEE, ← hKE]; unfold crashE; split <;> (try split) <;> omega
  have HCUT := Lib.hid (show ∀ w : World, Calls Try.prog 44 #[.int .i64 keep, .int .i64 0, .int .i64 ((b.length : Int) - sure)] w fun e w' => e = .returned (.int .i64 K) ∧ w = w' from fun w => by
    have := cut_any w keep 0 ((b.length : Int) - sure) (by omega)
    rw [hKE] at this
    exact this)
  have hwr1 : IntKind.i64.wrap ((b.length : Int) - sure) = (b.length : Int) - sure := IntWalk.i64_in _ ⟨by omega, by omega⟩
  have hwr2 : IntKind.i64.wrap ((sure : Int) + K) = (E : Int) := by rw [hSK]; exact IntWalk.i64_in _ ⟨by omega, by omega⟩
  have hRN : rcrashN b sure keep = wholeN (b.take E) := by unfold rcrashN; rw [hEE]
  have HRN := Lib.hid hRN
  have HEE := Lib.hid hEE
  have HBy := Lib.hid h.bytes
  have hlt := lt_of_block h.blk
  -- behind region 0
  have tl : (b.take E).length = E := by rw [List.length_take]; omega
  have b1 := blk_setCell (w := W.drew) h.blk 0 (.slice ad E cap)
  simp at b1
  have ow0 : W.drew.ownsRow 0 5 1 (.slice ad b.length cap) b.length (bv b) := h.own
  have b2 : W.drew.heap[p]? = some (.cells #[.slice ad b.length cap, .int .i64 sure] 69 (0, 0)) := h.blk
  have ow1 := ownsRow_setCell_other (a := ⟨p, 0, none⟩) (own_take ow0 hE2) (own_ne (own_take ow0 hE2) b2 (by decide)) (.slice ad E cap)
  have e1 : (bv b).take (E * 1) = bv (b.take E) := by rw [Nat.mul_one]; simp [bv]
  rw [e1] at ow1
  have T1 := Turns.setCell (F := fun k => k = p ∨ (Value.slice ad b.length cap).ownBlock = some k) (p := ⟨p, 0, none⟩) (Turns.drew (Turns.refl _ W)) (.inr (.inl rfl)) (.slice ad E cap)
  have hsz : W.drew.heap.size = W.heap.size := rfl
  have HT1 := Lib.hid T1
  have HB1 := Lib.hid b1
  have HO1 := Lib.hid ow1
  have HTL := Lib.hid tl
  have HSK := Lib.hid hSK
  have HNE := Lib.hid hne
  clear T1 b1 ow1 ow0 e1 hKE hEE hRN tl h hE hSK hne
  obtain ⟨i5, gi, gz0, gz1, gz2⟩ := info_parts info5
  go_enter Try.func32, Try.ntmps32
  go_wp2
  refine start_ (n := 26) (S := fun w' => w'.cell? ⟨p, 0, none⟩ = some (.slice ad b.length cap) ∧ w'.cell? ⟨p, 1, none⟩ = some (.int .i64 sure)) (ds := [25]) #[false, false, false, false, false, false, false, false, false, false, false, false, false, false, false, false, false, false, false, false, false, false, false, false, false, false] (by kernel_rfl) rfl rfl (⟨c0, c1⟩) (fun hHeld => ?_)
  generalize W.drew = W2 at *
  refine pure_ (i := 0) (N := some 6) (v := ?_) (a' := ?_) #[true, false, false, false, false, false, false, false, false, false, false, false, false, false, false, false, false, false, false, false, false, false, false, false, false, false] rfl rfl (by kernel_rfl) (fun _ _ _ h => h) (Or.inl ⟨by rfl, ?_⟩) ?_ ?_
  rotate_left
  · intro w'
    go_simp
    with_reducible rfl
  rotate_left
  · simp only [Act.put, List.setIfInBounds_toArray, List.set_cons_zero, List.set_cons_succ]
    rfl
  refine pure_ (i := 1) (N := some 7) (v := ?_) (a' := ?_) #[true, true, false, false, false, false, false, false, false, false, false, false, false, false, false, false, false, false, false, false, false, false, false, false, false, false] rfl rfl (by kernel_rfl) (fun _ _ _ h => h) (Or.inl ⟨by rfl, ?_⟩) ?_ ?_
  rotate_left
  · intro w'
    go_simp
    with_reducible rfl
  rotate_left
  · simp only [Act.put, List.setIfInBounds_toArray, List.set_cons_zero, List.set_cons_succ]
    rfl
  refine pure_ (i := 2) (N := some 8) (v := ?_) (a' := ?_) #[true, true, true, false, false, false, false, false, false, false, false, false, false, false, false, false, false, false, false, false, false, false, false, false, false, false] rfl rfl (by kernel_rfl) (fun _ _ _ h => h) (Or.inl ⟨by rfl, ?_⟩) ?_ ?_
  rotate_left
  · intro w'
    go_simp
    with_reducible rfl
  rotate_left
  · simp only [Act.put, List.setIfInBounds_toArray, List.set_cons_zero, List.set_cons_succ]
    rfl
  refine pure_ (i := 3) (N := some 9) (v := ?_) (a' := ?_) #[true, true, true, true, false, false, false, false, false, false, false, false, false, false, false, false, false, false, false, false, false, false, false, false, false, false] rfl rfl (by kernel_rfl) (fun _ _ _ h => h) (Or.inl ⟨by rfl, ?_⟩) ?_ ?_
  rotate_left
  · intro w'
    go_simp
    with_reducible rfl
  rotate_left
  · simp only [Act.put, List.setIfInBounds_toArray, List.set_cons_zero, List.set_cons_succ]
    rfl
  refine take_ (i := 4) (N := some 10) (v := ?_) (a' := ?_) #[true, true, true, true, true, false, false, false, false, false, false, false, false, false, false, false, false, false, false, false, false, false, false, false, false, false] rfl rfl (by kernel_rfl) (fun _ _ _ h => h) (Or.inl ⟨by rfl, ?_⟩) hHeld ?_ ?_
  rotate_left
  · intro w' hSw
    (try dsimp only at hSw)
    go_simp
    with_reducible rfl
  rotate_left
  · simp only [Act.put, List.setIfInBounds_toArray, List.set_cons_zero, List.set_cons_succ]
    rfl
  refine pure_ (i := 5) (N := some 11) (v := ?_) (a' := ?_) #[true, true, true, true, true, true, false, false, false, false, false, false, false, false, false, false, false, false, false, false, false, false, false, false, false, false] rfl rfl (by kernel_rfl) (fun _ _ _ h => h) (Or.inl ⟨by rfl, ?_⟩) ?_ ?_
  rotate_left
  · intro w'
    go_simp
    with_reducible rfl
  rotate_left
  · simp only [Act.put, List.setIfInBounds_toArray, List.set_cons_zero, List.set_cons_succ]
    rfl
  refine pure_ (i := 6) (N := some 12) (v := ?_) (a' := ?_) #[true, true, true, true, true, true, true, false, false, false, false, false, false, false, false, false, false, false, false, false, false, false, false, false, false, false] rfl rfl (by kernel_rfl) (fun _ _ _ h => h) (Or.inl ⟨by rfl, ?_⟩) ?_ ?_
  rotate_left
  · intro w'
    go_simp
    with_reducible rfl
  rotate_left
  · simp only [Act.put, List.setIfInBounds_toArray, List.set_cons_zero, List.set_cons_succ]
    rfl
  refine pure_ (i := 7) (N := some 13) (v := ?_) (a' := ?_) #[true, true, true, true, true, true, true, true, false, false, false, false, false, false, false, false, false, false, false, false, false, false, false, false, false, false] rfl rfl (by kernel_rfl) (fun _ _ _ h => h) (Or.inl ⟨by rfl, ?_⟩) ?_ ?_
  rotate_left
  · intro w'
    go_simp
    with_reducible rfl
  rotate_left
  · simp only [Act.put, List.setIfInBounds_toArray, List.set_cons_zero, List.set_cons_succ]
    rfl
  refine take_ (i := 8) (N := some 14) (v := ?_) (a' := ?_) #[true, true, true, true, true, true, true, true, true, false, false, false, false, false, false, false, false, false, false, false, false, false, false, false, false, false] rfl rfl (by kernel_rfl) (fun _ _ _ h => h) (Or.inl ⟨by rfl, ?_⟩) hHeld ?_ ?_
  rotate_left
  · intro w' hSw
    (try dsimp only at hSw)
    go_simp
    with_reducible rfl
  rotate_left
  · simp only [Act.put, List.setIfInBounds_toArray, List.set_cons_zero, List.set_cons_succ]
    rfl
  refine pure_ (i := 9) (N := some 15) (v := ?_) (a' := ?_) #[true, true, true, true, true, true, true, true, true, true, false, false, false, false, false, false, false, false, false, false, false, false, false, false, false, false] rfl rfl (by kernel_rfl) (fun _ _ _ h => h) (Or.inl ⟨by rfl, ?_⟩) ?_ ?_
  rotate_left
  · intro w'
    go_simp
    with_reducible rfl
  rotate_left
  · simp only [Act.put, List.setIfInBounds_toArray, List.set_cons_zero, List.set_cons_succ]
    rfl
  refine pure_ (i := 10) (N := some 16) (v := ?_) (a' := ?_) #[true, true, true, true, true, true, true, true, true, true, true, false, false, false, false, false, false, false, false, false, false, false, false, false, false, false] rfl rfl (by kernel_rfl) (fun _ _ _ h => h) (Or.inl ⟨by rfl, ?_⟩) ?_ ?_
  rotate_left
  · intro w'
    go_simp
    with_reducible rfl
  rotate_left
  · simp only [Act.put, List.setIfInBounds_toArray, List.set_cons_zero, List.set_cons_succ]
    rfl
  refine pure_ (i := 11) (N := some 17) (v := ?_) (a' := ?_) #[true, true, true, true, true, true, true, true, true, true, true, true, false, false, false, false, false, false, false, false, false, false, false, false, false, false] rfl rfl (by kernel_rfl) (fun _ _ _ h => h) (Or.inl ⟨by rfl, ?_⟩) ?_ ?_
  rotate_left
  · intro w'
    go_simp
    with_reducible rfl
  rotate_left
  · simp only [Act.put, List.setIfInBounds_toArray, List.set_cons_zero, List.set_cons_succ]
    rfl
  refine pure_ (i := 12) (N := some 18) (v := ?_) (a' := ?_) #[true, true, true, true, true, true, true, true, true, true, true, true, true, false, false, false, false, false, false, false, false, false, false, false, false, false] rfl rfl (by kernel_rfl) (fun _ _ _ h => h) (Or.inl ⟨by rfl, ?_⟩) ?_ ?_
  rotate_left
  · intro w'
    go_simp
    with_reducible rfl
  rotate_left
  · simp only [Act.put, List.setIfInBounds_toArray, List.set_cons_zero, List.set_cons_succ]
    rfl
  refine take_ (i := 13) (N := some 19) (v := ?_) (a' := ?_) #[true, true, true, true, true, true, true, true, true, true, true, true, true, true, false, false, false, false, false, false, false, false, false, false, false, false] rfl rfl (by kernel_rfl) (fun _ _ _ h => h) (Or.inl ⟨by rfl, ?_⟩) hHeld ?_ ?_
  rotate_left
  · intro w' hSw
    (try dsimp only at hSw)
    go_simp
    with_reducible rfl
  rotate_left
  · simp only [Act.put, List.setIfInBounds_toArray, List.set_cons_zero, List.set_cons_succ]
    rfl
  refine pure_ (i := 14) (N := some 20) (v := ?_) (a' := ?_) #[true, true, true, true, true, true, true, true, true, true, true, true, true, true, true, false, false, false, false, false, false, false, false, false, false, false] rfl rfl (by kernel_rfl) (fun _ _ _ h => h) (Or.inl ⟨by rfl, ?_⟩) ?_ ?_
  rotate_left
  · intro w'
    go_simp
    with_reducible rfl
  rotate_left
  · simp only [Act.put, List.setIfInBounds_toArray, List.set_cons_zero, List.set_cons_succ]
    rfl
  refine pure_ (i := 15) (N := some 21) (v := ?_) (a' := ?_) #[true, true, true, true, true, true, true, true, true, true, true, true, true, true, true, true, false, false, false, false, false, false, false, false, false, false] rfl rfl (by kernel_rfl) (fun _ _ _ h => h) (Or.inl ⟨by rfl, ?_⟩) ?_ ?_
  rotate_left
  · intro w'
    go_simp
    with_reducible rfl
  rotate_left
  · simp only [Act.put, List.setIfInBounds_toArray, List.set_cons_zero, List.set_cons_succ]
    rfl
  refine pure_ (i := 16) (N := some 22) (v := ?_) (a' := ?_) #[true, true, true, true, true, true, true, true, true, true, true, true, true, true, true, true, true, false, false, false, false, false, false, false, false, false] rfl rfl (by kernel_rfl) (fun _ _ _ h => h) (Or.inl ⟨by rfl, ?_⟩) ?_ ?_
  rotate_left
  · intro w'
    go_simp
    with_reducible rfl
  rotate_left
  · simp only [Act.put, List.setIfInBounds_toArray, List.set_cons_zero, List.set_cons_succ]
    rfl
  refine pure_ (i := 17) (N := some 23) (v := ?_) (a' := ?_) #[true, true, true, true, true, true, true, true, true, true, true, true, true, true, true, true, true, true, false, false, false, false, false, false, false, false] rfl rfl (by kernel_rfl) (fun _ _ _ h => h) (Or.inl ⟨by rfl, ?_⟩) ?_ ?_
  rotate_left
  · intro w'
    go_simp
    with_reducible rfl
  rotate_left
  · simp only [Act.put, List.setIfInBounds_toArray, List.set_cons_zero, List.set_cons_succ]
    rfl
  refine take_ (i := 18) (N := some 24) (v := ?_) (a' := ?_) #[true, true, true, true, true, true, true, true, true, true, true, true, true, true, true, true, true, true, true, false, false, false, false, false, false, false] rfl rfl (by kernel_rfl) (fun _ _ _ h => h) (Or.inl ⟨by rfl, ?_⟩) hHeld ?_ ?_
  rotate_left
  · intro w' hSw
    (try dsimp only at hSw)
    go_simp
    with_reducible rfl
  rotate_left
  · simp only [Act.put, List.setIfInBounds_toArray, List.set_cons_zero, List.set_cons_succ]
    rfl
  refine pure_ (i := 19) (N := some 25) (v := .int .i64 ((b.length : Int) - sure)) (a' := ?_) #[true, true, true, true, true, true, true, true, true, true, true, true, true, true, true, true, true, true, true, true, false, false, false, false, false, false] rfl rfl (by kernel_rfl) (fun _ _ _ h => h) (Or.inl ⟨by rfl, ?_⟩) ?_ ?_
  · intro w'
    go_simp
  rotate_left
  · simp only [Act.put, List.setIfInBounds_toArray, List.set_cons_zero, List.set_cons_succ]
    rfl
  refine one_ (i := 20) (N := some 26) #[true, true, true, true, true, true, true, true, true, true, true, true, true, true, true, true, true, true, true, true, true, false, false, false, false, false] rfl rfl (by kernel_rfl) (by decide) (fun K hK => ?_)
  refine goes_ Try.func44 (by kernel_rfl) rfl #[.int .i64 keep, .int .i64 0, .int .i64 ((b.length : Int) - sure)] (by rfl) rfl rfl (by (try simp only [List.map_toArray, List.map_cons, List.map_nil]); first | done | rfl) ?_
  refine (HCUT.out W2).mono ?_
  rintro e w3 ⟨rfl, rfl⟩
  refine ⟨_, rfl, ?_⟩
  refine hK.out _ _ hHeld (fun hHeld => ?_)
  clear hK K
  refine norm_ (a' := ?_) ?_ ?_
  rotate_left
  · (try unfold Act.put); simp only [Act.put, List.setIfInBounds_toArray, List.set_cons_zero, List.set_cons_succ]
    rfl
  refine pure_ (i := 21) (N := some 27) (v := .int .i64 (E : Int)) (a' := ?_) #[true, true, true, true, true, true, true, true, true, true, true, true, true, true, true, true, true, true, true, true, true, true, false, false, false, false] rfl rfl (by kernel_rfl) (fun _ _ _ h => h) (Or.inl ⟨by rfl, ?_⟩) ?_ ?_
  · intro w'
    go_simp
  rotate_left
  · simp only [Act.put, List.setIfInBounds_toArray, List.set_cons_zero, List.set_cons_succ]
    rfl
  refine pure_ (i := 22) (N := some 28) (v := .slice ad E cap) (a' := ?_) #[true, true, true, true, true, true, true, true, true, true, true, true, true, true, true, true, true, true, true, true, true, true, true, false, false, false] rfl rfl (by kernel_rfl) (fun _ _ _ h => h) (Or.inl ⟨by rfl, ?_⟩) ?_ ?_
  · intro w'
    exact exec_cut_hi w' 38 5 (.tmp 10) (.tmp 27) rfl 1 Try.underlying38 size5 ad b.length cap E rfl rfl (by omega)
  rotate_left
  · simp only [Act.put, List.setIfInBounds_toArray, List.set_cons_zero, List.set_cons_succ]
    rfl
  refine pure_ (i := 23) (N := some 29) (v := ?_) (a' := ?_) #[true, true, true, true, true, true, true, true, true, true, true, true, true, true, true, true, true, true, true, true, true, true, true, true, false, false] rfl rfl (by kernel_rfl) (fun _ _ _ h => h) (Or.inl ⟨by rfl, ?_⟩) ?_ ?_
  rotate_left
  · intro w'
    go_simp
    with_reducible rfl
  rotate_left
  · simp only [Act.put, List.setIfInBounds_toArray, List.set_cons_zero, List.set_cons_succ]
    rfl
  refine pure_ (i := 24) (N := some 30) (v := ?_) (a' := ?_) #[true, true, true, true, true, true, true, true, true, true, true, true, true, true, true, true, true, true, true, true, true, true, true, true, true, false] rfl rfl (by kernel_rfl) (fun _ _ _ h => h) (Or.inl ⟨by rfl, ?_⟩) ?_ ?_
  rotate_left
  · intro w'
    go_simp
    with_reducible rfl
  rotate_left
  · simp only [Act.put, List.setIfInBounds_toArray, List.set_cons_zero, List.set_cons_succ]
    rfl
  refine last_ (i := 25) (N := none) #[true, true, true, true, true, true, true, true, true, true, true, true, true, true, true, true, true, true, true, true, true, true, true, true, true, true] rfl rfl (by kernel_rfl) (by decide) (fun K hK => ?_)
  have c2 := cell_of_blk (i := 0) b2
  have f2 := free_of_blk (i := 0) b2
  simp at c2
  go_simp
  refine hK.out _ _ ?_
  clear hK K
  refine done_ (by kernel_rfl) ?_
  have hwl := whole_any _ ad cap (b.take E) (Reads.of_own HO1.out) (HBy.out.take E) (by rw [HTL.out]; omega) (by rw [HTL.out]; omega)
  rw [HTL.out] at hwl
  have HWL := Lib.hid hwl
  clear hwl
  have cA := cell_of_blk (i := 0) HB1.out
  simp at cA
  go_wp2_with fail
  refine HWL.out.mono ?_
  rintro e w4 ⟨v, rfl, hra, hb4⟩
  obtain ⟨adr, capr, rfl⟩ := hra.shape
  have hN := wholeN_le (b.take E)
  rw [HTL.out] at hN
  obtain ⟨N, hNN⟩ : ∃ N, wholeN (b.take E) = N := ⟨_, rfl⟩
  have hRN2 := HRN.out
  rw [hNN] at hN hRN2 ⊢
  have HRN2 := Lib.hid hRN2
  have b4 := (hb4.block p (lt_of_block HB1.out)).trans HB1.out
  have ow4 := (Turns.of_below hb4 (fun _ => False)).own HO1.out (fun _ _ h => h)
  have c4 := cell_of_blk (i := 0) b4
  simp at c4
  have hrd : Reads w4 ad (bv (b.take N)) := by
    have h1 := (Reads.of_own ow4).take N
    have e : (bv (b.take E)).take N = bv (b.take N) := by
      unfold bv
      rw [← List.map_take, List.take_take, Nat.min_eq_left hN]
    rw [e] at h1
    exact h1
  have HRD := Lib.hid hrd
  have hnl : (b.take N).length = N := by rw [List.length_take]; omega
  have HNL := Lib.hid hnl
  have HB4 := Lib.hid b4
  have T4 := HT1.out.trans ((Turns.of_below hb4 (fun _ => False)).mono (G := fun k => k = p ∨ (Value.slice ad b.length cap).ownBlock = some k) (fun _ _ h => h.elim))
  have HT4 := Lib.hid T4
  have ow0 := World.ownsRow_nil w4 0 5 1
  have z4 := Nat.le_trans (show W.heap.size ≤ (W2.setCell ⟨p, 0, none⟩ (.slice ad E cap)).heap.size from HT1.out.size) hb4.size
  clear hra hb4 hNN hRN2 b4 ow4 hrd T4 hnl
  go_wp2_with (first
    | (refine wpList_cut_hi rfl 38 5 (.tmp 43) (.tmp 44) rfl 1 Try.underlying38 size5 ad E cap N rfl rfl (by omega) ?_)
    | (at_builtin; refine wpList_row_append_any _ rfl (.const (.slice none 0 0)) (.tmp 45) 38 rfl 0 (Nat.zero_le _) 5 i5 _ 1 1 Try.underlying38 gi gz0 gz1 gz2 rfl (by decide) (.slice none 0 0) 0 [] rfl ow0 ad N cap (bv (b.take N)) rfl (by rw [bv_length, HNL.out, Nat.mul_one]) HRD.out (bv_one _) (by omega) (by decide) ?_))
  intro v5 w5 ow5 hg5 hf5
  obtain ⟨ad5, cap5, rfl⟩ := slice_of_own ow5
  have T5 : Turns (fun _ => False) w4 w5 := hg5.mono (fun k _ h => by cases h)
  have hn5 := hf5.new_ofL rfl
  have b5 := T5.keep HB4.out (fun h => h)
  have c5 := cell_of_blk (i := 0) b5
  have c51 := cell_of_blk (i := 1) b5
  have f5 := free_of_blk (i := 0) b5
  have f51 := free_of_blk (i := 1) b5
  simp at c5 c51
  have ow6 := ownsRow_setCell_other (a := ⟨p, 0, none⟩) ow5 (own_ne ow5 b5 (by decide)) (.slice ad5 N cap5)
  have b6 := blk_setCell b5 0 (.slice ad5 N cap5)
  simp at b6
  have ow7 := ownsRow_setCell_other (a := ⟨p, 1, none⟩) ow6 (own_ne ow5 b5 (by decide)) (.int .i64 N)
  have b7 := blk_setCell b6 1 (.int .i64 N)
  simp at b7
  have T7 := Turns.setCell (p := ⟨p, 1, none⟩) (Turns.setCell (p := ⟨p, 0, none⟩) (HT4.out.trans (T5.mono (G := fun k => k = p ∨ (Value.slice ad b.length cap).ownBlock = some k) (fun _ _ h => h.elim))) (.inr (.inl rfl)) (.slice ad5 N cap5)) (.inr (.inl rfl)) (.int .i64 N)
  have HF := Lib.hid (show RL ((w5.setCell ⟨p, 0, none⟩ (.slice ad5 N cap5)).setCell ⟨p, 1, none⟩ (.int .i64 N)) p ad5 cap5 (b.take N) N from ⟨by rw [HNL.out]; exact b7, by rw [HNL.out]; exact ow7, HBy.out.take N⟩)
  have HT7 := Lib.hid T7
  have HN5 := Lib.hid hn5
  clear b5 b6 b7 ow5 ow6 ow7 hg5 hf5 T5 T7 hn5 ow0
  go_wp2
  go_end0
  refine ⟨rfl, ad5, cap5, by rw [HRN2.out]; exact HF.out, HT7.out, fun k hk => .inr ?_⟩
  rw [HRN2.out, HNL.out] at hk
  have := HN5.out k hk
  omega
end Go.Proofs.Ytddchhoplomjgaa

/- The other bucket: Drop. -/
import Derived.Test.YtddchhoplomjgaaBKeep
namespace Go.Proofs.Ytddchhoplomjgaa
open Go.RowKit Go.Proofs.YtddchhoplomjgaaW.PrintLast
set_option linter.unusedVariables false
set_option linter.unusedSimpArgs false
/-- the other bucket, as it lies in the world -/
structure RO (W : World) (p : Nat) (ad : Option Addr) (cap : Nat) (l : List Con) : Prop where
  blk : W.heap[p]? = some (.cells #[.slice ad l.length cap] 61 (0, 0))
  own : W.ownsRow 0 54 21 (.slice ad l.length cap) l.length (cons l)
  ok : Oks l
theorem RO.keep {F : Nat → Prop} {W W' : World} {p : Nat} {ad : Option Addr} {cap : Nat} {l : List Con} (h : RO W p ad cap l) (T : Turns F W W') (hp : ¬ F p) (ho : ∀ k, (Value.slice ad l.length cap).ownBlock = some k → ¬ F k) : RO W' p ad cap l :=
  ⟨T.keep h.blk hp, T.own h.own ho, h.ok⟩
theorem RO.new (W : World) : RO (W.alloc (.cells #[.slice none 0 0] 61)) W.heap.size none 0 [] :=
  ⟨heap_alloc_new W _, World.ownsRow_nil _ _ _ _, fun c h => by simp at h⟩
def ROPost (W : World) (p : Nat) (v r : Value) (l : List Con) (e : Ending) (W' : World) : Prop :=
  e = .returned r ∧ ∃ ad' cap', RO W' p ad' cap' l ∧ Turns (fun k => k = p ∨ v.ownBlock = some k) W W' ∧ ∀ k, (Value.slice ad' l.length cap').ownBlock = some k → v.ownBlock = some k ∨ W.heap.size ≤ k
theorem Turns.then_new {G : Nat → Prop} {W w7 w8 : World} {v : Value} (T : Turns G W w7) (T2 : Turns (fun k => v.ownBlock = some k) w7 w8) (hv : ∀ k, v.ownBlock = some k → W.heap.size ≤ k) : Turns G W w8 :=
  ⟨T2.os.trans T.os, T2.tape.trans T.tape, T2.output.trans T.output, Nat.le_trans T.size T2.size, fun k hk hF => (T2.block k (Nat.lt_of_lt_of_le hk T.size) (fun h => by have := hv k h; omega)).trans (T.block k hk hF)⟩
theorem Fresh.new_of {W : World} {v v7 : Value} (h : Fresh W v v7) (hv : v.ownBlock = none) : ∀ k, v7.ownBlock = some k → W.heap.size ≤ k := fun k hk => by
  rcases h with h | ⟨q, h, hq⟩
  · rw [h, hv] at hk; cases hk
  · rw [h] at hk; injection hk with hk; omega
theorem Fresh.new_then {W w7 : World} {v7 v8 : Value} (h : Fresh w7 v7 v8) (hv : ∀ k, v7.ownBlock = some k → W.heap.size ≤ k) (hs : W.heap.size ≤ w7.heap.size) : ∀ k, v8.ownBlock = some k → W.heap.size ≤ k := fun k hk => by
  rcases h with h | ⟨q, h, hq⟩
  · rw [h] at hk; exact hv k hk
  · rw [h] at hk; injection hk with hk; omega
theorem Oks.take {l : List Con} (h : Oks l) (k : Nat) : Oks (l.take k) := fun c hc => h c (List.mem_of_mem_take hc)
theorem Oks.drop {l : List Con} (h : Oks l) (k : Nat) : Oks (l.drop k) := fun c hc => h c (List.mem_of_mem_drop hc)
theorem append_nil_row {w : World} {o : Oper} {a : Act} {K : Act → World → Prop} {Q : Exit → Act → World → Prop} (N : Option Tmp) (hN : o.dst = N) (s x : Operand) (ho : o.op = .call { callee := .builtin .append, args := #[s, x], argTypes := #[48, 48] })
    (n : Nat) (l : List Con) (hok : Oks l) (v : Value) (hs : a.eval s = v) (k : Nat) (pre : List Con) (hown : w.ownsRow 0 54 21 v k (cons pre))
    (A : Option Addr) (c : Nat) (hx : a.eval x = .slice A n c) (hn : l.length = n) (hr : Reads w A (cons l)) (hb : k + n ≤ 1000000)
    (h : ∀ v' w', w'.ownsRow 0 54 21 v' (k + n) (cons (pre ++ l)) → Turns (fun k => v.ownBlock = some k) w w' → Fresh w v v' → K (a.put N v') w') : o.wp Try.prog a w K Q := by
  subst hN
  obtain ⟨i0, hi0, hz0, hz1, hz2⟩ := info_parts info54p
  refine wp_row_append_any w s x 48 ho 0 (Nat.zero_le _) 54 i0 _ 21 32 Try.underlying48 hi0 hz0 hz1 hz2 rfl (by decide) v k (cons pre) hs hown A n c (cons l) hx (by rw [cons_length hok, hn]) hr (cons_one hok) (by omega) (by decide) (fun v' w' h1 h2 h3 => h v' w' ?_ h2 h3)
  rw [cons_append]
  exact h1
theorem rest_len {l : List Con} {m k : Nat} (hm : l.length = m + 1) : (l.drop (k + 1)).length = m + 1 - (k + 1) := by rw [List.length_drop, hm]
set_option maxHeartbeats 2000000 in
theorem rdrop_any (W : World) (p : Nat) (ad : Option Addr) (cap : Nat) (l : List Con) (peer : Int) (h : RO W p ad cap l) (hl : l.length ≤ 100000) :
    Calls Try.prog 25 #[.pointer (some ⟨p, 0, none⟩), .int .i64 peer] W (ROPost W p (.slice ad l.length cap) (.bool (idxP peer l).isSome) (dropP peer l)) := by
  have c0 := cell_of_blk (i := 0) h.blk
  simp at c0
  have HB := Lib.hid h
  have HOK := Lib.hid h.ok
  clear h
  obtain ⟨n, hn⟩ : ∃ n, l.length = n := ⟨_, rfl⟩
  have HN := Lib.hid hn
  rw [hn] at c0 hl
  clear hn
  go_enter Try.func25, Try.ntmps25
  go_wp2
  go_loopw [5] (fun i wr => ∃ k : Nat, k ≤ n ∧ i = .int .i64 k ∧ (∀ c ∈ l.take k, c.peer ≠ peer) ∧ wr = W) (fun i _ => n - (intOf i).toNat)
  case atStart => exact ⟨0, Nat.zero_le _, rfl, by simp, rfl⟩
  case round =>
    obtain ⟨k, hk, rfl, hno, rfl⟩ := hrel
    have HNO := Lib.hid hno
    clear hno
    by_cases hlt : k < n
    · have hkl : k < l.length := by rw [HN.out]; exact hlt
      obtain ⟨g, rfl, _⟩ := own_some HB.out.own (fun e => by injection e with _ e2 _; omega)
      obtain ⟨m, rfl⟩ : ∃ m, n = m + 1 := ⟨n - 1, by omega⟩
      have hcap : m + 1 ≤ cap := by have := own_le HB.out.own; rw [← HN.out]; exact this
      have ck : wr.cell? ⟨g, k * 21, none⟩ = some (.int .i64 l[k].peer) := peer_at (Reads.of_own HB.out.own) HOK.out k hkl
      have i1 : (k : Int) < (m : Int) + 1 := by omega
      obtain ⟨q, hq⟩ : ∃ q, l[k].peer = q := ⟨_, rfl⟩
      rw [hq] at ck
      have HQ := Lib.hid hq
      have HKL := Lib.hid hkl
      clear hq
      by_cases he : q = peer
      · subst he
        have hI : idxP q l = some k := idxP_some k hkl HNO.out HQ.out
        have hD : dropP q l = l.take k ++ l.drop (k + 1) := by unfold dropP; rw [hI]; exact List.eraseIdx_eq_take_drop_succ _ _
        rw [hI, hD]
        have own := HB.out.own
        have blk := HB.out.blk
        rw [HN.out] at own blk
        have HO := Lib.hid own
        have HK := Lib.hid blk
        have HLN := Lib.hid (show (Value.slice (some ⟨g, 0, none⟩) l.length cap).ownBlock = (Value.slice (some ⟨g, 0, none⟩) (m + 1) cap).ownBlock from rfl)
        have HM := HN
        clear own blk hI hD HB
        go_wp2
        have own := HO.out
        have blk := HK.out
        have TW := Turns.drew (Turns.refl (fun k' => k' = p ∨ (Value.slice (some ⟨g, 0, none⟩) (m + 1) cap).ownBlock = some k') wr)
        have cP := c0
        have hs2 : wr.drew.heap.size = wr.heap.size := rfl
        have hwr : IntKind.i64.wrap ((k : Int) + 1) = (k : Int) + 1 := IntWalk.i64_in _ ⟨by omega, by omega⟩
        have cP2 : wr.drew.cell? ⟨p, 0, none⟩ = some (.slice (some ⟨g, 0, none⟩) (m + 1) cap) := c0
        have b2 : wr.drew.heap[p]? = some (.cells #[.slice (some ⟨g, 0, none⟩) (m + 1) cap] 61 (0, 0)) := blk
        have ow2 : wr.drew.ownsRow 0 54 21 (.slice (some ⟨g, 0, none⟩) (m + 1) cap) (m + 1) (cons l) := own
        have hp2 := lt_of_block b2
        have hrdT : Reads wr.drew (some ⟨g, 0, none⟩) (cons (l.take k)) := by have := (Reads.of_own ow2).take (k * 21); rw [cons_take HOK.out k (by omega)] at this; exact this
        clear own blk
        refine start_ (n := 19) (S := fun w' => w'.cell? ⟨p, 0, none⟩ = some (.slice (some ⟨g, 0, none⟩) (m + 1) cap)) (ds := [15, 18]) #[false, false, false, false, false, false, false, false, false, false, false, false, false, false, false, false, false, false, false] (by kernel_rfl) rfl rfl (cP) (fun hHeld => ?_)
        generalize wr.drew = W2 at *
        refine pure_ (i := 0) (N := some 25) (v := ?_) (a' := ?_) #[true, false, false, false, false, false, false, false, false, false, false, false, false, false, false, false, false, false, false] rfl rfl (by kernel_rfl) (fun _ _ _ h => h) (Or.inl ⟨by rfl, ?_⟩) ?_ ?_
        rotate_left
        · intro w'
          go_simp
          with_reducible rfl
        rotate_left
        · simp only [Act.put, List.setIfInBounds_toArray, List.set_cons_zero, List.set_cons_succ]
          rfl
        refine pure_ (i := 1) (N := some 26) (v := ?_) (a' := ?_) #[true, true, false, false, false, false, false, false, false, false, false, false, false, false, false, false, false, false, false] rfl rfl (by kernel_rfl) (fun _ _ _ h => h) (Or.inl ⟨by rfl, ?_⟩) ?_ ?_
        rotate_left
        · intro w'
          go_simp
          with_reducible rfl
        rotate_left
        · simp only [Act.put, List.setIfInBounds_toArray, List.set_cons_zero, List.set_cons_succ]
          rfl
        refine pure_ (i := 2) (N := some 27) (v := ?_) (a' := ?_) #[true, true, true, false, false, false, false, false, false, false, false, false, false, false, false, false, false, false, false] rfl rfl (by kernel_rfl) (fun _ _ _ h => h) (Or.inl ⟨by rfl, ?_⟩) ?_ ?_
        rotate_left
        · intro w'
          go_simp
          with_reducible rfl
        rotate_left
        · simp only [Act.put, List.setIfInBounds_toArray, List.set_cons_zero, List.set_cons_succ]
          rfl
        refine pure_ (i := 3) (N := some 28) (v := ?_) (a' := ?_) #[true, true, true, true, false, false, false, false, false, false, false, false, false, false, false, false, false, false, false] rfl rfl (by kernel_rfl) (fun _ _ _ h => h) (Or.inl ⟨by rfl, ?_⟩) ?_ ?_
        rotate_left
        · intro w'
          go_simp
          with_reducible rfl
        rotate_left
        · simp only [Act.put, List.setIfInBounds_toArray, List.set_cons_zero, List.set_cons_succ]
          rfl
        refine take_ (i := 4) (N := some 29) (v := ?_) (a' := ?_) #[true, true, true, true, true, false, false, false, false, false, false, false, false, false, false, false, false, false, false] rfl rfl (by kernel_rfl) (fun _ _ _ h => h) (Or.inl ⟨by rfl, ?_⟩) hHeld ?_ ?_
        rotate_left
        · intro w' hSw
          (try dsimp only at hSw)
          go_simp
          with_reducible rfl
        rotate_left
        · simp only [Act.put, List.setIfInBounds_toArray, List.set_cons_zero, List.set_cons_succ]
          rfl
        refine pure_ (i := 5) (N := some 30) (v := ?_) (a' := ?_) #[true, true, true, true, true, true, false, false, false, false, false, false, false, false, false, false, false, false, false] rfl rfl (by kernel_rfl) (fun _ _ _ h => h) (Or.inl ⟨by rfl, ?_⟩) ?_ ?_
        rotate_left
        · intro w'
          go_simp
          with_reducible rfl
        rotate_left
        · simp only [Act.put, List.setIfInBounds_toArray, List.set_cons_zero, List.set_cons_succ]
          rfl
        refine pure_ (i := 6) (N := some 31) (v := .slice (some ⟨g, 0, none⟩) k cap) (a' := ?_) #[true, true, true, true, true, true, true, false, false, false, false, false, false, false, false, false, false, false, false] rfl rfl (by kernel_rfl) (fun _ _ _ h => h) (Or.inl ⟨by rfl, ?_⟩) ?_ ?_
        · intro w'
          exact exec_cut_hi w' 48 54 (.tmp 29) (.tmp 30) rfl 21 Try.underlying48 info54 _ (m + 1) cap k rfl rfl (by omega)
        rotate_left
        · simp only [Act.put, List.setIfInBounds_toArray, List.set_cons_zero, List.set_cons_succ]
          rfl
        refine pure_ (i := 8) (N := some 33) (v := ?_) (a' := ?_) #[true, true, true, true, true, true, true, false, true, false, false, false, false, false, false, false, false, false, false] rfl rfl (by kernel_rfl) (fun _ _ _ h => h) (Or.inl ⟨by rfl, ?_⟩) ?_ ?_
        rotate_left
        · intro w'
          go_simp
          with_reducible rfl
        rotate_left
        · simp only [Act.put, List.setIfInBounds_toArray, List.set_cons_zero, List.set_cons_succ]
          rfl
        refine pure_ (i := 9) (N := some 34) (v := ?_) (a' := ?_) #[true, true, true, true, true, true, true, false, true, true, false, false, false, false, false, false, false, false, false] rfl rfl (by kernel_rfl) (fun _ _ _ h => h) (Or.inl ⟨by rfl, ?_⟩) ?_ ?_
        rotate_left
        · intro w'
          go_simp
          with_reducible rfl
        rotate_left
        · simp only [Act.put, List.setIfInBounds_toArray, List.set_cons_zero, List.set_cons_succ]
          rfl
        refine pure_ (i := 10) (N := some 35) (v := ?_) (a' := ?_) #[true, true, true, true, true, true, true, false, true, true, true, false, false, false, false, false, false, false, false] rfl rfl (by kernel_rfl) (fun _ _ _ h => h) (Or.inl ⟨by rfl, ?_⟩) ?_ ?_
        rotate_left
        · intro w'
          go_simp
          with_reducible rfl
        rotate_left
        · simp only [Act.put, List.setIfInBounds_toArray, List.set_cons_zero, List.set_cons_succ]
          rfl
        refine take_ (i := 11) (N := some 36) (v := ?_) (a' := ?_) #[true, true, true, true, true, true, true, false, true, true, true, true, false, false, false, false, false, false, false] rfl rfl (by kernel_rfl) (fun _ _ _ h => h) (Or.inl ⟨by rfl, ?_⟩) hHeld ?_ ?_
        rotate_left
        · intro w' hSw
          (try dsimp only at hSw)
          go_simp
          with_reducible rfl
        rotate_left
        · simp only [Act.put, List.setIfInBounds_toArray, List.set_cons_zero, List.set_cons_succ]
          rfl
        refine pure_ (i := 12) (N := some 37) (v := ?_) (a' := ?_) #[true, true, true, true, true, true, true, false, true, true, true, true, true, false, false, false, false, false, false] rfl rfl (by kernel_rfl) (fun _ _ _ h => h) (Or.inl ⟨by rfl, ?_⟩) ?_ ?_
        rotate_left
        · intro w'
          go_simp
          with_reducible rfl
        rotate_left
        · simp only [Act.put, List.setIfInBounds_toArray, List.set_cons_zero, List.set_cons_succ]
          rfl
        refine pure_ (i := 13) (N := some 38) (v := .int .i64 ((k : Int) + 1)) (a' := ?_) #[true, true, true, true, true, true, true, false, true, true, true, true, true, true, false, false, false, false, false] rfl rfl (by kernel_rfl) (fun _ _ _ h => h) (Or.inl ⟨by rfl, ?_⟩) ?_ ?_
        · intro w'
          go_simp
        rotate_left
        · simp only [Act.put, List.setIfInBounds_toArray, List.set_cons_zero, List.set_cons_succ]
          rfl
        refine pure_ (i := 14) (N := some 39) (v := .slice (cutAt (some ⟨g, 0, none⟩) cap (k + 1) 21) (m + 1 - (k + 1)) (cap - (k + 1))) (a' := ?_) #[true, true, true, true, true, true, true, false, true, true, true, true, true, true, true, false, false, false, false] rfl rfl (by kernel_rfl) (fun _ _ _ h => h) (Or.inl ⟨by rfl, ?_⟩) ?_ ?_
        · intro w'
          exact exec_cut_lo w' 48 54 (.tmp 36) (.tmp 38) rfl 21 Try.underlying48 info54 _ (m + 1) cap (k + 1) rfl rfl (by omega)
        rotate_left
        · simp only [Act.put, List.setIfInBounds_toArray, List.set_cons_zero, List.set_cons_succ]
          rfl
        refine one_ (i := 7) (N := some 32) #[true, true, true, true, true, true, true, true, true, true, true, true, true, true, true, false, false, false, false] rfl rfl (by kernel_rfl) (by decide) (fun K hK => ?_)
        refine append_nil_row (some 32) rfl (.const (.slice none 0 0)) (.tmp 31) rfl k (l.take k) (HOK.out.take k) (.slice none 0 0) rfl 0 [] (World.ownsRow_nil _ _ _ _) (some ⟨g, 0, none⟩) cap rfl (by rw [List.length_take, HM.out]; omega) hrdT (by omega) (fun v7 w7 ow7 hg7 hf7 => ?_)
        have hn7 := hf7.new_of rfl
        have T7 : Turns (fun _ => False) W2 w7 := hg7.mono (fun k _ h => by cases h)
        have cP7 : w7.cell? ⟨p, 0, none⟩ = some (.slice (some ⟨g, 0, none⟩) (m + 1) cap) := by rw [World.cell?_of_block (T7.block p hp2 (fun h => h))]; exact cP2
        refine hK.out _ _ cP7 (fun hHeld => ?_)
        have b7 := T7.keep b2 (fun h => h)
        have ow7g := T7.own ow2 (fun _ _ h => h)
        simp only [Nat.zero_add, List.nil_append] at ow7
        have hrd7 := Reads.of_own ow7g
        have hrdD : Reads w7 (cutAt (some ⟨g, 0, none⟩) cap (k + 1) 21) (cons (l.drop (k + 1))) := by have := hrd7.cut cap (k + 1) 21 (fun e => by rw [cons_length HOK.out, HM.out]; have := own_le ow2; omega); rw [cons_drop HOK.out (k + 1) (by rw [HM.out]; omega)] at this; exact this
        clear hK K
        refine norm_ (a' := ?_) ?_ ?_
        rotate_left
        · (try unfold Act.put); simp only [Act.put, List.setIfInBounds_toArray, List.set_cons_zero, List.set_cons_succ]
          rfl
        refine last_ (i := 15) (N := some 40) #[true, true, true, true, true, true, true, true, true, true, true, true, true, true, true, true, false, false, false] rfl rfl (by kernel_rfl) (by decide) (fun K hK => ?_)
        rw [if_pos (by rfl)]
        refine append_nil_row (some 40) rfl (.tmp 32) (.tmp 39) rfl (m + 1 - (k + 1)) (l.drop (k + 1)) (HOK.out.drop (k + 1)) v7 rfl k (l.take k) ow7 (cutAt (some ⟨g, 0, none⟩) cap (k + 1) 21) (cap - (k + 1)) rfl (rest_len HM.out) hrdD (by omega) (fun v8 w8 ow8 hg8 hf8 => ?_)
        obtain ⟨ad8, cap8, rfl⟩ := slice_of_own ow8
        refine hK.out _ _ ?_
        clear hK K
        refine norm_ (a' := ?_) ?_ ?_
        rotate_left
        · (try unfold Act.put); simp only [Act.put, List.setIfInBounds_toArray, List.set_cons_zero, List.set_cons_succ]
          rfl
        refine pure_ (i := 16) (N := some 41) (v := ?_) (a' := ?_) #[true, true, true, true, true, true, true, true, true, true, true, true, true, true, true, true, true, false, false] rfl rfl (by kernel_rfl) (fun _ _ _ h => h) (Or.inl ⟨by rfl, ?_⟩) ?_ ?_
        rotate_left
        · intro w'
          go_simp
          with_reducible rfl
        rotate_left
        · simp only [Act.put, List.setIfInBounds_toArray, List.set_cons_zero, List.set_cons_succ]
          rfl
        refine pure_ (i := 17) (N := some 42) (v := ?_) (a' := ?_) #[true, true, true, true, true, true, true, true, true, true, true, true, true, true, true, true, true, true, false] rfl rfl (by kernel_rfl) (fun _ _ _ h => h) (Or.inl ⟨by rfl, ?_⟩) ?_ ?_
        rotate_left
        · intro w'
          go_simp
          with_reducible rfl
        rotate_left
        · simp only [Act.put, List.setIfInBounds_toArray, List.set_cons_zero, List.set_cons_succ]
          rfl
        refine last_ (i := 18) (N := none) #[true, true, true, true, true, true, true, true, true, true, true, true, true, true, true, true, true, true, true] rfl rfl (by kernel_rfl) (by decide) (fun K hK => ?_)
        have hne7 := own_ne ow7 b7 (by decide)
        have b8 := hg8.keep b7 hne7
        have c8 := cell_of_blk (i := 0) b8
        have f8 := free_of_blk (i := 0) b8
        simp at c8
        have hn8 := Fresh.new_then hf8 hn7 T7.size
        have T8 := Turns.then_new T7 hg8 hn7
        have hkm : k + (m + 1 - (k + 1)) = m := by omega
        rw [hkm] at ow8 hn8 ⊢
        have ow9 := ownsRow_setCell_other (a := ⟨p, 0, none⟩) ow8 (own_ne ow8 b8 (by decide)) (.slice ad8 m cap8)
        have b9 := blk_setCell b8 0 (.slice ad8 m cap8)
        simp at b9
        have T9 := Turns.setCell (F := fun k' => k' = p ∨ (Value.slice (some ⟨g, 0, none⟩) (m + 1) cap).ownBlock = some k') (p := ⟨p, 0, none⟩) (TW.trans (T8.mono (fun _ _ h => h.elim))) (.inr (.inl rfl)) (.slice ad8 m cap8)
        have hel : (l.take k ++ l.drop (k + 1)).length = m := by rw [List.length_append, List.length_take, List.length_drop, HM.out]; omega
        have HF := Lib.hid (show RO (w8.setCell ⟨p, 0, none⟩ (.slice ad8 m cap8)) p ad8 cap8 (l.take k ++ l.drop (k + 1)) ∧ Turns (fun k' => k' = p ∨ (Value.slice (some ⟨g, 0, none⟩) (m + 1) cap).ownBlock = some k') wr (w8.setCell ⟨p, 0, none⟩ (.slice ad8 m cap8)) ∧ ∀ k', (Value.slice ad8 (l.take k ++ l.drop (k + 1)).length cap8).ownBlock = some k' → W2.heap.size ≤ k' from ⟨⟨by rw [hel]; exact b9, by rw [hel]; exact ow9, (HOK.out.take k).append (HOK.out.drop (k + 1))⟩, T9, by rw [hel]; exact hn8⟩)
        have HS2 := Lib.hid hs2
        clear hs2
        clear b2 b7 b8 b9 ow2 ow7 ow7g ow8 ow9 hg7 hg8 hf7 hf8 T7 T8 T9 TW hn7 hn8 hrd7 hrdD hrdT hel cP7 cP2 cP hwr
        go_simp
        refine hK.out _ _ ?_
        clear hK K
        refine done_ (by kernel_rfl) ?_
        go_wp2
        go_ret
        refine ⟨rfl, ad8, cap8, HF.out.1, ?_, fun k' hk' => .inr (by rw [← HS2.out]; exact HF.out.2.2 k' hk')⟩
        rw [show (Value.slice (some ⟨g, 0, none⟩) l.length cap).ownBlock = (Value.slice (some ⟨g, 0, none⟩) (m + 1) cap).ownBlock from rfl]
        exact HF.out.2.1
      · go_wp2
        go_roundw
        case rel =>
          refine ⟨k + 1, by omega, by go_num, ?_, by first | rfl | trivial⟩
          intro d hd
          rw [List.take_succ_eq_append_getElem HKL.out] at hd
          rcases List.mem_append.1 hd with hd | hd
          · exact HNO.out d hd
          · simp only [List.mem_cons, List.not_mem_nil, or_false] at hd
            subst hd
            rw [HQ.out]; exact he
        case measure => simp [intOf]; omega
    · have hkn : k = n := by omega
      subst hkn
      have hI : idxP peer l = none := idxP_none (by have := HNO.out; rw [List.take_of_length_le (by rw [HN.out]; exact Nat.le_refl _)] at this; exact this)
      have HI := Lib.hid hI
      clear hI
      go_wp2
      go_ret
      have hd : dropP peer l = l := by unfold dropP; rw [HI.out]
      rw [HI.out, hd]
      exact ⟨rfl, ad, cap, HB.out, Turns.refl _ _, fun k hk => .inl hk⟩
end Go.Proofs.Ytddchhoplomjgaa

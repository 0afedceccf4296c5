/- The document's log: Append, Sure, whole, All. -/
import Derived.Test.YtddchhoplomjgaaLPut
namespace Go.Proofs.Ytddchhoplomjgaa
open Go.RowKit Go.Proofs.YtddchhoplomjgaaW.PrintLast
set_option linter.unusedVariables false
set_option linter.unusedSimpArgs false
/-- the document's log, as it lies in the world -/
structure RL (W : World) (p : Nat) (ad : Option Addr) (cap : Nat) (b : List Int) (sure : Int) : Prop where
  blk : W.heap[p]? = some (.cells #[.slice ad b.length cap, .int .i64 sure] 69 (0, 0))
  own : W.ownsRow 0 5 1 (.slice ad b.length cap) b.length (bv b)
  bytes : Bytes b
theorem RL.keep {F : Nat → Prop} {W W' : World} {p : Nat} {ad : Option Addr} {cap : Nat} {b : List Int} {sure : Int} (h : RL W p ad cap b sure) (T : Turns F W W') (hp : ¬ F p) (ho : ∀ k, (Value.slice ad b.length cap).ownBlock = some k → ¬ F k) : RL W' p ad cap b sure :=
  ⟨T.keep h.blk hp, T.own h.own ho, h.bytes⟩
theorem RL.new (W : World) : RL (W.alloc (.cells #[.slice none 0 0, .int .i64 0] 69)) W.heap.size none 0 [] 0 :=
  ⟨heap_alloc_new W _, World.ownsRow_nil _ _ _ _, fun x h => by simp at h⟩
def RLPost (W : World) (p : Nat) (v r : Value) (b : List Int) (sure : Int) (e : Ending) (W' : World) : Prop :=
  e = .returned r ∧ ∃ ad' cap', RL W' p ad' cap' b sure ∧ Turns (fun k => k = p ∨ v.ownBlock = some k) W W' ∧ ∀ k, (Value.slice ad' b.length cap').ownBlock = some k → v.ownBlock = some k ∨ W.heap.size ≤ k
theorem Fresh.orNew {W : World} {v v' : Value} (h : Fresh W v v') (k : Nat) (hk : v'.ownBlock = some k) : v.ownBlock = some k ∨ W.heap.size ≤ k := by
  rcases h with h | ⟨q, h, hq⟩
  · exact .inl (by rw [← h]; exact hk)
  · rw [h] at hk; injection hk with hk; exact .inr (by omega)
set_option maxHeartbeats 1000000 in
theorem rlappend_any (W : World) (p : Nat) (ad A : Option Addr) (cap c n : Nat) (b xs : List Int) (sure : Int) (h : RL W p ad cap b sure) (hl : b.length ≤ 100000000) (hr : Reads W A (bv xs)) (hb : Bytes xs) (hn : n = xs.length) (hx : n ≤ 65535)
    (hA : xs = [] ∨ ∀ a, A = some a → (Value.slice ad b.length cap).ownBlock ≠ some a.block) :
    Calls Try.prog 28 #[.pointer (some ⟨p, 0, none⟩), .slice A n c] W (RLPost W p (.slice ad b.length cap) (.int .i64 0) (b ++ packP xs) sure) := by
  have c0 := cell_of_blk (i := 0) h.blk
  simp at c0
  have hlt0 := lt_of_block h.blk
  have hne := own_ne h.own h.blk (by decide)
  have HB := Lib.hid h
  have HP := Lib.hid (put_any W (.slice ad b.length cap) b n hx (by omega) h.own)
  obtain ⟨i0, hi, hz0, hz1, hz2⟩ := info_parts info5
  have hd : decide (65535 < (n : Int)) = false := by simp; omega
  have HN := Lib.hid hn
  have HR := Lib.hid hr
  have HA := Lib.hid hA
  have HBy := Lib.hid hb
  have HX := Lib.hid hx
  clear h hr hA hb hn hx
  go_enter Try.func28, Try.ntmps28
  go_wp2_with fail
  refine HP.out.mono ?_
  rintro e w1 ⟨v1, rfl, ow1, T1, F1⟩
  have e2 : (b ++ two n).length = b.length + 2 := by rw [List.length_append]; rfl
  rw [e2] at ow1
  obtain ⟨ad1, cap1, rfl⟩ := slice_of_own ow1
  have b1 := T1.keep HB.out.blk hne
  have HRd := Lib.hid (show Reads w1 A (bv xs) by
    rcases HA.out with hx0 | hx0
    · rw [hx0]; exact Reads.nil _ _
    · exact HR.out.keep T1 (fun a ha => hx0 a ha))
  have hne1 := own_ne ow1 b1 (by decide)
  have HT1 := Lib.hid T1
  have HF1 := Lib.hid F1
  have HB1 := Lib.hid b1
  have hx := HX.out
  clear T1 F1 b1
  go_wp2_with (at_builtin; refine wpList_row_append_any _ rfl (.tmp 15) (.tmp 16) 38 rfl 0 (Nat.zero_le _) 5 i0 _ 1 1 Try.underlying38 hi hz0 hz1 hz2 rfl (by decide) (.slice ad1 (b.length + 2) cap1) (b.length + 2) (bv (b ++ two n)) rfl ow1 A n c (bv xs) rfl (by rw [bv_length, HN.out, Nat.mul_one]) HRd.out (bv_one _) (by omega) (by decide) ?_)
  intro v3 w3 ow3 hg3 hf3
  obtain ⟨ad3, cap3, rfl⟩ := slice_of_own ow3
  have b3 := hg3.keep HB1.out hne1
  have c3 := cell_of_blk (i := 0) b3
  have f3 := free_of_blk (i := 0) b3
  simp at c3
  have hne3 := own_ne ow3 b3 (by decide)
  have ow4 := ownsRow_setCell_other (a := ⟨p, 0, none⟩) ow3 hne3 (.slice ad3 (b.length + 2 + n) cap3)
  have b4 := blk_setCell b3 0 (.slice ad3 (b.length + 2 + n) cap3)
  simp at b4
  have T3 := HT1.out.then_app hg3 HF1.out
  have F3 := Fresh.trans HF1.out hf3 HT1.out.size
  have T4 := Turns.setCell (F := fun k => k = p ∨ (Value.slice ad b.length cap).ownBlock = some k) (p := ⟨p, 0, none⟩) (T3.mono (fun _ _ h => .inr h)) (.inr (.inl rfl)) (.slice ad3 (b.length + 2 + n) cap3)
  have e1 : (b ++ packP xs).length = b.length + 2 + n := by rw [List.length_append, packP_length, HN.out]; omega
  have hfin : RL (w3.setCell ⟨p, 0, none⟩ (.slice ad3 (b.length + 2 + n) cap3)) p ad3 cap3 (b ++ packP xs) sure := by
    refine ⟨by rw [e1]; exact b4, ?_, Bytes.append HB.out.bytes (packP_bytes HBy.out (by rw [← HN.out]; exact hx))⟩
    rw [e1]
    have e2 : bv (b ++ packP xs) = bv (b ++ two n) ++ bv xs := by
      unfold packP two
      rw [← HN.out]
      simp [bv]
    rw [e2]
    exact ow4
  have HFIN := Lib.hid hfin
  have HF3 := Lib.hid F3
  have HT4 := Lib.hid T4
  clear hfin F3 T3 T4 ow3 ow4 b3 b4 hg3 hf3 ow1
  go_wp2
  go_ret
  exact ⟨rfl, ad3, cap3, HFIN.out, HT4.out, fun k hk => HF3.out.orNew k (by rw [← e1]; exact hk)⟩
theorem rlsure_any (W : World) (p : Nat) (ad : Option Addr) (cap : Nat) (b : List Int) (sure : Int) (h : RL W p ad cap b sure) :
    Calls Try.prog 30 #[.pointer (some ⟨p, 0, none⟩)] W (RLPost W p (.slice ad b.length cap) (.tuple #[]) b b.length) := by
  have c0 := cell_of_blk (i := 0) h.blk
  have c1 := cell_of_blk (i := 1) h.blk
  have f1 := free_of_blk (i := 1) h.blk
  simp at c0 c1
  have hne := own_ne h.own h.blk (by decide)
  have b1 := blk_setCell h.blk 1 (.int .i64 b.length)
  simp at b1
  have HF := Lib.hid (show RL (W.setCell ⟨p, 1, none⟩ (.int .i64 b.length)) p ad cap b b.length from ⟨b1, ownsRow_setCell_other (a := ⟨p, 1, none⟩) h.own hne _, h.bytes⟩)
  have HT := Lib.hid (Turns.setCell (F := fun k => k = p ∨ (Value.slice ad b.length cap).ownBlock = some k) (p := ⟨p, 1, none⟩) (Turns.refl _ W) (.inr (.inl rfl)) (.int .i64 b.length))
  clear h b1 hne
  go_enter Try.func30, Try.ntmps30
  go_wp2
  go_end0
  exact ⟨rfl, ad, cap, HF.out, HT.out, fun k hk => .inl hk⟩
theorem cut_any (W : World) (x lo hi : Int) (h : lo ≤ hi) : Calls Try.prog 44 #[.int .i64 x, .int .i64 lo, .int .i64 hi] W fun e W' => e = .returned (.int .i64 (if x < lo then lo else if hi < x then hi else x)) ∧ W = W' := by
  by_cases h1 : x < lo
  · rw [if_pos h1]
    go_enter Try.func44, Try.ntmps44
    go_wp2
    go_ret
    exact ⟨rfl, rfl⟩
  · rw [if_neg h1]
    by_cases h2 : hi < x
    · rw [if_pos h2]
      go_enter Try.func44, Try.ntmps44
      go_wp2
      go_ret
      exact ⟨rfl, rfl⟩
    · rw [if_neg h2]
      go_enter Try.func44, Try.ntmps44
      go_wp2
      go_ret
      exact ⟨rfl, rfl⟩
end Go.Proofs.Ytddchhoplomjgaa

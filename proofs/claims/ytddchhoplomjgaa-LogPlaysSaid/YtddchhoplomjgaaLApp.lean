/- log's Append. -/
import Derived.Test.YtddchhoplomjgaaLAll
namespace Go.Proofs.Ytddchhoplomjgaa
open Go.RowKit Go.Proofs.YtddchhoplomjgaaW.PrintLast
set_option linter.unusedVariables false
set_option linter.unusedSimpArgs false
/-- a piece with its length ahead -/
def packP (xs : List Int) : List Int := [((xs.length / 256 : Nat) : Int), ((xs.length % 256 : Nat) : Int)] ++ xs
def LOPost (W : World) (p : Nat) (v : Value) (r : Value) (b : List Int) (sure : Int) (e : Ending) (W' : World) : Prop :=
  e = .returned r ∧ ∃ ad' cap', LO W' p ad' cap' b sure ∧ Turns (fun k => k = p ∨ v.ownBlock = some k) W W' ∧ Fresh W v (.slice ad' b.length cap')
theorem Turns.then_row {p : Nat} {v v1 : Value} {W W2 w3 : World} (T : Turns (fun k => k = p ∨ v.ownBlock = some k) W W2) (T2 : Turns (fun k => v1.ownBlock = some k) W2 w3) (F : Fresh W v v1) : Turns (fun k => k = p ∨ v.ownBlock = some k) W w3 :=
  ⟨T2.os.trans T.os, T2.tape.trans T.tape, T2.output.trans T.output, Nat.le_trans T.size T2.size, fun k hk hF => (T2.block k (Nat.lt_of_lt_of_le hk T.size) (fun h => by
    rcases F with F | ⟨q, F, hq⟩
    · rw [F] at h; exact hF (.inr h)
    · rw [F] at h; injection h with h; omega)).trans (T.block k hk hF)⟩
theorem Bytes.append {a b : List Int} (ha : Bytes a) (hb : Bytes b) : Bytes (a ++ b) := fun x hx => by
  rcases List.mem_append.1 hx with h | h
  · exact ha x h
  · exact hb x h
theorem packP_bytes {xs : List Int} (h : Bytes xs) (hx : xs.length ≤ 65535) : Bytes (packP xs) := by
  refine Bytes.append (fun x hx => ?_) h
  simp only [List.mem_cons, List.not_mem_nil, or_false] at hx
  rcases hx with rfl | rfl <;> exact ⟨by omega, by omega⟩
theorem packP_length (xs : List Int) : (packP xs).length = 2 + xs.length := by simp [packP]; omega
theorem lappend_long (W : World) (p : Nat) (A : Option Addr) (c n : Nat) (h0 : 65535 < n) (h1 : n ≤ 1000000000) :
    Calls Try.prog 17 #[.pointer (some ⟨p, 0, none⟩), .slice A n c] W fun e W' => e = .returned (.int .i64 3) ∧ W = W' := by
  go_enter Try.func17, Try.ntmps17
  go_wp2
  go_ret
  exact ⟨rfl, rfl⟩
set_option maxHeartbeats 1000000 in
theorem lappend_any (W : World) (p : Nat) (ad A : Option Addr) (cap c n : Nat) (b xs : List Int) (sure : Int) (h : LO W p ad cap b sure) (hl : b.length ≤ 1000000000) (hr : Reads W A (bv xs)) (hb : Bytes xs) (hn : n = xs.length) (hx : n ≤ 65535)
    (hA : xs = [] ∨ ∀ a, A = some a → a.block ≠ p ∧ (Value.slice ad b.length cap).ownBlock ≠ some a.block) :
    Calls Try.prog 17 #[.pointer (some ⟨p, 0, none⟩), .slice A n c] W (LOPost W p (.slice ad b.length cap) (.int .i64 0) (b ++ packP xs) sure) := by
  have c0 := cell_of_blk (i := 0) h.blk
  have f0 := free_of_blk (i := 0) h.blk
  simp at c0
  have hlt0 := lt_of_block h.blk
  have HB := Lib.hid h
  have hne := own_ne h.own h.blk (by decide)
  clear h
  obtain ⟨i0, hi, hz0, hz1, hz2⟩ := info_parts info5
  have hd : decide (65535 < (n : Int)) = false := by simp; omega
  have HN := Lib.hid hn
  have T0 := (Turns.refl (fun k => k = p ∨ (Value.slice ad b.length cap).ownBlock = some k) W).alloc (.cells #[.int .u8 ((n : Int) / 256), .int .u8 ((n : Int) % 256)] 5)
  have L0 := HB.out.keep ((Turns.refl (fun _ => False) W).alloc (.cells #[.int .u8 ((n : Int) / 256), .int .u8 ((n : Int) % 256)] 5)) (fun h => h) (fun _ _ h => h)
  have R0 := Lib.hid (hr.below ((Below.refl W.heap.size W).alloc (Nat.le_refl _) (.cells #[.int .u8 ((n : Int) / 256), .int .u8 ((n : Int) % 256)] 5)))
  have HO := L0.own
  have HBK := Lib.hid L0.blk
  have HA := Lib.hid hA
  have HBy := Lib.hid hb
  clear hn L0 hr hA hb
  go_enter Try.func17, Try.ntmps17
  go_wp2_with (at_builtin; refine wpList_row_append _ rfl (.tmp 16) (.tmp 24) 38 rfl 0 (Nat.zero_le _) 5 i0 _ 1 1 Try.underlying38 hi hz0 hz1 hz2 rfl (by decide) (.slice ad b.length cap) b.length (bv b) rfl HO ⟨W.heap.size, 0, none⟩ 2 2 [.int .u8 ((n : Int) / 256), .int .u8 ((n : Int) % 256)] rfl rfl (fun j u hu => by rw [Addr.add_lit, Nat.zero_add, World.cell?_alloc_new, List.getElem?_toArray]; exact hu) (by simp [Value.oneCell']) (by omega) (by decide) ?_)
  intro v1 w1 ow1 hg1 hf1
  obtain ⟨ad1, cap1, rfl⟩ := slice_of_own ow1
  have b1 := hg1.keep HBK.out hne
  have c1 := cell_of_blk (i := 0) b1
  have f1 := free_of_blk (i := 0) b1
  simp at c1
  have hne1 := own_ne ow1 b1 (by decide)
  have ow2 := ownsRow_setCell_other (a := ⟨p, 0, none⟩) ow1 hne1 (.slice ad1 (b.length + 2) cap1)
  have b2 := Lib.hid (blk_setCell b1 0 (.slice ad1 (b.length + 2) cap1))
  have R2 : Reads (w1.setCell ⟨p, 0, none⟩ (.slice ad1 (b.length + 2) cap1)) A (bv xs) := by
    rcases HA.out with hx0 | hx0
    · rw [hx0]; exact Reads.nil _ _
    · exact (R0.out.keep hg1 (fun a ha => (hx0 a ha).2)).keep (Turns.setCell (F := fun k => k = p) (p := ⟨p, 0, none⟩) (Turns.refl _ w1) (.inr rfl) (.slice ad1 (b.length + 2) cap1)) (fun a ha => (hx0 a ha).1)
  have R2 := Lib.hid R2
  have T2 := (T0.trans (hg1.mono (fun k hk hF => Or.inr hF))).setCell (p := ⟨p, 0, none⟩) (.inr (.inl rfl)) (.slice ad1 (b.length + 2) cap1)
  have F1 : Fresh W (.slice ad b.length cap) (.slice ad1 (b.length + 2) cap1) := Fresh.trans (Fresh.refl W _) hf1 (by simp)
  have s0 := T0.size
  clear ow1 hg1 hf1 b1 HO c0 f0 T0 HBK R0
  go_wp2_with (at_builtin; refine wpList_row_append_any _ rfl (.tmp 32) (.tmp 33) 38 rfl 0 (Nat.zero_le _) 5 i0 _ 1 1 Try.underlying38 hi hz0 hz1 hz2 rfl (by decide) (.slice ad1 (b.length + 2) cap1) (b.length + 2) (bv b ++ [.int .u8 ((n : Int) / 256), .int .u8 ((n : Int) % 256)]) rfl ow2 A n c (bv xs) rfl (by rw [bv_length, HN.out, Nat.mul_one]) R2.out (bv_one _) (by omega) (by decide) ?_)
  intro v3 w3 ow3 hg3 hf3
  obtain ⟨ad3, cap3, rfl⟩ := slice_of_own ow3
  have b2' := b2.out
  simp at b2'
  have b3 := hg3.keep b2' hne1
  have c3 := cell_of_blk (i := 0) b3
  have f3 := free_of_blk (i := 0) b3
  simp at c3
  have hne3 := own_ne ow3 b3 (by decide)
  have ow4 := ownsRow_setCell_other (a := ⟨p, 0, none⟩) ow3 hne3 (.slice ad3 (b.length + 2 + n) cap3)
  have b4 := blk_setCell b3 0 (.slice ad3 (b.length + 2 + n) cap3)
  simp at b4
  have F3 : Fresh W (.slice ad b.length cap) (.slice ad3 (b.length + 2 + n) cap3) := Fresh.trans F1 hf3 T2.size
  have T4 := Turns.setCell (p := ⟨p, 0, none⟩) (T2.then_row hg3 F1) (.inr (.inl rfl)) (.slice ad3 (b.length + 2 + n) cap3)
  have e1 : (b ++ packP xs).length = b.length + 2 + n := by rw [List.length_append, packP_length, HN.out]; omega
  have hfin : LO (w3.setCell ⟨p, 0, none⟩ (.slice ad3 (b.length + 2 + n) cap3)) p ad3 cap3 (b ++ packP xs) sure := by
    refine ⟨by rw [e1]; exact b4, ?_, Bytes.append HB.out.bytes (packP_bytes HBy.out (by rw [← HN.out]; exact hx))⟩
    rw [e1]
    have e2 : bv (b ++ packP xs) = bv b ++ [.int .u8 ((n : Int) / 256), .int .u8 ((n : Int) % 256)] ++ bv xs := by
      unfold packP
      rw [bv_append, bv_append, ← HN.out, List.append_assoc]
      simp [bv]
    rw [e2, List.append_assoc]
    exact ow4
  have HFIN := Lib.hid hfin
  have HF3 := Lib.hid F3
  clear hfin F3 ow3 ow4 b2' b3 b4 hg3 hf3 T2 F1 ow2
  go_wp2
  go_ret
  exact ⟨rfl, ad3, cap3, HFIN.out, T4, by rw [e1]; exact HF3.out⟩
end Go.Proofs.Ytddchhoplomjgaa

/- The document's put. -/
import Derived.Test.YtddchhoplomjgaaLCr1
import Derived.Laws.Bits128
namespace Go.Proofs.Ytddchhoplomjgaa
open Go.RowKit Go.Proofs.YtddchhoplomjgaaW.PrintLast
set_option linter.unusedVariables false
set_option linter.unusedSimpArgs false
theorem i64_and255 (n : Int) : bits .and .i64 n 255 = n % 256 := by
  have h255 : (BitVec.ofInt 64 255).toNat = 2 ^ 8 - 1 := by decide
  have key : (BitVec.ofInt 64 n &&& BitVec.ofInt 64 255).toNat = (n % ((2 ^ 64 : Nat) : Int)).toNat % 2 ^ 8 := by
    rw [BitVec.toNat_and, BitVec.toNat_ofInt, h255, Nat.and_two_pow_sub_one_eq_mod]
  show IntKind.i64.wrap ((BitVec.ofInt 64 n &&& BitVec.ofInt 64 255).toNat : Nat) = n % 256
  rw [key, IntKind.wrap_i64]
  omega
/-- what an append onto a row of one's own leaves -/
theorem Turns.then_app {v v1 : Value} {W W2 w3 : World} (T : Turns (fun k => v.ownBlock = some k) W W2) (T2 : Turns (fun k => v1.ownBlock = some k) W2 w3) (F : Fresh W v v1) : Turns (fun k => v.ownBlock = some k) W w3 :=
  ⟨T2.os.trans T.os, T2.tape.trans T.tape, T2.output.trans T.output, Nat.le_trans T.size T2.size, fun k hk hF => (T2.block k (Nat.lt_of_lt_of_le hk T.size) (fun h => by
    rcases F with F | ⟨q, F, hq⟩
    · rw [F] at h; exact hF h
    · rw [F] at h; injection h with h; omega)).trans (T.block k hk hF)⟩
def two (n : Nat) : List Int := [((n / 256 : Nat) : Int), ((n % 256 : Nat) : Int)]
def PutPost (W : World) (v : Value) (b : List Int) (e : Ending) (W' : World) : Prop :=
  ∃ v', e = .returned v' ∧ W'.ownsRow 0 5 1 v' b.length (bv b) ∧ Turns (fun k => v.ownBlock = some k) W W' ∧ Fresh W v v'
set_option maxHeartbeats 1000000 in
theorem put_any (W : World) (v : Value) (b : List Int) (n : Nat) (hn : n ≤ 65535) (hl : b.length ≤ 1000000000) (h : W.ownsRow 0 5 1 v b.length (bv b)) :
    Calls Try.prog 43 #[v, .int .i64 n, .int .i64 2] W (PutPost W v (b ++ two n)) := by
  obtain ⟨i0, hi, hz0, hz1, hz2⟩ := info_parts info5
  have HW := Lib.hid h
  have e8 : (n : Int) / 256 ≤ 255 := by omega
  have q0 : bits .and .i64 ((n : Int) / 256) 255 = (n : Int) / 256 := by rw [i64_and255]; omega
  have q1 : bits .and .i64 (n : Int) 255 = (n : Int) % 256 := by rw [i64_and255]
  have q2 : ((n : Int) / 256) % 256 = (n : Int) / 256 := by omega
  have q3 : ((n : Int) % 256) % 256 = (n : Int) % 256 := by omega
  have e9 : (0 : Int) ≤ (n : Int) / 256 := by omega
  go_enter Try.func43, Try.ntmps43
  go_wp2
  go_loopw [0, 7] (fun u i wr => ∃ j : Nat, j ≤ 2 ∧ i = .int .i64 (1 - (j : Int)) ∧ wr.ownsRow 0 5 1 u (b.length + j) (bv (b ++ (two n).take j)) ∧ Turns (fun k => v.ownBlock = some k) W wr ∧ Fresh W v u) (fun _ i _ => (intOf i + 2).toNat)
  case atStart => exact ⟨0, by omega, rfl, by simpa [two] using h, Turns.refl _ _, Fresh.refl _ _⟩
  case round =>
    obtain ⟨j, hj, rfl, ho, hT, hF⟩ := hrel
    obtain ⟨adu, capu, rfl⟩ := slice_of_own ho
    have HO := Lib.hid ho
    have HT := Lib.hid hT
    have HF := Lib.hid hF
    clear ho hT hF h
    obtain rfl | rfl | rfl : j = 0 ∨ j = 1 ∨ j = 2 := by omega
    · skip
      have ho := HO.out.alloc (.cells #[.int .u8 ((n : Int) / 256)] 5)
      have hT := HT.out.alloc (.cells #[.int .u8 ((n : Int) / 256)] 5)
      have HT2 : W.heap.size ≤ (wr.alloc (.cells #[.int .u8 0] 5)).heap.size := by have := HT.out.size; simp; omega
      clear HO HT
      go_wp2_with (at_builtin; refine wpList_row_append _ rfl (.tmp 14) (.tmp 22) 38 rfl 0 (Nat.zero_le _) 5 i0 _ 1 1 Try.underlying38 hi hz0 hz1 hz2 rfl (by decide) (.slice adu (b.length + 0) capu) (b.length + 0) (bv (b ++ (two n).take 0)) rfl ho ⟨wr.heap.size, 0, none⟩ 1 1 [.int .u8 ((n : Int) / 256)] rfl rfl (fun j u hu => by rw [Addr.add_lit, Nat.zero_add, World.cell?_alloc_new, List.getElem?_toArray]; exact hu) (by simp [Value.oneCell']) (by omega) (by decide) ?_)
      intro v1 w1 ow1 hg1 hf1
      have hT1 := Turns.then_app hT hg1 HF.out
      have hF1 := Fresh.trans HF.out hf1 (by simpa using HT2)
      obtain ⟨ad1, cap1, rfl⟩ := slice_of_own ow1
      have ow2 : w1.ownsRow 0 5 1 (.slice ad1 (b.length + 1) cap1) (b.length + 1) (bv (b ++ (two n).take 1)) := by
        have e : bv (b ++ (two n).take 1) = bv b ++ [Value.int .u8 ((n : Int) / 256)] := by simp [bv, two]
        rw [e]
        simpa using ow1
      go_wp2
      refine ⟨⟨1, by omega, by simp, ow2, hT1, hF1⟩, by simp [intOf]⟩
    · skip
      have ho := HO.out.alloc (.cells #[.int .u8 ((n : Int) % 256)] 5)
      have hT := HT.out.alloc (.cells #[.int .u8 ((n : Int) % 256)] 5)
      have HT2 : W.heap.size ≤ (wr.alloc (.cells #[.int .u8 0] 5)).heap.size := by have := HT.out.size; simp; omega
      clear HO HT
      go_wp2_with (at_builtin; refine wpList_row_append _ rfl (.tmp 14) (.tmp 22) 38 rfl 0 (Nat.zero_le _) 5 i0 _ 1 1 Try.underlying38 hi hz0 hz1 hz2 rfl (by decide) (.slice adu (b.length + 1) capu) (b.length + 1) (bv (b ++ (two n).take 1)) rfl ho ⟨wr.heap.size, 0, none⟩ 1 1 [.int .u8 ((n : Int) % 256)] rfl rfl (fun j u hu => by rw [Addr.add_lit, Nat.zero_add, World.cell?_alloc_new, List.getElem?_toArray]; exact hu) (by simp [Value.oneCell']) (by omega) (by decide) ?_)
      intro v1 w1 ow1 hg1 hf1
      have hT1 := Turns.then_app hT hg1 HF.out
      have hF1 := Fresh.trans HF.out hf1 (by simpa using HT2)
      obtain ⟨ad1, cap1, rfl⟩ := slice_of_own ow1
      have ow2 : w1.ownsRow 0 5 1 (.slice ad1 (b.length + 2) cap1) (b.length + 2) (bv (b ++ (two n).take 2)) := by
        have e : bv (b ++ (two n).take 2) = bv (b ++ (two n).take 1) ++ [Value.int .u8 ((n : Int) % 256)] := by simp [bv, two]
        rw [e]
        exact ow1
      go_wp2
      refine ⟨⟨2, by omega, by simp, ow2, hT1, hF1⟩, by simp [intOf]⟩
    · skip
      have ho := HO.out
      go_wp2
      go_ret
      refine ⟨_, rfl, ?_, HT.out, HF.out⟩
      have e1 : (b ++ two n).length = b.length + 2 := by rw [List.length_append]; rfl
      rw [e1]
      exact ho
end Go.Proofs.Ytddchhoplomjgaa

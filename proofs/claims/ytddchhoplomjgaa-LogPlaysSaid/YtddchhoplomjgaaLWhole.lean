/- The document's whole. -/
import Derived.Test.YtddchhoplomjgaaLRef
import Derived.Deep.QuietTactic
import Derived.BigQuiet
import Derived.WalkSmall
namespace Go.Proofs.Ytddchhoplomjgaa
open Go.RowKit Go.Proofs.YtddchhoplomjgaaW.PrintLast
set_option linter.unusedVariables false
set_option linter.unusedSimpArgs false
theorem i64_or8 (x y : Int) (hx0 : 0 ≤ x) (hx1 : x ≤ 255) (hy0 : 0 ≤ y) (hy1 : y ≤ 255) : bits .or .i64 (x * 256) y = x * 256 + y := by
  obtain ⟨a, rfl⟩ : ∃ a : Nat, x = a := ⟨x.toNat, by omega⟩
  obtain ⟨c, rfl⟩ : ∃ c : Nat, y = c := ⟨y.toNat, by omega⟩
  have ha : a < 256 := by omega
  have hc : c < 256 := by omega
  have e1 : (BitVec.ofInt 64 ((a : Int) * 256)).toNat = 2 ^ 8 * a := by rw [BitVec.toNat_ofInt]; omega
  have e2 : (BitVec.ofInt 64 (c : Int)).toNat = c := by rw [BitVec.toNat_ofInt]; omega
  have key : (BitVec.ofInt 64 ((a : Int) * 256) ||| BitVec.ofInt 64 (c : Int)).toNat = 2 ^ 8 * a + c := by
    rw [BitVec.toNat_or, e1, e2, Nat.two_pow_add_eq_or_of_lt (by simpa using hc)]
  show IntKind.i64.wrap ((BitVec.ofInt 64 ((a : Int) * 256) ||| BitVec.ofInt 64 (c : Int)).toNat : Nat) = _
  rw [key, IntKind.wrap_i64]
  omega
def WholePost (W : World) (b : List Int) (e : Ending) (W' : World) : Prop := ∃ v, e = .returned (.tuple #[.int .i64 (wholeN b : Nat), v]) ∧ RowsAt W' W.heap.size v (allP b) ∧ Below W.heap.size W W'
theorem RowsAt.belowB {W W' : World} {B : Nat} {v : Value} {rows : List (List Int)} (h : RowsAt W B v rows) (hb : Below W.heap.size W W') : RowsAt W' B v rows := h.keep (Turns.of_below hb (fun _ => False)) (fun _ _ h => h)
theorem byte_at {W : World} {A : Option Addr} {b : List Int} (h : Reads W A (bv b)) (j : Nat) (hj : j < b.length) : ∃ bb off, A = some ⟨bb, off, none⟩ ∧ W.cell? ⟨bb, off + j, none⟩ = some (.int .u8 b[j]) := by
  obtain ⟨bb, off, h1, _, h3⟩ := h j _ (bv_get b j hj)
  exact ⟨bb, off, h1, h3⟩
theorem nextP_short {b : List Int} (h : b.length < 2) : nextP b = none := by
  match b, h with
  | [], _ => rfl
  | [_], _ => rfl
set_option maxHeartbeats 2000000 in
theorem whole_any (W : World) (A : Option Addr) (cap : Nat) (b : List Int) (hr : Reads W A (bv b)) (hb : Bytes b) (hcap : b.length ≤ cap) (hl : b.length ≤ 1000000000) :
    Calls Try.prog 45 #[.slice A b.length cap] W (WholePost W b) := by
  have HR := Lib.hid hr
  have HBy := Lib.hid hb
  clear hr hb
  obtain ⟨i0, hi, hz0, hz1, hz2⟩ := info_parts info38
  obtain ⟨i5, gi, gz0, gz1, gz2⟩ := info_parts info5
  go_enter Try.func45, Try.ntmps45
  go_wp2
  go_loopw [4, 5] (fun i o wr => ∃ n : Nat, n ≤ b.length ∧ i = .int .i64 n ∧ n + wholeN (b.drop n) = wholeN b ∧ ∃ rows, rows ++ allP (b.drop n) = allP b ∧ rows.length ≤ n ∧ RowsAt wr W.heap.size o rows ∧ Below W.heap.size W wr) (fun i _ _ => b.length - (intOf i).toNat)
  case atStart => exact ⟨0, Nat.zero_le _, rfl, by simp, [], rfl, Nat.le_refl _, RowsAt.nil _ _, Below.refl _ _⟩
  case round =>
    obtain ⟨n, hn, rfl, hwn, rows, hrows, hrn, hra, hbel⟩ := hrel
    obtain ⟨ado, capo, rfl⟩ := hra.shape
    have HRows := Lib.hid hrows
    have HRA := Lib.hid hra
    have HBel := Lib.hid hbel
    have HWN := Lib.hid hwn
    clear hrows hra hbel hwn
    by_cases h2 : b.length < n + 2
    · have d3 : ¬ (2 : Int) ≤ (b.length : Int) - n := by omega
      have HX := Lib.hid (show nextP (b.drop n) = none from nextP_short (by rw [List.length_drop]; omega))
      go_wp2
      go_ret2
      have e1 : rows = allP b := by have := HRows.out; rw [allP_none HX.out, List.append_nil] at this; exact this
      have e2 : n = wholeN b := by have := HWN.out; rw [wholeN_none HX.out] at this; omega
      exact ⟨.slice ado rows.length capo, by rw [← e2]; rfl, by rw [← e1]; exact HRA.out, HBel.out⟩
    · have d3 : (2 : Int) ≤ (b.length : Int) - n := by omega
      have hn0 : n < b.length := by omega
      have hn1 : n + 1 < b.length := by omega
      obtain ⟨bb, off, rfl, c0⟩ := byte_at (HR.out.below HBel.out) n hn0
      obtain ⟨bb', off', e', c1⟩ := byte_at (HR.out.below HBel.out) (n + 1) hn1
      injection e' with e'
      injection e' with e1 e2
      subst e1 e2
      have hx := HBy.out _ (List.getElem_mem hn0)
      have hy := HBy.out _ (List.getElem_mem hn1)
      have hdr : b.drop n = b[n] :: b[n + 1] :: b.drop (n + 2) := by rw [List.drop_eq_getElem_cons hn0, List.drop_eq_getElem_cons hn1]
      obtain ⟨x, hxe⟩ : ∃ x, b[n] = x := ⟨_, rfl⟩
      obtain ⟨y, hye⟩ : ∃ y, b[n + 1] = y := ⟨_, rfl⟩
      rw [hxe] at c0 hx hdr
      rw [hye] at c1 hy hdr
      have HD := Lib.hid hdr
      obtain ⟨hx0, hx1⟩ := hx
      obtain ⟨hy0, hy1⟩ := hy
      clear hxe hye hdr
      have i0' : (n : Int) < (b.length : Int) := by omega
      have i1' : (n : Int) + 1 < (b.length : Int) := by omega
      obtain ⟨kk, hkk⟩ : ∃ kk : Nat, x * 256 + y = (kk : Int) := ⟨(x * 256 + y).toNat, by omega⟩
      have HK := Lib.hid hkk
      have hk2 : kk ≤ 65535 := by omega
      have hor : bits .or .i64 (x * 256) y = (kk : Int) := by rw [i64_or8 x y hx0 hx1 hy0 hy1]; exact hkk
      clear hkk
      go_wp2
      go_quiet (fail)
      by_cases h3 : b.length < n + 2 + kk
      · have d4 : (b.length : Int) - n < 2 + (kk : Int) := by omega
        have hx : nextP (b.drop n) = none := by rw [HD.out, nextP_cons, if_neg (by have := HK.out; rw [List.length_drop]; omega)]
        have HX := Lib.hid hx
        clear hx
        go_wp2
        go_ret2
        have e1 : rows = allP b := by have := HRows.out; rw [allP_none HX.out, List.append_nil] at this; exact this
        have e2 : n = wholeN b := by have := HWN.out; rw [wholeN_none HX.out] at this; omega
        exact ⟨.slice ado rows.length capo, by rw [← e2]; rfl, by rw [← e1]; exact HRA.out.belowB (below_drewN (Below.refl _ _) _), below_drewN HBel.out _⟩
      · have d4 : ¬ (b.length : Int) - n < 2 + (kk : Int) := by omega
        have hx : nextP (b.drop n) = some ((b.drop (n + 2)).take kk, kk + 2) := by
          have e : (x * 256 + y).toNat = kk := by rw [HK.out]; omega
          rw [HD.out, nextP_cons, e, if_pos (by rw [List.length_drop]; omega)]
        have HX := Lib.hid hx
        obtain ⟨ys, hys⟩ : ∃ ys, (b.drop (n + 2)).take kk = ys := ⟨_, rfl⟩
        have hyl : ys.length = kk := by rw [← hys, List.length_take, List.length_drop]; omega
        have hrd : Reads (wr.drewN nq) (cutAt (some ⟨bb, off, none⟩) cap (n + 2) 1) (bv ys) := by
          have h1 := HR.out.below (below_drewN HBel.out nq)
          have h2 := (h1.cut cap (n + 2) 1 (fun e => by rw [bv_length]; omega)).take kk
          rw [Nat.mul_one] at h2
          rw [← hys]
          simpa [bv] using h2
        have HYS := Lib.hid hys
        have HRD := Lib.hid hrd
        have HYL := Lib.hid hyl
        have s2 := HBel.out.size
        have hB1 := below_drewN HBel.out nq
        have hR1 := HRA.out.belowB (below_drewN (Below.refl _ _) nq)
        have hs1 : wr.heap.size = (wr.drewN nq).heap.size := by rw [World.heap_drewN]
        generalize wr.drewN nq = w1 at *
        have HB1 := Lib.hid hB1
        have HR1 := Lib.hid hR1
        clear hx hys hrd hyl hB1 hR1 HBel HRA
        have ow0 := World.ownsRow_nil w1 W.heap.size 5 1
        go_wp2_with (first
          | (refine wpList_cut_both rfl 38 5 (.tmp 33) (.tmp 35) (.tmp 39) rfl 1 Try.underlying38 size5 (some ⟨bb, off, none⟩) b.length cap (n + 2) (n + 2 + kk) rfl rfl rfl (by omega) (by omega) ?_)
          | (at_builtin; refine wpList_row_append_any _ rfl (.const (.slice none 0 0)) (.tmp 40) 38 rfl W.heap.size (by omega) 5 i5 _ 1 1 Try.underlying38 gi gz0 gz1 gz2 rfl (by decide) (.slice none 0 0) 0 [] rfl ow0 (cutAt (some ⟨bb, off, none⟩) cap (n + 2) 1) (n + 2 + kk - (n + 2)) (cap - (n + 2)) (bv ys) rfl (by rw [bv_length, HYL.out]; omega) HRD.out (bv_one _) (by omega) (by decide) ?_))
        intro v2 w2 ow2 hg2 hf2
        obtain ⟨ad2, cap2, rfl⟩ := slice_of_own ow2
        have T2 : Turns (fun _ => False) w1 w2 := hg2.mono (fun k _ h => by cases h)
        have T3 := (Turns.refl (fun _ => False) w2).alloc (.cells #[.slice ad2 kk cap2] 38)
        have R3 := Lib.hid ((HR1.out.keep T2 (fun _ _ h => h)).keep T3 (fun _ _ h => h))
        have hoy3 := Lib.hid (T3.own ow2 (fun _ _ h => h))
        have z1 := HB1.out.size
        have z2 := T2.size
        have B3 := Lib.hid ((HB1.out.trans (T2.below z1 (fun _ _ h => h))).alloc (Nat.le_trans z1 z2) (.cells #[.slice ad2 kk cap2] 38))
        obtain ⟨cs, hcs, hcs2⟩ := R3.out.cells
        have HCS2 := Lib.hid hcs2
        clear hg2 hf2 T2 T3 hcs2 ow2 ow0
        go_wp2_with (at_builtin; refine wpList_row_append _ rfl (.tmp 32) (.tmp 42) 44 rfl W.heap.size (by simp; omega) 38 i0 _ 1 24 Try.underlying44 hi hz0 hz1 hz2 rfl (by decide) (.slice ado rows.length capo) rows.length cs rfl hcs ⟨w2.heap.size, 0, none⟩ 1 1 [.slice ad2 kk cap2] rfl rfl (fun j u hu => by rw [Addr.add_lit, Nat.zero_add, World.cell?_alloc_new, List.getElem?_toArray]; exact hu) (by simp [Value.oneCell']) (by omega) (by decide) ?_)
        intro v4 w4 ow4 hg4 hf4
        have R4 : RowsAt w4 W.heap.size v4 (rows ++ [ys]) := RowsAt.snoc (ad := ad2) (cap := cap2) cs hcs HCS2.out (by rw [HYL.out]; exact hoy3.out) (by rw [HYL.out]; exact ow4) hg4
        have B4 := B3.out.trans (hg4.below (B := W.heap.size) (by simp; omega) (fun q hq hF => by have := (hcs.lt q hF).1; omega))
        have HR4 := Lib.hid R4
        have HB4 := Lib.hid B4
        clear R4 B4 ow4 hg4 hf4 hcs
        go_wp2
        refine ⟨⟨n + 2 + kk, by omega, by go_num, ?_, rows ++ [ys], ?_, by rw [List.length_append]; simp; omega, HR4.out, HB4.out⟩, by simp [intOf]; omega⟩
        · have h1 := HWN.out
          rw [wholeN_some HX.out, List.drop_drop] at h1
          rw [show n + 2 + kk = n + (kk + 2) from by omega]
          omega
        · have h1 := HRows.out
          rw [allP_some HX.out, List.drop_drop, HYS.out] at h1
          rw [show n + 2 + kk = n + (kk + 2) from by omega, List.append_assoc, List.singleton_append]
          exact h1
theorem rall_any (W : World) (p : Nat) (ad : Option Addr) (cap : Nat) (b : List Int) (sure : Int) (h : RL W p ad cap b sure) (hl : b.length ≤ 1000000000) :
    Calls Try.prog 34 #[.pointer (some ⟨p, 0, none⟩)] W (AllPost W b) := by
  have c0 := cell_of_blk (i := 0) h.blk
  simp at c0
  have HW := Lib.hid (whole_any W ad cap b (Reads.of_own h.own) h.bytes (own_cap h.own) hl)
  clear h
  go_enter Try.func34, Try.ntmps34
  go_wp2_with fail
  refine HW.out.mono ?_
  rintro e w1 ⟨v, rfl, hra, hb⟩
  have HR := Lib.hid hra
  have HB := Lib.hid hb
  clear hra hb
  go_wp2
  go_ret
  exact ⟨v, rfl, HR.out, HB.out⟩
end Go.Proofs.Ytddchhoplomjgaa

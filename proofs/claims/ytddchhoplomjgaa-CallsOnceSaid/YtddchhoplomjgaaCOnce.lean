/- CallsOnce's walk. -/
import Derived.Test.YtddchhoplomjgaaCOncePlain
import Derived.Test.YtddchhoplomjgaaCLate
namespace Go.Proofs.Ytddchhoplomjgaa
open Go.RowKit Go.Proofs.YtddchhoplomjgaaW.PrintLast
set_option linter.unusedVariables false
set_option linter.unusedSimpArgs false
/-- the calls of a law's own: p the first block of its own -/
def CInv (W1 wr : World) (l : List CallR) (last : Int) : Prop := ∃ ad cap, CO wr W1.heap.size ad cap l last ∧ (∀ k, (Value.slice ad l.length cap).ownBlock = some k → W1.heap.size ≤ k) ∧ Turns (fun k => W1.heap.size ≤ k) W1 wr
theorem CInv.new (W : World) : CInv W (W.alloc (.cells #[.slice none 0 0, .int .i64 0] 27)) [] 0 :=
  ⟨none, 0, co_new W, fun k h => by simp [Value.ownBlock] at h, (Turns.refl _ W).alloc _⟩
theorem CInv.alloc {W1 wr : World} {l : List CallR} {last : Int} (h : CInv W1 wr l last) (o : Obj) : CInv W1 (wr.alloc o) l last := by
  obtain ⟨ad, cap, h1, h2, h3⟩ := h
  exact ⟨ad, cap, h1.keep ((Turns.refl (fun _ => False) wr).alloc o) (fun h => h) (fun _ _ h => h), h2, h3.alloc o⟩
theorem CInv.size {W1 wr : World} {l : List CallR} {last : Int} (h : CInv W1 wr l last) : W1.heap.size < wr.heap.size := by
  obtain ⟨ad, cap, h1, h2, h3⟩ := h
  exact lt_of_block h1.blk
theorem CInv.turns {W1 wr : World} {l : List CallR} {last : Int} (h : CInv W1 wr l last) : Turns (fun k => W1.heap.size ≤ k) W1 wr := by
  obtain ⟨ad, cap, h1, h2, h3⟩ := h
  exact h3
theorem cadd {W1 wr : World} {l : List CallR} {last : Int} (h : CInv W1 wr l last) (op peer now : Int) (hl : l.length ≤ 1000000) (h0 : 0 ≤ last) (h1 : last ≤ 1000000) (hn : 0 ≤ now) (hn2 : now ≤ 1000000) :
    Calls Try.prog 12 #[.pointer (some ⟨W1.heap.size, 0, none⟩), .int .i64 op, .int .i64 peer, .int .i64 now] wr fun e W' => e = .returned (.int .i64 (last + 1)) ∧ CInv W1 W' (l ++ [⟨last + 1, op, peer, now + 6⟩]) (last + 1) := by
  obtain ⟨ad, cap, g1, g2, g3⟩ := h
  refine (add_any wr _ ad cap l last op peer now g1 hl h0 h1 (by omega)).mono ?_
  rintro e W' ⟨he, ad', cap', k1, k2, k3⟩
  rw [capT_of (by omega)] at k1 k3
  refine ⟨he, ad', cap', k1, fun k hk => ?_, g3.trans (k2.mono fun k _ h => ?_)⟩
  · rcases k3 with k3 | ⟨b, k3, k4⟩
    · rw [k3] at hk
      exact g2 k hk
    · rw [k3] at hk
      injection hk with hk
      have := g3.size
      omega
  · rcases h with h | h
    · show W1.heap.size ≤ k
      omega
    · exact g2 k h
theorem ctake {W1 wr : World} {l : List CallR} {last : Int} (h : CInv W1 wr l last) (tag peer : Int) (hl : l.length ≤ 1000000) :
    Calls Try.prog 13 #[.pointer (some ⟨W1.heap.size, 0, none⟩), .int .i64 tag, .int .i64 peer] wr fun e W' => e = .returned (.tuple #[(takeR tag peer l).1.agg, .bool (takeR tag peer l).2]) ∧ CInv W1 W' (l.filter (fun x => !isTake tag peer x)) last := by
  obtain ⟨ad, cap, g1, g2, g3⟩ := h
  refine (take_any wr _ ad cap l last tag peer g1 hl).mono ?_
  rintro e W' ⟨he, ad', cap', k1, k2, k3⟩
  exact ⟨he, ad', cap', k1, fun k hk => Nat.le_trans g3.size (k2 k hk), g3.trans (k3.mono fun k _ h => by show W1.heap.size ≤ k; omega)⟩
theorem ctake_some {W1 wr : World} {l l' : List CallR} {last : Int} (h : CInv W1 wr l last) (tag peer xt xo xp xu : Int) (xs : List CallR) (hl : l.length ≤ 1000000) (hf : l.filter (isTake tag peer) = ⟨xt, xo, xp, xu⟩ :: xs) (hg : l.filter (fun x => !isTake tag peer x) = l') :
    Calls Try.prog 13 #[.pointer (some ⟨W1.heap.size, 0, none⟩), .int .i64 tag, .int .i64 peer] wr fun e W' => e = .returned (.tuple #[.agg #[.int .i64 xt, .int .i64 xo, .int .i64 xp, .int .i64 xu], .bool true]) ∧ CInv W1 W' l' last := by
  refine (ctake h tag peer hl).mono ?_
  rintro e W' ⟨he, hi⟩
  rw [takeR_cons hf] at he
  rw [hg] at hi
  exact ⟨he, hi⟩
theorem ctake_none {W1 wr : World} {l l' : List CallR} {last : Int} (h : CInv W1 wr l last) (tag peer : Int) (hl : l.length ≤ 1000000) (hf : l.filter (isTake tag peer) = []) (hg : l.filter (fun x => !isTake tag peer x) = l') :
    Calls Try.prog 13 #[.pointer (some ⟨W1.heap.size, 0, none⟩), .int .i64 tag, .int .i64 peer] wr fun e W' => e = .returned (.tuple #[.agg #[.int .i64 0, .int .i64 0, .int .i64 0, .int .i64 0], .bool false]) ∧ CInv W1 W' l' last := by
  refine (ctake h tag peer hl).mono ?_
  rintro e W' ⟨he, hi⟩
  rw [takeR_nil hf] at he
  rw [hg] at hi
  exact ⟨he, hi⟩
theorem clen {W1 wr : World} {l : List CallR} {last : Int} (h : CInv W1 wr l last) : Calls Try.prog 14 #[.pointer (some ⟨W1.heap.size, 0, none⟩)] wr fun e W' => e = .returned (.int .i64 l.length) ∧ wr = W' := by
  obtain ⟨ad, cap, g1, g2, g3⟩ := h
  exact len_any wr _ ad cap l last g1
theorem clate {W1 wr : World} {l l1 l2 : List CallR} {last : Int} (h : CInv W1 wr l last) (now : Int) (hl : l.length ≤ 1000000) (h1 : l.filter (isLate now) = l1) (h2 : l.filter (fun x => !isLate now x) = l2) :
    Calls Try.prog 15 #[.pointer (some ⟨W1.heap.size, 0, none⟩), .int .i64 now] wr fun e W' => ∃ ad cap, e = .returned (.slice ad l1.length cap) ∧ CInv W1 W' l2 last := by
  obtain ⟨ad, cap, g1, g2, g3⟩ := h
  refine (late_any wr _ ad cap l last now g1 hl).mono ?_
  rintro e W' ⟨ad1, cap1, ad', cap', he, ho, k1, k2, k3⟩
  rw [h1] at he
  rw [h2] at k1 k2
  exact ⟨ad1, cap1, he, ad', cap', k1, fun k hk => Nat.le_trans g3.size (k2 k hk), g3.trans (k3.mono fun k _ h => by show W1.heap.size ≤ k; omega)⟩
/-- numbers that came in -/
def Nums (w : World) (a : Option Addr) (xs : List Int) : Prop := ∀ j, j < xs.length → ∃ b off, a = some ⟨b, off, none⟩ ∧ b < w.heap.size ∧ w.cell? ⟨b, off + j, none⟩ = some (.int .i64 (xs.getD j 0))
set_option maxHeartbeats 1000000 in
theorem conce_out (W : World) (n : Int) (A : Option Addr) (cap : Nat) (xs : List Int) (hm : xs.length ≤ 9223372036854775807) (hg : ¬ (0 ≤ n ∧ n ≤ 50 ∧ n ≤ xs.length)) : Calls Try.prog 3 #[.int .i64 n, .slice A xs.length cap] W fun e W' => e = .returned (.bool true) ∧ Below W.heap.size W W' := by
  by_cases h1 : n < 0
  · clear hg
    go_enter Try.func3, Try.ntmps3
    go_wp2_with fail
    refine (calive_any _).mono ?_
    rintro e w1 ⟨rfl, hb⟩
    go_wp2
    go_ret
    exact ⟨rfl, hb⟩
  by_cases h2 : 50 < n
  · clear hg
    go_enter Try.func3, Try.ntmps3
    go_wp2_with fail
    refine (calive_any _).mono ?_
    rintro e w1 ⟨rfl, hb⟩
    go_wp2
    go_ret
    exact ⟨rfl, hb⟩
  · have h3 : (xs.length : Int) < n := by omega
    clear hg
    go_enter Try.func3, Try.ntmps3
    go_wp2_with fail
    refine (calive_any _).mono ?_
    rintro e w1 ⟨rfl, hb⟩
    go_wp2
    go_ret
    exact ⟨rfl, hb⟩
set_option maxHeartbeats 2000000 in
theorem conce_in (W : World) (n : Nat) (A : Option Addr) (cap : Nat) (xs : List Int) (hm : xs.length ≤ 9223372036854775807) (hn : Nums W A xs) (h1 : n ≤ 50) (h2 : n ≤ xs.length) :
    Calls Try.prog 3 #[.int .i64 n, .slice A xs.length cap] W fun e W' => e = .returned (.bool true) ∧ Below W.heap.size W W' := by
  have d1 : decide ((n : Int) < 0) = false := by simp
  have d2 : decide (50 < (n : Int)) = false := by simp; omega
  have d3 : decide (xs.length < n) = false := by simp; omega
  go_enter Try.func3, Try.ntmps3
  go_wp2_with fail
  refine (calive_any _).mono ?_
  rintro e w1 ⟨rfl, hb⟩
  have h0 := Lib.hid (CInv.new w1)
  have hn1 := Lib.hid hn
  clear hn
  go_wp2
  go_loopw [7] (fun i wr => ∃ k : Nat, k ≤ n ∧ i = .int .i64 k ∧ ∃ l, CInv w1 wr l k ∧ l.length = k ∧ Added l) (fun i _ => n - (intOf i).toNat)
  case atStart => exact ⟨0, Nat.zero_le _, rfl, [], h0.out, rfl, Added.nil⟩
  case round =>
    obtain ⟨k, hk, rfl, l, hl, hlk, hadd⟩ := hrel
    obtain rfl := hlk
    by_cases hlt : l.length < n
    · obtain ⟨b, off, rfl, hbl, hc⟩ := hn1.out l.length (by omega)
      have hc1 : w1.cell? ⟨b, off + l.length, none⟩ = some (.int .i64 (xs.getD l.length 0)) := by rw [hb.cell hbl]; exact hc
      have hc2 := hl.turns.cell hc1 (by have := hb.size; dsimp only; omega)
      generalize xs.getD l.length 0 = z at hc2
      clear hc hc1
      have HL := Lib.hid hl
      have HA := Lib.hid hadd
      clear hl hadd
      have hi : ((l.length : Int) < (xs.length : Int)) := by omega
      go_wp2_with fail
      refine (cadd HL.out _ _ _ (by omega) (by omega) (by omega) (by omega) (by omega)).mono ?_
      rintro e w2 ⟨rfl, hl2⟩
      have hs2 := Lib.hid hl2
      have hne : ((l.length : Int) + 1 != (l.length : Int) + 1) = false := by simp
      clear hl2 hc2
      go_wp2
      go_roundw
      case rel => exact ⟨l.length + 1, by omega, by go_num, _, hs2.out, by simp, HA.out.snoc _⟩
      case measure => simp [intOf]; omega
    · have hln : l.length = n := by omega
      rw [hln] at hl
      have HL := Lib.hid hl
      have HA := Lib.hid hadd
      have HN := Lib.hid hln
      clear hl hadd hk hln
      go_wp2
      go_loopw [8, 9] (fun left i wr => ∃ k m : Nat, k ≤ n ∧ i = .int .i64 k ∧ left = .int .i64 m ∧ ∃ kept, Kept k kept ∧ m = (kept ++ l.drop k).length ∧ m ≤ 50 ∧ CInv w1 wr (kept ++ l.drop k) n) (fun _ i _ => n - (intOf i).toNat)
      case atStart => exact ⟨0, n, Nat.zero_le _, rfl, rfl, [], Kept.nil 0, by simp [HN.out], h1, HL.out⟩
      case round =>
        obtain ⟨k, m, hk, rfl, rfl, kept, hkept, hm, hm50, hl2⟩ := hrel
        have HL2 := Lib.hid hl2
        have HK := Lib.hid hkept
        have HM := Lib.hid hm
        clear hl2 hkept hm
        by_cases hlt : k < n
        · obtain ⟨b, off, rfl, hbl, hc⟩ := hn1.out k (by omega)
          have hc1 : w1.cell? ⟨b, off + k, none⟩ = some (.int .i64 (xs.getD k 0)) := by rw [hb.cell hbl]; exact hc
          have hc2 := HL2.out.turns.cell hc1 (by have := hb.size; dsimp only; omega)
          generalize xs.getD k 0 = z at hc2
          clear hc hc1
          have hi : ((k : Int) < (xs.length : Int)) := by omega
          have hkl := Lib.hid (show k < l.length by rw [HN.out]; exact hlt)
          have P1 := Lib.hid (once_first HA.out hkl.out HK.out)
          obtain ⟨m', rfl⟩ : ∃ m', m = m' + 1 := by
            have := HM.out
            rw [List.length_append, List.length_drop, HN.out] at this
            exact ⟨m - 1, by omega⟩
          rcases Bool.eq_false_or_eq_true (bits BinOp.and IntKind.i64 z 4 == 0) with hz | hz
          · have HX := Lib.hid (show ∃ x, l[k]'hkl.out = x from ⟨_, rfl⟩)
            obtain ⟨⟨xt, xo, xp, xu⟩, hx⟩ := HX.out
            have HX := Lib.hid hx
            clear hx
            have Q1 := fun (wr : World) (h : CInv w1 wr (kept ++ l.drop k) n) => ctake_some h ((k : Int) + 1) 7 xt xo xp xu [] (by rw [← HM.out]; omega) (by rw [P1.out.1, HX.out]) P1.out.2
            have Q2 := fun (wr : World) (h : CInv w1 wr (kept ++ l.drop (k + 1)) n) => ctake_none h ((k : Int) + 1) 7 (by rw [List.length_append, List.length_drop]; have := HM.out; rw [List.length_append, List.length_drop] at this; omega) (once_gone 7 HA.out HK.out).1 (once_gone 7 HA.out HK.out).2
            have Q3 := fun (wr : World) (h : CInv w1 wr (kept ++ l.drop (k + 1)) n) => ctake_none h ((k : Int) + 1) 8 (by rw [List.length_append, List.length_drop]; have := HM.out; rw [List.length_append, List.length_drop] at this; omega) (once_gone 8 HA.out HK.out).1 (once_gone 8 HA.out HK.out).2
            have Q1 := Lib.hid Q1
            have Q2 := Lib.hid Q2
            have Q3 := Lib.hid Q3
            go_wp2_with fail
            refine (Q1.out _ HL2.out).mono ?_
            rintro e w2 ⟨rfl, hi2⟩
            replace hi2 := Lib.hid (hi2.alloc (.cells #[.int .i64 xt, .int .i64 xo, .int .i64 xp, .int .i64 xu] 30))
            go_wp2_with fail
            refine (Q2.out _ hi2.out).mono ?_
            rintro e w3 ⟨rfl, hi3⟩
            replace hi3 := Lib.hid (hi3.alloc (.cells #[.int .i64 0, .int .i64 0, .int .i64 0, .int .i64 0] 30))
            go_wp2_with fail
            refine (Q3.out _ hi3.out).mono ?_
            rintro e w4 ⟨rfl, hi4⟩
            replace hi4 := Lib.hid (hi4.alloc (.cells #[.int .i64 0, .int .i64 0, .int .i64 0, .int .i64 0] 30))
            clear hi2 hi3 hc2
            go_wp2
            go_roundw
            case rel => exact ⟨k + 1, m', by omega, by go_num, by go_num, kept, HK.out.succ, by have := HM.out; rw [List.length_append, List.length_drop] at this; rw [List.length_append, List.length_drop]; have := hkl.out; omega, by omega, hi4.out⟩
            case measure => simp [intOf]; omega
          · clear P1
            go_wp2
            go_roundw
            case rel => exact ⟨k + 1, m' + 1, by omega, by go_num, rfl, kept ++ [l[k]'hkl.out], HK.out.snoc HA.out hkl.out (by rw [HN.out]; exact h1), by rw [HM.out, List.append_assoc, List.singleton_append, ← List.drop_eq_getElem_cons], hm50, by rw [List.append_assoc, List.singleton_append, ← List.drop_eq_getElem_cons]; exact HL2.out⟩
            case measure => simp [intOf]; omega
        · have hkn : k = n := by omega
          subst hkn
          have HL3 := HL2.out
          have HM3 := HM.out
          rw [List.drop_of_length_le (by rw [HN.out]; exact Nat.le_refl _), List.append_nil] at HL3 HM3
          obtain rfl := HM3
          have HL3 := Lib.hid HL3
          have hlate := Lib.hid (once_late (k : Int) (by omega) HK.out)
          have hnn := Lib.hid (show ∀ q : Int, List.filter (isLate q) [] = [] ∧ List.filter (fun x => !isLate q x) [] = [] from fun q => ⟨rfl, rfl⟩)
          have hne : ((kept.length : Int) != (kept.length : Int)) = false := by simp
          clear HM HL2 HA HN HL
          go_wp2_with fail
          refine (clen HL3.out).mono ?_
          rintro e w2 ⟨rfl, rfl⟩
          go_wp2_with fail
          refine (clate HL3.out _ (by omega) hlate.out.1 hlate.out.2).mono ?_
          rintro e w3 ⟨ad, cap', rfl, hi3⟩
          replace hi3 := Lib.hid hi3
          go_wp2_with fail
          refine (clen hi3.out).mono ?_
          rintro e w2 ⟨rfl, rfl⟩
          go_wp2_with fail
          refine (clate hi3.out _ (by simp) (hnn.out _).1 (hnn.out _).2).mono ?_
          rintro e w4 ⟨ad, cap', rfl, hi4⟩
          replace hi4 := Lib.hid hi4
          go_wp2
          go_ret
          exact ⟨rfl, hb.trans ((hi4.out.turns.below (Nat.le_refl _) (fun k hk h => by omega)).mono hb.size)⟩
theorem conce_any (W : World) (n : Int) (A : Option Addr) (cap : Nat) (xs : List Int) (hm : xs.length ≤ 9223372036854775807) (hn : Nums W A xs) :
    Calls Try.prog 3 #[.int .i64 n, .slice A xs.length cap] W fun e W' => e = .returned (.bool true) ∧ Below W.heap.size W W' := by
  by_cases h : 0 ≤ n ∧ n ≤ 50 ∧ n ≤ xs.length
  · obtain ⟨m, rfl⟩ : ∃ m : Nat, n = m := ⟨n.toNat, by omega⟩
    exact conce_in W m A cap xs hm hn (by omega) (by omega)
  · exact conce_out W n A cap xs hm h
end Go.Proofs.Ytddchhoplomjgaa

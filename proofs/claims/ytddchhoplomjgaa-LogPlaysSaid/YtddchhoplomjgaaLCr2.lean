/- LogCrashes' walk. -/
import Derived.Test.YtddchhoplomjgaaLCr1
namespace Go.Proofs.Ytddchhoplomjgaa
open Go.RowKit Go.Proofs.YtddchhoplomjgaaW.PrintLast
set_option linter.unusedVariables false
set_option linter.unusedSimpArgs false
set_option maxHeartbeats 4000000 in
theorem lcr_in (W : World) (A A' : Option Addr) (c c' n n' : Nat) (ra rb : List (List Int)) (keep again : Int) (hra : RowsRd W A ra) (hrb : RowsRd W A' rb) (hn : n = ra.length) (hn' : n' = rb.length) (h1 : n ≤ 20) (h2 : n' ≤ 20)
    (hba : ∀ r ∈ ra, Bytes r ∧ r.length ≤ 140737488351232) (hbb : ∀ r ∈ rb, Bytes r ∧ r.length ≤ 140737488351232) :
    Calls Try.prog 10 #[.slice A n c, .slice A' n' c', .int .i64 keep, .int .i64 again] W fun e W' => e = .returned (.bool true) ∧ Below W.heap.size W W' := by
  have HN := Lib.hid hn
  have HN' := Lib.hid hn'
  have HRA := Lib.hid hra
  have HRB := Lib.hid hrb
  have HBA := Lib.hid hba
  have HBB := Lib.hid hbb
  have d1 : decide (20 < (n : Int)) = false := by simp; omega
  have d2 : decide (20 < (n' : Int)) = false := by simp; omega
  clear hn hn' hra hrb hba hbb
  obtain ⟨i0, hi, hz0, hz1, hz2⟩ := info_parts info38
  go_enter Try.func10, Try.ntmps10
  go_wp2_with fail
  refine (lalive_any _).mono ?_
  rintro e w1 ⟨rfl, hb⟩
  have h0 := Lib.hid (show CrR W w1 (w1.alloc (.cells #[.slice none 0 0, .int .i64 0] 40)) (.slice none 0 0) [] 0 from ⟨LInv.new w1 _, ARow.nil _ _ _, (Turns.refl _ w1).alloc _, fun r h => by simp at h⟩)
  have HB := Lib.hid hb
  clear hb
  go_wp2
  go_loopw [11, 12] (fun v i wr => ∃ k : Nat, k ≤ n ∧ i = .int .i64 k ∧ CrR W w1 wr v (ra.take k) 0) (fun _ i _ => n - (intOf i).toNat)
  case atStart => exact ⟨0, Nat.zero_le _, rfl, h0.out⟩
  case round =>
    obtain ⟨k, hk, rfl, hcr⟩ := hrel
    obtain ⟨adv, capv, rfl⟩ := hcr.shape
    have HC := Lib.hid hcr
    clear hcr
    have hkl : (ra.take k).length = k := by rw [List.length_take, ← HN.out]; omega
    rw [hkl]
    by_cases hlt : k < n
    · have hkr : k < ra.length := by rw [← HN.out]; exact hlt
      obtain ⟨b, off, ad, cap, e1, e2, e3, e4⟩ := HRA.out k hkr
      subst e1
      obtain ⟨hb1, hb2⟩ := HBA.out _ (List.getElem_mem hkr)
      obtain ⟨y, hy⟩ : ∃ y, ra[k] = y := ⟨_, rfl⟩
      rw [hy] at e3 e4 hb1 hb2
      have HY := Lib.hid hy
      have c1 := (HC.out.below HB.out).cell (p := ⟨b, off + k, none⟩) e2
      rw [e3] at c1
      clear hy
      have i1 : (k : Int) < (n : Int) := by omega
      by_cases hlong : (100 : Int) < (y.length : Int)
      · have HF := Lib.hid (HC.out.below HB.out)
        have dl := decide_eq_true hlong
        go_wp2
        go_ret
        exact ⟨rfl, HF.out⟩
      · have dl := decide_eq_false hlong
        have HAP := Lib.hid (HC.out.append HB.out (by rw [hkl]; omega) ad cap y e4 hb1 (by omega))
        have he3 := Lib.hid e3
        have he4 := Lib.hid e4
        have he2 := Lib.hid e2
        clear e3 e4 e2
        go_wp2_with fail
        rw [hkl] at HAP
        refine HAP.out.mono ?_
        rintro e w2 ⟨rfl, hl2, hr2, hT2⟩
        have c2 := (HB.out.trans (hT2.below HB.out.size (fun k hk hF => by have := HB.out.size; have : w1.heap.size ≤ k := hF; omega))).cell (p := ⟨b, off + k, none⟩) he2.out
        rw [he3.out] at c2
        obtain ⟨cs, hcs, hcs2⟩ := hr2
        rw [hkl] at hcs
        have HCS2 := Lib.hid hcs2
        have hcs3 := (hcs.alloc (.cells #[.slice ad y.length cap] 38))
        have HL2 := Lib.hid hl2
        have HT2 := Lib.hid hT2
        clear hcs2 hcs hl2 hT2 c1
        go_wp2_with (at_builtin; refine wpList_row_append _ rfl (.tmp 51) (.tmp 56) 44 rfl w1.heap.size (by have := HL2.out.lt; simp; omega) 38 i0 _ 1 24 Try.underlying44 hi hz0 hz1 hz2 rfl (by decide) (.slice adv k capv) k cs rfl hcs3 ⟨w2.heap.size, 0, none⟩ 1 1 [.slice ad y.length cap] rfl rfl (fun j u hu => by rw [Addr.add_lit, Nat.zero_add, World.cell?_alloc_new, List.getElem?_toArray]; exact hu) (by simp [Value.oneCell']) (by omega) (by decide) ?_)
        intro v3 w3 ow3 hg3 hf3
        have R := CrR.step (rows := ra.take k) (y := y) HL2.out.lt (.cells #[.slice ad y.length cap] 38) HL2.out HT2.out HC.out.short (by omega) he4.out (by rw [hkl]; exact hcs3) HCS2.out (by rw [hkl]; exact ow3) hg3
        rw [← HY.out, ← List.take_succ_eq_append_getElem hkr] at R
        have R := Lib.hid R
        clear ow3 hg3 hf3 hcs3 c2
        go_wp2
        go_roundw
        case rel => exact ⟨k + 1, by omega, by go_num, R.out⟩
        case measure => simp [intOf]; omega
    · have hkn : k = n := by omega
      subst hkn
      have hC2 := HC.out
      rw [List.take_of_length_le (by rw [← HN.out]; exact Nat.le_refl _)] at hC2 hkl
      have HC2 := Lib.hid hC2
      clear HC hC2
      go_wp2_with fail
      refine (linv_sure HC2.out.log).mono ?_
      rintro e w2 ⟨rfl, hl2, hT2⟩
      obtain ⟨cs, hcs, hcs2⟩ := HC2.out.row
      have hoff := HC2.out.log.off hcs (by decide)
      have hC3 : CrR W w1 w2 (.slice adv k capv) (ra ++ rb.take 0) (packs ra).length := by
        rw [List.take_zero, List.append_nil]
        refine ⟨hl2, ⟨cs, ?_, hcs2⟩, HC2.out.turns.trans (hT2.mono (fun q _ hq => by show w1.heap.size ≤ q; omega)), HC2.out.short⟩
        have := hT2.own hcs (fun q hq hF => by subst hF; exact hoff hq)
        rw [hkl] at this ⊢
        exact this
      have HC3 := Lib.hid hC3
      clear hC3 hl2 hT2 hcs hcs2 hoff
      go_wp2
      go_loopw [11, 13, 14, 15] (fun v sz m i wr => ∃ q : Nat, q ≤ n' ∧ i = .int .i64 q ∧ sz = .int .i64 ((packs (rb.take q)).length : Nat) ∧ m = .int .i64 ((k + jN keep (rb.take q) : Nat) : Int) ∧ CrR W w1 wr v (ra ++ rb.take q) (packs ra).length) (fun _ _ _ i _ => n' - (intOf i).toNat)
      case atStart => exact ⟨0, Nat.zero_le _, rfl, rfl, rfl, HC3.out⟩
      case round =>
        obtain ⟨q, hq, rfl, rfl, rfl, hcr⟩ := hrel
        obtain ⟨adw, capw, rfl⟩ := hcr.shape
        have HC := Lib.hid hcr
        clear hcr
        have hql : (ra ++ rb.take q).length = k + q := by rw [List.length_append, List.length_take, ← HN'.out, hkl]; omega
        rw [hql]
        by_cases hlt : q < n'
        · have hqr : q < rb.length := by rw [← HN'.out]; exact hlt
          obtain ⟨b, off, ad, cap, e1, e2, e3, e4⟩ := HRB.out q hqr
          subst e1
          obtain ⟨hb1, hb2⟩ := HBB.out _ (List.getElem_mem hqr)
          obtain ⟨y, hy⟩ : ∃ y, rb[q] = y := ⟨_, rfl⟩
          rw [hy] at e3 e4 hb1 hb2
          have HY := Lib.hid hy
          have c1 := (HC.out.below HB.out).cell (p := ⟨b, off + q, none⟩) e2
          rw [e3] at c1
          clear hy
          have i1 : (q : Int) < (n' : Int) := by omega
          by_cases hlong : (100 : Int) < (y.length : Int)
          · have HF := Lib.hid (HC.out.below HB.out)
            have dl := decide_eq_true hlong
            go_wp2
            go_ret
            exact ⟨rfl, HF.out⟩
          · have dl := decide_eq_false hlong
            have HAP := Lib.hid (HC.out.append HB.out (by rw [hql]; omega) ad cap y e4 hb1 (by omega))
            have he3 := Lib.hid e3
            have he4 := Lib.hid e4
            have he2 := Lib.hid e2
            have hsz : (packs (rb.take q)).length ≤ 10000 := by
              have := packs_len_le (rb.take q) (fun r hr => HC.out.short r (List.mem_append_right _ hr))
              rw [List.length_take] at this
              omega
            have HJ := Lib.hid (jN_snoc keep (rb.take q) y)
            have hsz2 : (packs (rb.take q ++ [y])).length = (packs (rb.take q)).length + 2 + y.length := by rw [packs_append, packs_cons, packs_nil, List.append_nil, List.length_append, packP_length]; omega
            have hj1 := (jN_spec keep (rb.take q)).1
            have htl : (rb.take q).length = q := by rw [List.length_take, ← HN'.out]; omega
            rw [htl] at hj1
            rw [hql] at HAP
            have HTL := Lib.hid htl
            have HS2 := Lib.hid hsz2
            clear e3 e4 e2 hsz2 htl
            go_wp2_with fail
            refine HAP.out.mono ?_
            rintro e w3 ⟨rfl, hl3, hr3, hT3⟩
            have c2 := (HB.out.trans (hT3.below HB.out.size (fun k hk hF => by have := HB.out.size; have : w1.heap.size ≤ k := hF; omega))).cell (p := ⟨b, off + q, none⟩) he2.out
            rw [he3.out] at c2
            obtain ⟨cs, hcs, hcs2⟩ := hr3
            rw [hql] at hcs
            have HCS2 := Lib.hid hcs2
            have hcs3 := (hcs.alloc (.cells #[.slice ad y.length cap] 38))
            have HL2 := Lib.hid hl3
            have HT2 := Lib.hid hT3
            clear hcs2 hcs hl3 hT3 c1
            generalize hsq : (packs (rb.take q)).length = sq at hsz ⊢
            generalize hjq : jN keep (rb.take q) = jq at hj1 ⊢
            have HSQ := Lib.hid hsq
            have HJQ := Lib.hid hjq
            clear hsq hjq
            go_wp2_with (at_builtin; refine wpList_row_append _ rfl (.tmp 88) (.tmp 93) 44 rfl w1.heap.size (by have := HL2.out.lt; simp; omega) 38 i0 _ 1 24 Try.underlying44 hi hz0 hz1 hz2 rfl (by decide) (.slice adw (k + q) capw) (k + q) cs rfl hcs3 ⟨w3.heap.size, 0, none⟩ 1 1 [.slice ad y.length cap] rfl rfl (fun j u hu => by rw [Addr.add_lit, Nat.zero_add, World.cell?_alloc_new, List.getElem?_toArray]; exact hu) (by simp [Value.oneCell']) (by omega) (by decide) ?_)
            intro v3 w4 ow3 hg3 hf3
            have R := CrR.step (rows := ra ++ rb.take q) (y := y) HL2.out.lt (.cells #[.slice ad y.length cap] 38) HL2.out HT2.out HC.out.short (by omega) he4.out (by rw [hql]; exact hcs3) HCS2.out (by rw [hql]; exact ow3) hg3
            have R := Lib.hid R
            clear ow3 hg3 hf3 hcs3 c2
            have E1 : rb.take (q + 1) = rb.take q ++ [y] := by rw [List.take_succ_eq_append_getElem hqr, HY.out]
            have E2 := HS2.out
            have HJ2 := HJ.out
            rw [← E1, HSQ.out] at E2
            rw [← E1, HTL.out, E2, HJQ.out] at HJ2
            have R2 := R.out
            rw [List.append_assoc, ← E1] at R2
            have E2 := Lib.hid E2
            have R2 := Lib.hid R2
            have HJ2 := Lib.hid HJ2
            clear E1 R
            by_cases htest : ((sq : Int) + 2 + (y.length : Int)) ≤ keep
            · have E3 := HJ2.out
              rw [if_pos (by omega)] at E3
              have E3 := Lib.hid E3
              go_wp2
              refine ⟨⟨q + 1, by omega, by go_num, congrArg (Value.int .i64) (by rw [E2.out]; omega), congrArg (Value.int .i64) (by rw [E3.out]; omega), R2.out⟩, by simp [intOf]; omega⟩
            · have E3 := HJ2.out
              rw [if_neg (by omega)] at E3
              have E3 := Lib.hid E3
              go_wp2
              refine ⟨⟨q + 1, by omega, by go_num, congrArg (Value.int .i64) (by rw [E2.out]; omega), congrArg (Value.int .i64) (by rw [E3.out]; omega), R2.out⟩, by simp [intOf]; omega⟩
        · have hqn : q = n' := by omega
          subst hqn
          have hC2 := HC.out
          have htb : rb.take q = rb := List.take_of_length_le (by rw [← HN'.out]; exact Nat.le_refl _)
          rw [htb] at hC2 hql ⊢
          have hsa : ∀ r ∈ ra, r.length ≤ 100 := fun r hr => hC2.short r (List.mem_append_left _ hr)
          have hsb : ∀ r ∈ rb, r.length ≤ 100 := fun r hr => hC2.short r (List.mem_append_right _ hr)
          have hpa := packs_len_le ra hsa
          have hpb := packs_len_le rb hsb
          rw [hkl] at hpa
          rw [← HN'.out] at hpb
          have HK := Lib.hid hC2
          obtain ⟨cs, hcs, hcs2⟩ := hC2.row
          have hoff := hC2.log.off hcs (by decide)
          have hcap := own_cap hcs
          have hlog := hC2.log.sep hcs (by decide)
          rw [packs_append] at hlog
          have hj := (jN_spec keep rb).1
          rw [← HN'.out] at hj
          generalize hJ : jN keep rb = J at hj ⊢
          have HJ := Lib.hid hJ
          have hN := crash_packs ra rb keep (fun r hr => by have := hsb r hr; omega)
          rw [hJ] at hN
          have HCR := Lib.hid (linv_crash hlog keep (by rw [List.length_append]; omega) (by rw [List.length_append]; omega))
          have HNN := Lib.hid hN
          have HSH : Short (ra ++ rb.take J) := fun r hr => by
            rcases List.mem_append.1 hr with h | h
            · have := hsa r h; omega
            · have := hsb r (List.mem_of_mem_take h); omega
          have HSH := Lib.hid HSH
          have HHC := Lib.hid (show (LInv (fun q => w1.heap.size ≤ q) w1.heap.size wr (packs (ra ++ rb)) (packs ra).length) from hC2.log)
          clear hC2 hJ hlog hN HC htb hcs hcs2
          go_wp2_with fail
          refine HCR.out.mono ?_
          rintro e w4 ⟨rfl, hl4, hT4⟩
          rw [HNN.out, take_packs] at hl4
          have hr4 := HK.out.row.keep hT4 (fun k hk hF => by subst hF; exact hoff hk)
          have HT4 := Lib.hid (HK.out.turns.trans (hT4.mono (G := fun q => w1.heap.size ≤ q) (fun q _ hq => by show w1.heap.size ≤ q; omega)))
          have HL4 := Lib.hid hl4
          have HR4 := Lib.hid hr4
          clear hl4 hr4 hT4
          have hpj : (packs (ra ++ rb.take J)).length ≤ 102 * (k + q) := by
            have := packs_len_le (ra ++ rb.take J) (fun r hr => by
              rcases List.mem_append.1 hr with h | h
              · exact hsa r h
              · exact hsb r (List.mem_of_mem_take h))
            rw [List.length_append, List.length_take, hkl, ← HN'.out] at this
            omega
          rw [hql] at hcap
          go_wp2_with fail
          refine (linv_all HL4.out (by omega)).mono ?_
          rintro e w5 ⟨v5, rfl, hx5, hb5⟩
          rw [allP_packs HSH.out] at hx5
          have hm5 : (ra ++ rb.take J).length = k + J := by rw [List.length_append, List.length_take, hkl, ← HN'.out]; omega
          obtain ⟨ad5, cap5, hv5⟩ := hx5.shape
          rw [hm5] at hv5
          subst hv5
          have HM5 := Lib.hid hm5
          clear hm5
          have HL5 := Lib.hid (HL4.out.below hb5)
          have HR5 := Lib.hid (HR4.out.keep (Turns.of_below hb5 (fun _ => False)) (fun _ _ h => h))
          have HT5 := Lib.hid (HT4.out.trans (Turns.of_below hb5 (fun q => w1.heap.size ≤ q)))
          have HX5 := Lib.hid hx5
          have s4 := HL4.out.lt
          clear hb5 hx5
          have HCR2 := Lib.hid (linv_crash HL5.out again (Nat.le_refl _) (by omega))
          go_wp2_with fail
          refine HCR2.out.mono ?_
          rintro e w6 ⟨rfl, hl6, hT6⟩
          rw [crash_again, List.take_length] at hl6
          have HX6 := Lib.hid (HX5.out.keep hT6 (fun k hk hF => by omega))
          have HR6 := Lib.hid (HR5.out.keep hT6 (fun k hk hF => by subst hF; exact hoff hk))
          have HT6 := Lib.hid (HT5.out.trans (hT6.mono (G := fun q => w1.heap.size ≤ q) (fun q _ hq => by show w1.heap.size ≤ q; omega)))
          have HL6 := Lib.hid hl6
          clear hl6 hT6
          go_wp2_with (refine wpList_cut_hi rfl 44 38 (.tmp 112) (.tmp 113) rfl 1 Try.underlying44 size38 adw (k + q) capw (k + J) rfl rfl (by omega) ?_)
          have hbel6 := HB.out.trans (HT6.out.below HB.out.size (fun k hk hF => by have := HB.out.size; have : w1.heap.size ≤ k := hF; omega))
          have HBR := Lib.hid (show ∀ x ∈ ra ++ rb.take J, Bytes x ∧ x.length ≤ 1000000000 from fun r hr => by
            rcases List.mem_append.1 hr with h | h
            · exact ⟨(HBA.out r h).1, by have := hsa r h; omega⟩
            · exact ⟨(HBB.out r (List.mem_of_mem_take h)).1, by have := hsb r (List.mem_of_mem_take h); omega⟩)
          have hX6 := HX6.out
          rw [← HM5.out] at hX6
          have R1 := hX6.rd
          have hA6 := HR6.out
          have R2 := (hA6.rd hbel6).take (k + J)
          have hta : (ra ++ rb).take (k + J) = ra ++ rb.take J := by rw [← hkl, List.take_length_add_append]
          rw [hta] at R2
          have HSM := same_any w6 ad5 adw (k + J) (k + J) cap5 capw _ _ R1 R2 HM5.out.symm HM5.out.symm (by omega) (by omega) HBR.out HBR.out
          rw [decide_eq_true rfl] at HSM
          have HSM := Lib.hid HSM
          have HBL := Lib.hid hbel6
          clear hX6 R1 hA6 R2 hta hbel6
          go_wp2_with fail
          refine HSM.out.mono ?_
          rintro e w7 ⟨rfl, hb7⟩
          have HL7 := Lib.hid (HL6.out.below hb7)
          have HX7 := Lib.hid (HX6.out.keep (Turns.of_below hb7 (fun _ => False)) (fun _ _ h => h))
          have HBL7 := Lib.hid (HBL.out.trans (hb7.mono (HBL.out.size)))
          clear hb7
          go_wp2_with fail
          refine (linv_all HL7.out (by omega)).mono ?_
          rintro e w8 ⟨v8, rfl, hx8, hb8⟩
          rw [allP_packs HSH.out] at hx8
          obtain ⟨ad8, cap8, hv8⟩ := hx8.shape
          rw [HM5.out] at hv8
          subst hv8
          have hX8 := HX7.out.keep (Turns.of_below hb8 (fun _ => False)) (fun _ _ h => h)
          rw [← HM5.out] at hX8 hx8
          have HSM8 := same_any w8 ad8 ad5 (k + J) (k + J) cap8 cap5 _ _ hx8.rd hX8.rd HM5.out.symm HM5.out.symm (by omega) (by omega) HBR.out HBR.out
          rw [decide_eq_true rfl] at HSM8
          have HSM8 := Lib.hid HSM8
          have HBL8 := Lib.hid (HBL7.out.trans (hb8.mono HBL7.out.size))
          clear hX8 hx8 hb8
          go_wp2_with fail
          refine HSM8.out.mono ?_
          rintro e w9 ⟨rfl, hb9⟩
          have HBL9 := Lib.hid (HBL8.out.trans (hb9.mono HBL8.out.size))
          clear hb9
          go_wp2
          go_ret
          exact ⟨rfl, HBL9.out⟩
set_option maxHeartbeats 1000000 in
theorem lcr_out (W : World) (A A' : Option Addr) (c c' n n' : Nat) (keep again : Int) (hm : n ≤ 9223372036854775807) (hm' : n' ≤ 9223372036854775807) (hg : 20 < n ∨ 20 < n') :
    Calls Try.prog 10 #[.slice A n c, .slice A' n' c', .int .i64 keep, .int .i64 again] W fun e W' => e = .returned (.bool true) ∧ Below W.heap.size W W' := by
  by_cases h1 : (20 : Int) < (n : Int)
  · clear hg
    go_enter Try.func10, Try.ntmps10
    go_wp2_with fail
    refine (lalive_any _).mono ?_
    rintro e w1 ⟨rfl, hb⟩
    go_wp2
    go_ret
    exact ⟨rfl, hb⟩
  · have h2 : (20 : Int) < (n' : Int) := by omega
    clear hg
    go_enter Try.func10, Try.ntmps10
    go_wp2_with fail
    refine (lalive_any _).mono ?_
    rintro e w1 ⟨rfl, hb⟩
    go_wp2
    go_ret
    exact ⟨rfl, hb⟩
end Go.Proofs.Ytddchhoplomjgaa

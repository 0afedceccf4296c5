/- MinFunc, IndexFunc (each with the closures that it meets), SameInts, Clone. -/
import Derived.Test.YtbkcopejclcfdaaLkClo
import Derived.Test.YtbkcopejclcfdaaLkRow
import Derived.WalkSpells
namespace Go.Proofs.Ytbkcopejclcfdaa
open Go.RowKit Go.Proofs.YtbkcopejclcfdaaW.PrintLast Go.Proofs.Ytbkcopejclcfdaa.Sum
set_option linter.unusedVariables false
set_option linter.unusedSimpArgs false
/-- the nearest of some peers: the first of those -/
def minL (k : List Int) : List Int → Int
  | [] => 0
  | x :: xs => xs.foldl (fun m y => if nearB k y m then y else m) x
theorem minL_one (k : List Int) (l : List Int) (h : 0 < l.length) : minL k (l.take 1) = l[0] := by
  cases l with
  | nil => simp at h
  | cons x xs => rfl
theorem minL_succ (k : List Int) (l : List Int) (i : Nat) (h1 : 1 ≤ i) (h : i < l.length) : minL k (l.take (i + 1)) = if nearB k l[i] (minL k (l.take i)) then l[i] else minL k (l.take i) := by
  cases l with
  | nil => simp at h
  | cons x xs =>
    obtain ⟨j, rfl⟩ : ∃ j, i = j + 1 := ⟨i - 1, by omega⟩
    have hj : j < xs.length := by simpa using h
    simp only [List.take_succ_cons, List.getElem_cons_succ, minL]
    rw [List.take_succ_eq_append_getElem hj, List.foldl_append]
    rfl
theorem below_step {W w w' : World} (h : Below W.heap.size W w) (hb : Below w.heap.size w w') : Below W.heap.size W w' := h.trans (hb.mono h.size)
set_option maxHeartbeats 2000000 in
theorem min54_any (W : World) (A : Option Addr) (n cap : Nat) (l k : List Int) (b : Nat) (hn : n = l.length) (hl : n ≤ 1000000000) (h0 : 0 < n) (hr : Reads W A (ints l))
    (hclo : ∀ w', Below W.heap.size W w' → ∀ x y : Int, Calls Try.prog 54 #[.int .i64 x, .int .i64 y, .pointer (some ⟨b, 0, none⟩)] w' fun e W' => e = .returned (.int .i64 (nearI k x y)) ∧ Below w'.heap.size w' W') :
    Calls Try.prog 53 #[.slice A n cap, .func (.func 54) #[] #[.pointer (some ⟨b, 0, none⟩)]] W fun e W' => e = .returned (.int .i64 (minL k l)) ∧ Below W.heap.size W W' := by
  have HN := Lib.hid hn
  have HR := Lib.hid hr
  have HC := Lib.hid hclo
  have hl0 : 0 < l.length := by omega
  obtain ⟨b0, o0, rfl, hb0, hc0⟩ := reads_int hr 0 hl0
  have H1 := Lib.hid (minL_one k l hl0)
  obtain ⟨x0, hx0⟩ : ∃ x0, l[0] = x0 := ⟨_, rfl⟩
  rw [hx0] at hc0 H1
  rw [Nat.add_zero] at hc0
  have i0 : ¬ (n : Int) < 1 := by omega
  clear hn hr hclo hx0
  go_enter Try.func53, Try.ntmps53
  go_wp2
  go_loopw [5, 6] (fun m i wr => ∃ j : Nat, 1 ≤ j ∧ j ≤ n ∧ i = .int .i64 j ∧ m = .int .i64 (minL k (l.take j)) ∧ Below W.heap.size W wr) (fun _ i _ => n - (intOf i).toNat)
  case atStart => exact ⟨1, Nat.le_refl _, h0, rfl, by rw [H1.out], Below.refl _ _⟩
  case round =>
    obtain ⟨j, hj1, hj, rfl, rfl, hbel⟩ := hrel
    have HB := Lib.hid hbel
    clear hbel
    by_cases hlt : j < n
    · have hjl : j < l.length := by rw [← HN.out]; exact hlt
      obtain ⟨b', off, hA, hb, hc⟩ := reads_int (HR.out.below HB.out) j hjl
      have hA2 : b0 = b' ∧ o0 = off := by injection hA with hA; injection hA with h1 h2; exact ⟨h1, h2⟩
      obtain ⟨rfl, rfl⟩ := hA2
      have HS := Lib.hid (minL_succ k l j hj1 hjl)
      obtain ⟨c, hcc⟩ : ∃ c, l[j] = c := ⟨_, rfl⟩
      rw [hcc] at hc HS
      generalize minL k (l.take j) = m at *
      have HCL := Lib.hid (HC.out wr HB.out c m)
      have HNG := nearI_neg k c m
      clear hA hcc
      have i1 : (j : Int) < (n : Int) := by omega
      generalize nearI k c m = z at *
      rcases Bool.eq_false_or_eq_true (nearB k c m) with hq | hq
      · rw [hq] at HNG
        have i2 : z < 0 := by simpa using HNG
        have HS2 : minL k (l.take (j + 1)) = c := by rw [HS.out, hq]; simp
        have HS3 := Lib.hid HS2
        clear HS2 HNG hq
        go_wp2_with fail
        refine HCL.out.mono ?_
        rintro e w1 ⟨rfl, hw1⟩
        have HW1 := Lib.hid (below_step HB.out hw1)
        have hc1 : w1.cell? ⟨b0, o0 + j, none⟩ = some (.int .i64 c) := by rw [hw1.cell (p := ⟨b0, o0 + j, none⟩) hb]; exact hc
        clear hw1 hc
        go_wp2
        exact ⟨⟨j + 1, by omega, by omega, by go_num, by rw [HS3.out], HW1.out⟩, by simp [intOf]; omega⟩
      · rw [hq] at HNG
        have i2 : ¬ z < 0 := by simpa using HNG
        have HS2 : minL k (l.take (j + 1)) = m := by rw [HS.out, hq]; simp
        have HS3 := Lib.hid HS2
        clear HS2 HNG hq
        go_wp2_with fail
        refine HCL.out.mono ?_
        rintro e w1 ⟨rfl, hw1⟩
        have HW1 := Lib.hid (below_step HB.out hw1)
        clear hw1 hc
        go_wp2
        exact ⟨⟨j + 1, by omega, by omega, by go_num, by rw [HS3.out], HW1.out⟩, by simp [intOf]; omega⟩
    · have hkn : j = n := by omega
      subst hkn
      have hI : l.take j = l := List.take_of_length_le (by rw [← HN.out]; exact Nat.le_refl _)
      rw [hI]
      clear hI
      go_wp2
      go_ret
      exact ⟨rfl, HB.out⟩
set_option maxHeartbeats 2000000 in
theorem min65_any (W : World) (A : Option Addr) (n cap : Nat) (l k : List Int) (b : Nat) (hn : n = l.length) (hl : n ≤ 1000000000) (h0 : 0 < n) (hr : Reads W A (ints l))
    (hclo : ∀ w', Below W.heap.size W w' → ∀ x y : Int, Calls Try.prog 65 #[.int .i64 x, .int .i64 y, .pointer (some ⟨b, 0, none⟩)] w' fun e W' => e = .returned (.int .i64 (nearI k x y)) ∧ Below w'.heap.size w' W') :
    Calls Try.prog 53 #[.slice A n cap, .func (.func 65) #[] #[.pointer (some ⟨b, 0, none⟩)]] W fun e W' => e = .returned (.int .i64 (minL k l)) ∧ Below W.heap.size W W' := by
  have HN := Lib.hid hn
  have HR := Lib.hid hr
  have HC := Lib.hid hclo
  have hl0 : 0 < l.length := by omega
  obtain ⟨b0, o0, rfl, hb0, hc0⟩ := reads_int hr 0 hl0
  have H1 := Lib.hid (minL_one k l hl0)
  obtain ⟨x0, hx0⟩ : ∃ x0, l[0] = x0 := ⟨_, rfl⟩
  rw [hx0] at hc0 H1
  rw [Nat.add_zero] at hc0
  have i0 : ¬ (n : Int) < 1 := by omega
  clear hn hr hclo hx0
  go_enter Try.func53, Try.ntmps53
  go_wp2
  go_loopw [5, 6] (fun m i wr => ∃ j : Nat, 1 ≤ j ∧ j ≤ n ∧ i = .int .i64 j ∧ m = .int .i64 (minL k (l.take j)) ∧ Below W.heap.size W wr) (fun _ i _ => n - (intOf i).toNat)
  case atStart => exact ⟨1, Nat.le_refl _, h0, rfl, by rw [H1.out], Below.refl _ _⟩
  case round =>
    obtain ⟨j, hj1, hj, rfl, rfl, hbel⟩ := hrel
    have HB := Lib.hid hbel
    clear hbel
    by_cases hlt : j < n
    · have hjl : j < l.length := by rw [← HN.out]; exact hlt
      obtain ⟨b', off, hA, hb, hc⟩ := reads_int (HR.out.below HB.out) j hjl
      have hA2 : b0 = b' ∧ o0 = off := by injection hA with hA; injection hA with h1 h2; exact ⟨h1, h2⟩
      obtain ⟨rfl, rfl⟩ := hA2
      have HS := Lib.hid (minL_succ k l j hj1 hjl)
      obtain ⟨c, hcc⟩ : ∃ c, l[j] = c := ⟨_, rfl⟩
      rw [hcc] at hc HS
      generalize minL k (l.take j) = m at *
      have HCL := Lib.hid (HC.out wr HB.out c m)
      have HNG := nearI_neg k c m
      clear hA hcc
      have i1 : (j : Int) < (n : Int) := by omega
      generalize nearI k c m = z at *
      rcases Bool.eq_false_or_eq_true (nearB k c m) with hq | hq
      · rw [hq] at HNG
        have i2 : z < 0 := by simpa using HNG
        have HS2 : minL k (l.take (j + 1)) = c := by rw [HS.out, hq]; simp
        have HS3 := Lib.hid HS2
        clear HS2 HNG hq
        go_wp2_with fail
        refine HCL.out.mono ?_
        rintro e w1 ⟨rfl, hw1⟩
        have HW1 := Lib.hid (below_step HB.out hw1)
        have hc1 : w1.cell? ⟨b0, o0 + j, none⟩ = some (.int .i64 c) := by rw [hw1.cell (p := ⟨b0, o0 + j, none⟩) hb]; exact hc
        clear hw1 hc
        go_wp2
        exact ⟨⟨j + 1, by omega, by omega, by go_num, by rw [HS3.out], HW1.out⟩, by simp [intOf]; omega⟩
      · rw [hq] at HNG
        have i2 : ¬ z < 0 := by simpa using HNG
        have HS2 : minL k (l.take (j + 1)) = m := by rw [HS.out, hq]; simp
        have HS3 := Lib.hid HS2
        clear HS2 HNG hq
        go_wp2_with fail
        refine HCL.out.mono ?_
        rintro e w1 ⟨rfl, hw1⟩
        have HW1 := Lib.hid (below_step HB.out hw1)
        clear hw1 hc
        go_wp2
        exact ⟨⟨j + 1, by omega, by omega, by go_num, by rw [HS3.out], HW1.out⟩, by simp [intOf]; omega⟩
    · have hkn : j = n := by omega
      subst hkn
      have hI : l.take j = l := List.take_of_length_le (by rw [← HN.out]; exact Nat.le_refl _)
      rw [hI]
      clear hI
      go_wp2
      go_ret
      exact ⟨rfl, HB.out⟩
set_option maxHeartbeats 2000000 in
theorem idxf69_any (W : World) (A : Option Addr) (n cap : Nat) (l : List Int) (q : Int → Bool) (b : Nat) (hn : n = l.length) (hl : n ≤ 1000000000) (hr : Reads W A (ints l))
    (hclo : ∀ w', Below W.heap.size W w' → ∀ x : Int, Calls Try.prog 69 #[.int .i64 x, .pointer (some ⟨b, 0, none⟩)] w' fun e W' => e = .returned (.bool (q x)) ∧ Below w'.heap.size w' W') :
    Calls Try.prog 75 #[.slice A n cap, .func (.func 69) #[] #[.pointer (some ⟨b, 0, none⟩)]] W fun e W' => e = .returned (.int .i64 (idxI q l)) ∧ Below W.heap.size W W' := by
  have HN := Lib.hid hn
  have HR := Lib.hid hr
  have HCL := Lib.hid hclo
  clear hn hr hclo
  go_enter Try.func75, Try.ntmps75
  go_wp2
  go_loopw [8] (fun i wr => ∃ k : Nat, k ≤ n ∧ i = .int .i64 k ∧ (∀ c ∈ l.take k, q c = false) ∧ Below W.heap.size W wr) (fun i _ => n - (intOf i).toNat)
  case atStart => exact ⟨0, Nat.zero_le _, rfl, by simp, Below.refl _ _⟩
  case round =>
    obtain ⟨k, hk, rfl, hno, hbel⟩ := hrel
    have HNO := Lib.hid hno
    have HB := Lib.hid hbel
    clear hno hbel
    by_cases hlt : k < n
    · have hkl : k < l.length := by rw [← HN.out]; exact hlt
      obtain ⟨b', off, rfl, hb, hc⟩ := reads_int (HR.out.below HB.out) k hkl
      obtain ⟨c, hcc⟩ : ∃ c, l[k] = c := ⟨_, rfl⟩
      rw [hcc] at hc
      have HC := Lib.hid hcc
      clear hcc
      have i1 : (k : Int) < (n : Int) := by omega
      have PL := Lib.hid (HCL.out wr HB.out c)
      rcases Bool.eq_false_or_eq_true (q c) with hq | hq
      · rw [hq] at PL
        have hI := idxI_some (q := q) k hkl HNO.out (by rw [HC.out]; exact hq)
        have HI := Lib.hid hI
        clear hI hq
        go_wp2_with fail
        refine PL.out.mono ?_
        rintro e w1 ⟨rfl, hw1⟩
        have HW1 := Lib.hid (below_step HB.out hw1)
        clear hw1
        go_wp2
        go_ret
        rw [HI.out]
        exact ⟨rfl, HW1.out⟩
      · rw [hq] at PL
        have HM := Lib.hid (no_more (q := q) hkl HNO.out (by rw [HC.out]; exact hq))
        clear hq
        go_wp2_with fail
        refine PL.out.mono ?_
        rintro e w1 ⟨rfl, hw1⟩
        have HW1 := Lib.hid (below_step HB.out hw1)
        clear hw1
        go_wp2
        exact ⟨⟨k + 1, by omega, by go_num, HM.out, HW1.out⟩, by simp [intOf]; omega⟩
    · have hkn : k = n := by omega
      subst hkn
      have hI : idxI q l = -1 := idxI_none (by have := HNO.out; rw [List.take_of_length_le (by rw [← HN.out]; exact Nat.le_refl _)] at this; exact this)
      have HI := Lib.hid hI
      clear hI
      go_wp2
      go_ret
      rw [HI.out]
      exact ⟨rfl, HB.out⟩
set_option maxHeartbeats 2000000 in
theorem idxf74_any (W : World) (A : Option Addr) (n cap : Nat) (l : List Int) (q : Int → Bool) (b : Nat) (hn : n = l.length) (hl : n ≤ 1000000000) (hr : Reads W A (ints l))
    (hclo : ∀ w', Below W.heap.size W w' → ∀ x : Int, Calls Try.prog 74 #[.int .i64 x, .pointer (some ⟨b, 0, none⟩)] w' fun e W' => e = .returned (.bool (q x)) ∧ Below w'.heap.size w' W') :
    Calls Try.prog 75 #[.slice A n cap, .func (.func 74) #[] #[.pointer (some ⟨b, 0, none⟩)]] W fun e W' => e = .returned (.int .i64 (idxI q l)) ∧ Below W.heap.size W W' := by
  have HN := Lib.hid hn
  have HR := Lib.hid hr
  have HCL := Lib.hid hclo
  clear hn hr hclo
  go_enter Try.func75, Try.ntmps75
  go_wp2
  go_loopw [8] (fun i wr => ∃ k : Nat, k ≤ n ∧ i = .int .i64 k ∧ (∀ c ∈ l.take k, q c = false) ∧ Below W.heap.size W wr) (fun i _ => n - (intOf i).toNat)
  case atStart => exact ⟨0, Nat.zero_le _, rfl, by simp, Below.refl _ _⟩
  case round =>
    obtain ⟨k, hk, rfl, hno, hbel⟩ := hrel
    have HNO := Lib.hid hno
    have HB := Lib.hid hbel
    clear hno hbel
    by_cases hlt : k < n
    · have hkl : k < l.length := by rw [← HN.out]; exact hlt
      obtain ⟨b', off, rfl, hb, hc⟩ := reads_int (HR.out.below HB.out) k hkl
      obtain ⟨c, hcc⟩ : ∃ c, l[k] = c := ⟨_, rfl⟩
      rw [hcc] at hc
      have HC := Lib.hid hcc
      clear hcc
      have i1 : (k : Int) < (n : Int) := by omega
      have PL := Lib.hid (HCL.out wr HB.out c)
      rcases Bool.eq_false_or_eq_true (q c) with hq | hq
      · rw [hq] at PL
        have hI := idxI_some (q := q) k hkl HNO.out (by rw [HC.out]; exact hq)
        have HI := Lib.hid hI
        clear hI hq
        go_wp2_with fail
        refine PL.out.mono ?_
        rintro e w1 ⟨rfl, hw1⟩
        have HW1 := Lib.hid (below_step HB.out hw1)
        clear hw1
        go_wp2
        go_ret
        rw [HI.out]
        exact ⟨rfl, HW1.out⟩
      · rw [hq] at PL
        have HM := Lib.hid (no_more (q := q) hkl HNO.out (by rw [HC.out]; exact hq))
        clear hq
        go_wp2_with fail
        refine PL.out.mono ?_
        rintro e w1 ⟨rfl, hw1⟩
        have HW1 := Lib.hid (below_step HB.out hw1)
        clear hw1
        go_wp2
        exact ⟨⟨k + 1, by omega, by go_num, HM.out, HW1.out⟩, by simp [intOf]; omega⟩
    · have hkn : k = n := by omega
      subst hkn
      have hI : idxI q l = -1 := idxI_none (by have := HNO.out; rw [List.take_of_length_le (by rw [← HN.out]; exact Nat.le_refl _)] at this; exact this)
      have HI := Lib.hid hI
      clear hI
      go_wp2
      go_ret
      rw [HI.out]
      exact ⟨rfl, HB.out⟩
theorem info3p : (Try.prog.info? 3).map (fun i => (i.zero, i.size, i.bytes)) = some (some (.int .i64 0), 1, 8) := by kernel_rfl
theorem info3 : (Try.prog.info? 3).map (·.size) = some 1 := by kernel_rfl
/-- a copy of a row -/
def ClonedI (W : World) (l : List Int) (r : Ending) (W' : World) : Prop :=
  ∃ ad cap, r = .returned (.slice ad l.length cap) ∧ W'.ownsRow W.heap.size 3 1 (.slice ad l.length cap) l.length (ints l) ∧ Below W.heap.size W W'
theorem clone70_nil (W : World) : Calls Try.prog 70 #[.slice none 0 0] W fun e W' => e = .returned (.slice none 0 0) ∧ W = W' := by
  have hq := fun w : World => Lib.run_eql_slice_nil (P := Try.prog) w 27 3 none 0 0 0 0 Try.underlying27
  go_enter Try.func70, Try.ntmps70
  go_wp2
  go_ret
  exact ⟨rfl, rfl⟩
theorem below_ofI {F : Nat → Prop} {W W1 w' : World} (T0 : Turns (fun _ => False) W W1) (T1 : Turns F W1 w') (hF : ∀ k, k < W.heap.size → ¬ F k) : Below W.heap.size W w' :=
  ⟨T1.os.trans T0.os, T1.tape.trans T0.tape, T1.output.trans T0.output, Nat.le_trans T0.size T1.size, fun k hk => (T1.block k (Nat.lt_of_lt_of_le hk T0.size) (hF k hk)).trans (T0.block k hk (fun h => h))⟩
set_option maxHeartbeats 400000 in
theorem clone70_some (W : World) (a : Addr) (n cap : Nat) (l : List Int) (hl : n = l.length) (hn : n ≤ 1000000000) (hx : Reads W (some a) (ints l)) :
    Calls Try.prog 70 #[.slice (some a) n cap] W (ClonedI W l) := by
  have hq := fun w : World => Lib.run_eql_slice_nil (P := Try.prog) w 27 3 (some a) n cap 0 0 Try.underlying27
  obtain ⟨i0, hi, hz0, hz1, hz2⟩ := info_parts info3p
  have ow := World.ownsRow_made (base := W.heap.size) (e := 3) (size := 1) W #[] 0 (Nat.le_refl _) (by decide) rfl
  have hx' : Reads (W.alloc (.cells #[] 3)) (some a) (ints l) := hx.below ((Below.refl _ _).alloc (Nat.le_refl _) _)
  have T0 := (Turns.refl (fun _ => False) W).alloc (.cells #[] 3)
  have hl2 : (ints l).length = n * 1 := by rw [ints_length, hl, Nat.mul_one]
  have HL := Lib.hid hl
  clear hl
  go_enter Try.func70, Try.ntmps70
  go_wp2_with (at_builtin; refine wpList_row_append_any _ rfl (.tmp 5) (.tmp 6) 27 rfl W.heap.size (by simp) 3 i0 _ 1 8 Try.underlying27 hi hz0 hz1 hz2 rfl (by decide) (.slice (some ⟨W.heap.size, 0, none⟩) 0 0) 0 [] rfl ow (some a) n cap (ints l) rfl hl2 hx' (ints_one l) (by omega) (by decide) (fun v' w' ow' hg' hf' => ?_))
  simp only [Nat.zero_add, List.nil_append] at ow'
  obtain ⟨ad', cap', rfl⟩ := slice_of_own ow'
  have hb : Below W.heap.size W w' := below_ofI T0 hg' (fun k hk h => by simp [Value.ownBlock] at h; omega)
  have HO := Lib.hid ow'
  clear ow' hg' hf' hq hi hz0 hz1 hz2 ow hx' hx T0 hl2
  go_wp2
  go_ret
  rw [HL.out] at HO ⊢
  exact ⟨_, _, rfl, HO.out, hb⟩
theorem Reads.noneI {W : World} {l : List Int} (h : Reads W none (ints l)) : l = [] := by
  cases l with
  | nil => rfl
  | cons x l =>
    obtain ⟨b, off, h2, _⟩ := reads_int h 0 (by simp)
    cases h2
theorem clone70_any (W : World) (A : Option Addr) (n cap : Nat) (l : List Int) (hl : n = l.length) (hn : n ≤ 1000000000) (hx : Reads W A (ints l)) (hA : A = none → cap = 0) :
    Calls Try.prog 70 #[.slice A n cap] W (ClonedI W l) := by
  cases A with
  | none =>
    obtain rfl := hx.noneI
    obtain rfl : n = 0 := by simpa using hl
    obtain rfl := hA rfl
    exact (clone70_nil W).mono fun e W' ⟨he, hw⟩ => ⟨none, 0, he, World.ownsRow_nil _ _ _ _, hw ▸ Below.refl _ _⟩
  | some a => exact clone70_some W a n cap l hl hn hx
set_option maxHeartbeats 1000000 in
theorem sameInts_any (W : World) (A B : Option Addr) (n m c1 c2 : Nat) (x y : List Int) (hn : n = x.length) (hm : m = y.length) (hl : n ≤ 1000000000) (hx : Reads W A (ints x)) (hy : Reads W B (ints y)) :
    Calls Try.prog 44 #[.slice A n c1, .slice B m c2] W fun e W' => e = .returned (.bool (decide (x = y))) ∧ Below W.heap.size W W' := by
  have HN := Lib.hid hn
  have HM := Lib.hid hm
  have HX := Lib.hid hx
  have HY := Lib.hid hy
  clear hn hm hx hy
  by_cases hnm : n = m
  · subst hnm
    go_enter Try.func44, Try.ntmps44
    go_wp2
    go_loopw [5] (fun i wr => ∃ k : Nat, k ≤ n ∧ i = .int .i64 k ∧ Hid (x.take k = y.take k) ∧ Below W.heap.size W wr) (fun i _ => n - (intOf i).toNat)
    case atStart => exact ⟨0, Nat.zero_le _, rfl, Lib.hid (by simp), Below.refl _ _⟩
    case round =>
      obtain ⟨k, hk, rfl, HE, hbel⟩ := hrel
      have HB := Lib.hid hbel
      clear hbel
      by_cases hlt : k < n
      · have hk1 : k < x.length := by rw [← HN.out]; exact hlt
        have hk2 : k < y.length := by rw [← HM.out]; exact hlt
        obtain ⟨b1, o1, rfl, hb1, hc1⟩ := reads_int (HX.out.below HB.out) k hk1
        obtain ⟨b2, o2, rfl, hb2, hc2⟩ := reads_int (HY.out.below HB.out) k hk2
        have i1 : (k : Int) < (n : Int) := by omega
        by_cases he : x[k] = y[k]
        · have HE2 := Lib.hid (show x.take (k + 1) = y.take (k + 1) by rw [List.take_succ_eq_append_getElem hk1, List.take_succ_eq_append_getElem hk2, HE.out, he])
          rw [he] at hc1
          generalize y[k] = q at *
          clear he
          go_wp2
          go_quiet (fail)
          go_wp2
          exact ⟨⟨k + 1, by omega, by go_num, HE2, pw_drewN HB.out _⟩, by simp [intOf]; omega⟩
        · have hd : decide (x = y) = false := by
            rw [decide_eq_false_iff_not]
            intro e
            subst e
            exact he rfl
          generalize x[k] = q1 at *
          generalize y[k] = q2 at *
          have e1 : (q1 != q2) = true := by simpa using he
          have HD := Lib.hid hd
          clear hd he
          go_wp2
          go_quiet (fail)
          go_wp2
          go_ret
          rw [HD.out]
          exact ⟨rfl, pw_drewN HB.out _⟩
      · have hkn : k = n := by omega
        subst hkn
        have hd : decide (x = y) = true := by
          have := HE.out
          rw [List.take_of_length_le (by rw [← HN.out]; exact Nat.le_refl _), List.take_of_length_le (by rw [← HM.out]; exact Nat.le_refl _)] at this
          simpa using this
        have HD := Lib.hid hd
        clear hd
        go_wp2
        go_ret
        rw [HD.out]
        exact ⟨rfl, HB.out⟩
  · have hd : decide (x = y) = false := by
      rw [decide_eq_false_iff_not]
      intro e
      subst e
      exact hnm (by rw [HN.out, HM.out])
    rw [hd]
    have e1 : ((n : Int) != (m : Int)) = true := by simp; omega
    clear hd
    go_enter Try.func44, Try.ntmps44
    go_wp2
    go_ret
    exact ⟨rfl, Below.refl _ _⟩
end Go.Proofs.Ytbkcopejclcfdaa

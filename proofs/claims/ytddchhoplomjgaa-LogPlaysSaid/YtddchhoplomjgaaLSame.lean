/- SameRows' walk. -/
import Derived.Test.YtddchhoplomjgaaLCrash
import Derived.Lib.Bytes
namespace Go.Proofs.Ytddchhoplomjgaa
open Go.RowKit Go.Proofs.YtddchhoplomjgaaW.PrintLast
set_option linter.unusedVariables false
set_option linter.unusedSimpArgs false
/-- rows of bytes that can be read -/
def RowsRd (W : World) (A : Option Addr) (rows : List (List Int)) : Prop := ∀ i (h : i < rows.length), ∃ b off ad cap, A = some ⟨b, off, none⟩ ∧ b < W.heap.size ∧ W.cell? ⟨b, off + i, none⟩ = some (.slice ad rows[i].length cap) ∧ Reads W ad (bv rows[i])
theorem RowsRd.below {W W' : World} {A : Option Addr} {rows : List (List Int)} (h : RowsRd W A rows) (hb : Below W.heap.size W W') : RowsRd W' A rows := fun i hi => by
  obtain ⟨b, off, ad, cap, h1, h2, h3, h4⟩ := h i hi
  exact ⟨b, off, ad, cap, h1, Nat.lt_of_lt_of_le h2 hb.size, by rw [hb.cell (p := ⟨b, off + i, none⟩) h2]; exact h3, h4.below hb⟩
theorem RowsAt.rd {W : World} {B : Nat} {ad : Option Addr} {cap : Nat} {rows : List (List Int)} (h : RowsAt W B (.slice ad rows.length cap) rows) : RowsRd W ad rows := fun i hi => by
  obtain ⟨cs, h1, h2⟩ := h.cells
  obtain ⟨a', c', h3, h4⟩ := h2 i hi
  obtain ⟨b, off, g1, g2, g3⟩ := Reads.of_own h1 i _ h3
  exact ⟨b, off, a', c', g1, g2, g3, Reads.of_own h4⟩
theorem byte_inj {x y : Int} (hx : Byte x) (hy : Byte y) (h : UInt8.ofNat x.toNat = UInt8.ofNat y.toNat) : x = y := by
  obtain ⟨a1, a2⟩ := hx
  obtain ⟨b1, b2⟩ := hy
  have := congrArg UInt8.toNat h
  simp at this
  omega
theorem str_inj : ∀ {xs ys : List Int}, Bytes xs → Bytes ys → strOfNums xs = strOfNums ys → xs = ys
  | xs, ys, hx, hy, h => by
    have h1 : (xs.map fun n => UInt8.ofNat n.toNat) = ys.map fun n => UInt8.ofNat n.toNat := by
      have := congrArg (fun s : ByteArray => s.data.toList) h
      simpa [strOfNums] using this
    induction xs generalizing ys with
    | nil => cases ys with
      | nil => rfl
      | cons y ys => simp at h1
    | cons x xs ih => cases ys with
      | nil => simp at h1
      | cons y ys =>
        simp only [List.map_cons, List.cons.injEq] at h1
        rw [byte_inj (hx x (by simp)) (hy y (by simp)) h1.1, ih ys (fun q hq => hx q (by simp [hq])) (fun q hq => hy q (by simp [hq])) (by unfold strOfNums; rw [h1.2]) h1.2]
set_option maxHeartbeats 1000000 in
theorem same_any (W : World) (A A' : Option Addr) (n n' c c' : Nat) (r s : List (List Int)) (hr : RowsRd W A r) (hs : RowsRd W A' s) (hn : n = r.length) (hn' : n' = s.length) (hm : n ≤ 1000000000) (hm' : n' ≤ 1000000000)
    (hbr : ∀ x ∈ r, Bytes x ∧ x.length ≤ 1000000000) (hbs : ∀ x ∈ s, Bytes x ∧ x.length ≤ 1000000000) :
    Calls Try.prog 33 #[.slice A n c, .slice A' n' c'] W fun e W' => e = .returned (.bool (decide (r = s))) ∧ Below W.heap.size W W' := by
  by_cases hne : n = n'
  · have HN := Lib.hid hn
    have HN' := Lib.hid (hne.trans hn')
    clear hm' hn
    subst hne
    clear hn'
    have HR := Lib.hid hr
    have HS := Lib.hid hs
    have HBR := Lib.hid hbr
    have HBS := Lib.hid hbs
    clear hr hs hbr hbs
    have hq : ((n : Int) != (n : Int)) = false := by simp
    go_enter Try.func33, Try.ntmps33
    go_wp2
    go_loopw [5] (fun i wr => ∃ k : Nat, k ≤ n ∧ i = .int .i64 k ∧ r.take k = s.take k ∧ Below W.heap.size W wr) (fun i _ => n - (intOf i).toNat)
    case atStart => exact ⟨0, Nat.zero_le _, rfl, rfl, Below.refl _ _⟩
    case round =>
      obtain ⟨k, hk, rfl, ht, hbel⟩ := hrel
      have HT := Lib.hid ht
      have HB := Lib.hid hbel
      clear ht hbel
      by_cases hlt : k < n
      · have hkr : k < r.length := by rw [← HN.out]; exact hlt
        have hks : k < s.length := by rw [← HN'.out]; exact hlt
        obtain ⟨b, off, ad, cap, e1, _, e2, e3⟩ := (HR.out.below HB.out) k hkr
        obtain ⟨b', off', ad', cap', f1, _, f2, f3⟩ := (HS.out.below HB.out) k hks
        subst e1 f1
        obtain ⟨hb1, hb2⟩ := HBR.out _ (List.getElem_mem hkr)
        obtain ⟨hb3, hb4⟩ := HBS.out _ (List.getElem_mem hks)
        have HSR := Lib.hid (show ∃ x y, r[k] = x ∧ s[k] = y from ⟨_, _, rfl, rfl⟩)
        obtain ⟨x, y, hx, hy⟩ := HSR.out
        rw [hx] at e2 e3 hb1 hb2
        rw [hy] at f2 f3 hb3 hb4
        have HX := Lib.hid hx
        have HY := Lib.hid hy
        have s1 : ∀ q, (convert 38 9 (.slice ad x.length cap)).run Try.prog (wr.drewN q) = .ok (.string (strOfNums x)) (wr.drewN q) := fun q => run_str (wr.drewN q) ad cap x (e3.below (below_drewN (Below.refl _ _) q)) (by omega)
        have s2 : ∀ q, (convert 38 9 (.slice ad' y.length cap')).run Try.prog (wr.drewN q) = .ok (.string (strOfNums y)) (wr.drewN q) := fun q => run_str (wr.drewN q) ad' cap' y (f3.below (below_drewN (Below.refl _ _) q)) (by omega)
        have i1 : (k : Int) < (n : Int) := by omega
        clear e3 f3 HSR hx hy
        by_cases hxy : x = y
        · subst hxy
          go_wp2
          go_quiet (fail)
          go_wp2
          refine ⟨⟨k + 1, by omega, by go_num, by rw [List.take_succ_eq_append_getElem hkr, List.take_succ_eq_append_getElem hks, HT.out, HX.out, HY.out], below_drewN HB.out nq⟩, by simp [intOf]; omega⟩
        · have hsx : strOfNums x ≠ strOfNums y := fun h => hxy (str_inj hb1 hb3 h)
          have q3 : ((strOfNums x).toList == (strOfNums y).toList) = false := by
            rw [beq_eq_false_iff_ne]
            intro h
            rw [Lib.strOfNums_toList, Lib.strOfNums_toList] at h
            exact hsx (by unfold strOfNums; unfold Lib.bytesOf at h; rw [h])
          have hrs : decide (r = s) = false := by
            simp only [decide_eq_false_iff_not]
            intro h
            subst h
            exact hxy (HX.out.symm.trans HY.out)
          have HRS := Lib.hid hrs
          clear hrs hsx
          go_wp2
          go_quiet (fail)
          go_wp2
          go_ret
          rw [HRS.out]
          exact ⟨rfl, below_drewN HB.out nq⟩
      · have hkn : k = n := by omega
        subst hkn
        have hrs : r = s := by
          have := HT.out
          rw [List.take_of_length_le (by rw [← HN.out]; exact Nat.le_refl _), List.take_of_length_le (by rw [← HN'.out]; exact Nat.le_refl _)] at this
          exact this
        have HRS := Lib.hid (show decide (r = s) = true by simp [hrs])
        clear hrs
        go_wp2
        go_ret
        rw [HRS.out]
        exact ⟨rfl, HB.out⟩
  · have hq : ((n : Int) != (n' : Int)) = true := by simp; omega
    have hq2 : ((n : Int) == (n' : Int)) = false := by simp; omega
    have HRS := Lib.hid (show decide (r = s) = false by simp only [decide_eq_false_iff_not]; intro h; subst h; omega)
    clear hr hs hn hn' hbr hbs
    go_enter Try.func33, Try.ntmps33
    go_wp2
    go_ret
    rw [HRS.out]
    exact ⟨rfl, Below.refl _ _⟩
end Go.Proofs.Ytddchhoplomjgaa

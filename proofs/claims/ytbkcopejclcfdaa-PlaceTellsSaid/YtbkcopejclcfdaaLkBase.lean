/- Numbers that lie in a row: Index, Contains, Has. -/
import Derived.Test.YtbkcopejclcfdaaBRow
import Derived.Test.YtbkcopejclcfdaaKeyTwo
import Derived.Deep.MidRow
import Derived.Outline
import Derived.IntWalk
import Derived.Deep.LoopGhost
namespace Go.Proofs.Ytbkcopejclcfdaa
open Go.RowKit Go.Proofs.YtbkcopejclcfdaaW.PrintLast
set_option linter.unusedVariables false
set_option linter.unusedSimpArgs false
/-- numbers as cells -/
def ints (l : List Int) : List Value := l.map (.int .i64)
theorem ints_length (l : List Int) : (ints l).length = l.length := by simp [ints]
theorem ints_append (a b : List Int) : ints (a ++ b) = ints a ++ ints b := by simp [ints]
theorem ints_get (l : List Int) (k : Nat) (hk : k < l.length) : (ints l)[k]? = some (.int .i64 l[k]) := by simp [ints, hk]
theorem ints_one (l : List Int) : ∀ u ∈ ints l, u.oneCell' = true := fun u hu => by
  obtain ⟨x, _, rfl⟩ := List.mem_map.1 hu
  rfl
theorem reads_int {W : World} {A : Option Addr} {l : List Int} (h : Reads W A (ints l)) (k : Nat) (hk : k < l.length) :
    ∃ b off, A = some ⟨b, off, none⟩ ∧ b < W.heap.size ∧ W.cell? ⟨b, off + k, none⟩ = some (.int .i64 l[k]) := h k _ (ints_get l k hk)
theorem Reads.nums {W : World} {A : Option Addr} {l : List Int} (h : Reads W A (ints l)) : Nums W A l := fun j hj => by
  obtain ⟨b, off, h1, h2, h3⟩ := reads_int h j hj
  exact ⟨b, off, h1, h2, by rw [h3, List.getD_eq_getElem?_getD, List.getElem?_eq_getElem hj]; rfl⟩
theorem Reads.of_nums {W : World} {A : Option Addr} {l : List Int} (h : Nums W A l) : Reads W A (ints l) := fun j u hj => by
  have hl : j < l.length := by
    have := (List.getElem?_eq_some_iff.1 hj).1
    simpa [ints] using this
  obtain ⟨b, off, h1, h2, h3⟩ := h j hl
  rw [ints_get l j hl] at hj
  injection hj with hj
  subst hj
  exact ⟨b, off, h1, h2, by rw [h3, List.getD_eq_getElem?_getD, List.getElem?_eq_getElem hl]; rfl⟩
/-- where the first one is for which q holds -/
def idxI (q : Int → Bool) (l : List Int) : Int := match l.findIdx? q with
  | none => -1
  | some i => i
theorem idxI_some {q : Int → Bool} {l : List Int} (k : Nat) (hk : k < l.length) (hno : ∀ c ∈ l.take k, q c = false) (hy : q l[k] = true) : idxI q l = k := by
  unfold idxI
  have : l.findIdx? q = some k := List.findIdx?_eq_some_iff_getElem.2 ⟨hk, hy, fun j hj => by
    have := hno l[j] (by rw [List.mem_take_iff_getElem]; exact ⟨j, by omega, rfl⟩)
    simp [this]⟩
  rw [this]
theorem idxI_none {q : Int → Bool} {l : List Int} (hno : ∀ c ∈ l, q c = false) : idxI q l = -1 := by
  unfold idxI
  rw [List.findIdx?_eq_none_iff.2 hno]
theorem no_more {q : Int → Bool} {l : List Int} {k : Nat} (hk : k < l.length) (hno : ∀ c ∈ l.take k, q c = false) (hy : q l[k] = false) : ∀ c ∈ l.take (k + 1), q c = false := fun c hc => by
  rw [List.take_succ_eq_append_getElem hk] at hc
  rcases List.mem_append.1 hc with hc | hc
  · exact hno c hc
  · simp only [List.mem_cons, List.not_mem_nil, or_false] at hc
    subst hc
    exact hy
set_option maxHeartbeats 1000000 in
theorem index_any (W : World) (A : Option Addr) (n cap : Nat) (l : List Int) (x : Int) (hn : n = l.length) (hl : n ≤ 1000000000) (hr : Reads W A (ints l)) :
    Calls Try.prog 58 #[.slice A n cap, .int .i64 x] W fun e W' => e = .returned (.int .i64 (idxI (fun y => x == y) l)) ∧ Below W.heap.size W W' := by
  have HN := Lib.hid hn
  have HR := Lib.hid hr
  clear hn hr
  go_enter Try.func58, Try.ntmps58
  go_wp2
  go_loopw [8] (fun i wr => ∃ k : Nat, k ≤ n ∧ i = .int .i64 k ∧ (∀ c ∈ l.take k, (x == c) = false) ∧ W = wr) (fun i _ => n - (intOf i).toNat)
  case atStart => exact ⟨0, Nat.zero_le _, rfl, by simp, rfl⟩
  case round =>
    obtain ⟨k, hk, rfl, hno, rfl⟩ := hrel
    have HNO := Lib.hid hno
    clear hno
    by_cases hlt : k < n
    · have hkl : k < l.length := by rw [← HN.out]; exact hlt
      obtain ⟨b, off, rfl, hb, hc⟩ := reads_int HR.out k hkl
      obtain ⟨c, hcc⟩ : ∃ c, l[k] = c := ⟨_, rfl⟩
      rw [hcc] at hc
      have HC := Lib.hid hcc
      clear hcc
      have i1 : (k : Int) < (n : Int) := by omega
      rcases Bool.eq_false_or_eq_true (x == c) with hq | hq
      · have hI := idxI_some (q := fun y => x == y) k hkl HNO.out (by rw [HC.out]; exact hq)
        have HI := Lib.hid hI
        clear hI
        go_wp2
        go_ret
        rw [HI.out]
        exact ⟨rfl, Below.refl _ _⟩
      · have HM := Lib.hid (no_more (q := fun y => x == y) hkl HNO.out (by rw [HC.out]; exact hq))
        go_wp2
        exact ⟨⟨k + 1, by omega, by go_num, HM.out, by first | trivial | rfl⟩, by simp [intOf]; omega⟩
    · have hkn : k = n := by omega
      subst hkn
      have hI : idxI (fun y => x == y) l = -1 := idxI_none (by have := HNO.out; rw [List.take_of_length_le (by rw [← HN.out]; exact Nat.le_refl _)] at this; exact this)
      have HI := Lib.hid hI
      clear hI
      go_wp2
      go_ret
      rw [HI.out]
      exact ⟨rfl, Below.refl _ _⟩
theorem has_index (l : List Int) (x : Int) : decide (0 ≤ idxI (fun y => x == y) l) = l.contains x := by
  unfold idxI
  rcases h : l.findIdx? (fun y => x == y) with _ | i
  · have := List.findIdx?_eq_none_iff.1 h
    have h2 : l.contains x = false := by
      rw [Bool.eq_false_iff]
      intro hc
      rw [List.contains_iff_mem] at hc
      have := this x hc
      simp at this
    rw [h2]
    decide
  · obtain ⟨hi, hy, _⟩ := List.findIdx?_eq_some_iff_getElem.1 h
    have h2 : l.contains x = true := by
      rw [List.contains_iff_mem]
      have : x = l[i] := by simpa using hy
      rw [this]
      exact List.getElem_mem hi
    rw [h2]
    simp
set_option maxHeartbeats 1000000 in
theorem contains_any (W : World) (A : Option Addr) (n cap : Nat) (l : List Int) (x : Int) (hn : n = l.length) (hl : n ≤ 1000000000) (hr : Reads W A (ints l)) :
    Calls Try.prog 66 #[.slice A n cap, .int .i64 x] W fun e W' => e = .returned (.bool (l.contains x)) ∧ Below W.heap.size W W' := by
  have HI := Lib.hid (index_any W A n cap l x hn hl hr)
  rw [← has_index]
  generalize idxI (fun y => x == y) l = r at *
  clear hn hr
  go_enter Try.func66, Try.ntmps66
  go_wp2_with fail
  refine HI.out.mono ?_
  rintro e W1 ⟨rfl, hb⟩
  have HB := Lib.hid hb
  clear hb
  go_wp2
  go_ret
  exact ⟨rfl, HB.out⟩
set_option maxHeartbeats 1000000 in
theorem rhas_any (W : World) (A : Option Addr) (n cap : Nat) (l : List Int) (x : Int) (hn : n = l.length) (hl : n ≤ 1000000000) (hr : Reads W A (ints l)) :
    Calls Try.prog 32 #[.slice A n cap, .int .i64 x] W fun e W' => e = .returned (.bool (l.contains x)) ∧ Below W.heap.size W W' := by
  have HN := Lib.hid hn
  have HR := Lib.hid hr
  clear hn hr
  go_enter Try.func32, Try.ntmps32
  go_wp2
  go_loopw [5] (fun i wr => ∃ k : Nat, k ≤ n ∧ i = .int .i64 k ∧ (∀ c ∈ l.take k, (c == x) = false) ∧ W = wr) (fun i _ => n - (intOf i).toNat)
  case atStart => exact ⟨0, Nat.zero_le _, rfl, by simp, rfl⟩
  case round =>
    obtain ⟨k, hk, rfl, hno, rfl⟩ := hrel
    have HNO := Lib.hid hno
    clear hno
    by_cases hlt : k < n
    · have hkl : k < l.length := by rw [← HN.out]; exact hlt
      obtain ⟨b, off, rfl, hb, hc⟩ := reads_int HR.out k hkl
      obtain ⟨c, hcc⟩ : ∃ c, l[k] = c := ⟨_, rfl⟩
      rw [hcc] at hc
      have HC := Lib.hid hcc
      clear hcc
      have i1 : (k : Int) < (n : Int) := by omega
      rcases Bool.eq_false_or_eq_true (c == x) with hq | hq
      · have hI : l.contains x = true := by
          rw [List.contains_iff_mem, ← (by simpa using hq : c = x), ← HC.out]
          exact List.getElem_mem hkl
        have HI := Lib.hid hI
        clear hI
        go_wp2
        go_ret
        rw [HI.out]
        exact ⟨rfl, Below.refl _ _⟩
      · have HM := Lib.hid (no_more (q := fun y => y == x) hkl HNO.out (by rw [HC.out]; exact hq))
        go_wp2
        exact ⟨⟨k + 1, by omega, by go_num, HM.out, by first | trivial | rfl⟩, by simp [intOf]; omega⟩
    · have hkn : k = n := by omega
      subst hkn
      have hI : l.contains x = false := by
        rw [Bool.eq_false_iff]
        intro hc
        rw [List.contains_iff_mem] at hc
        have := HNO.out x (by rw [List.take_of_length_le (by rw [← HN.out]; exact Nat.le_refl _)]; exact hc)
        simp at this
      have HI := Lib.hid hI
      clear hI
      go_wp2
      go_ret
      rw [HI.out]
      exact ⟨rfl, Below.refl _ _⟩
end Go.Proofs.Ytbkcopejclcfdaa

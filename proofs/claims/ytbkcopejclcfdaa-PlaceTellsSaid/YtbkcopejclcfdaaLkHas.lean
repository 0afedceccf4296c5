/- Has, in the world as it is. -/
import Derived.Test.YtbkcopejclcfdaaLkBase
namespace Go.Proofs.Ytbkcopejclcfdaa
open Go.RowKit Go.Proofs.YtbkcopejclcfdaaW.PrintLast
set_option linter.unusedVariables false
set_option linter.unusedSimpArgs false
set_option maxHeartbeats 1000000 in
theorem rhas_sameP (W : World) (A : Option Addr) (n cap : Nat) (l : List Int) (x : Int) (hn : n = l.length) (hl : n ≤ 1000000000) (hr : Reads W A (ints l)) :
    Calls Try.prog 32 #[.slice A n cap, .int .i64 x] W fun e W' => e = .returned (.bool (l.contains x)) ∧ W = W' := by
  have HN := Lib.hid hn
  have HR := Lib.hid hr
  clear hn hr
  go_enter Try.func32, Try.ntmps32
  go_wp2
  go_loopw [5] (fun i wr => ∃ k : Nat, k ≤ n ∧ i = .int .i64 k ∧ (∀ c ∈ l.take k, (c == x) = false) ∧ W = wr) (fun i _ => n - (intOf i).toNat)
  case atStart => exact ⟨0, Nat.zero_le _, rfl, by simp, rfl⟩
  case round =>
    obtain ⟨k, hk, rfl, hno, rfl⟩ := hrel
    have HNO := Lib.hid hno
    clear hno
    by_cases hlt : k < n
    · have hkl : k < l.length := by rw [← HN.out]; exact hlt
      obtain ⟨b, off, rfl, hb, hc⟩ := reads_int HR.out k hkl
      obtain ⟨c, hcc⟩ : ∃ c, l[k] = c := ⟨_, rfl⟩
      rw [hcc] at hc
      have HC := Lib.hid hcc
      clear hcc
      have i1 : (k : Int) < (n : Int) := by omega
      rcases Bool.eq_false_or_eq_true (c == x) with hq | hq
      · have hI : l.contains x = true := by
          rw [List.contains_iff_mem, ← (by simpa using hq : c = x), ← HC.out]
          exact List.getElem_mem hkl
        have HI := Lib.hid hI
        clear hI
        go_wp2
        go_ret
        rw [HI.out]
        exact ⟨rfl, rfl⟩
      · have HM := Lib.hid (no_more (q := fun y => y == x) hkl HNO.out (by rw [HC.out]; exact hq))
        go_wp2
        exact ⟨⟨k + 1, by omega, by go_num, HM.out, by first | trivial | rfl⟩, by simp [intOf]; omega⟩
    · have hkn : k = n := by omega
      subst hkn
      have hI : l.contains x = false := by
        rw [Bool.eq_false_iff]
        intro hc
        rw [List.contains_iff_mem] at hc
        have := HNO.out x (by rw [List.take_of_length_le (by rw [← HN.out]; exact Nat.le_refl _)]; exact hc)
        simp at this
      have HI := Lib.hid hI
      clear hI
      go_wp2
      go_ret
      rw [HI.out]
      exact ⟨rfl, rfl⟩
end Go.Proofs.Ytbkcopejclcfdaa

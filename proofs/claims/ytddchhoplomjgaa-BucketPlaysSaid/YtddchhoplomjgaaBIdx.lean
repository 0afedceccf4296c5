/- IndexFunc and place. -/
import Derived.Test.YtddchhoplomjgaaBBase
namespace Go.Proofs.Ytddchhoplomjgaa
open Go.RowKit Go.Proofs.YtddchhoplomjgaaW.PrintLast
set_option linter.unusedVariables false
set_option linter.unusedSimpArgs false
theorem idxP_none {peer : Int} : ∀ {l : List Con}, (∀ c ∈ l, c.peer ≠ peer) → idxP peer l = none
  | [], _ => rfl
  | c :: l, h => by
    unfold idxP
    rw [if_neg (h c (by simp)), idxP_none (fun d hd => h d (by simp [hd]))]
    rfl
theorem idxP_some {peer : Int} : ∀ {l : List Con} (k : Nat) (hk : k < l.length), (∀ c ∈ l.take k, c.peer ≠ peer) → l[k].peer = peer → idxP peer l = some k
  | [], k, hk, _, _ => by simp at hk
  | c :: l, 0, _, _, h => by
    unfold idxP
    exact if_pos h
  | c :: l, k + 1, hk, h1, h2 => by
    unfold idxP
    rw [if_neg (h1 c (by simp)), idxP_some k (by simpa using hk) (fun d hd => h1 d (by simp [hd])) (by simpa using h2)]
    rfl
theorem idxP_spec {peer : Int} : ∀ {l : List Con} {k : Nat}, idxP peer l = some k → ∃ h : k < l.length, (∀ c ∈ l.take k, c.peer ≠ peer) ∧ l[k].peer = peer
  | [], k, h => by cases h
  | c :: l, k, h => by
    unfold idxP at h
    split at h
    · injection h with h
      subst h
      exact ⟨by simp, by simp, by assumption⟩
    · rename_i hne
      rcases hq : idxP peer l with _ | q
      · rw [hq] at h; cases h
      · rw [hq] at h
        injection h with h
        subst h
        obtain ⟨h1, h2, h3⟩ := idxP_spec hq
        refine ⟨by simpa using h1, fun d hd => ?_, by simpa using h3⟩
        rw [List.take_succ_cons] at hd
        rcases List.mem_cons.1 hd with rfl | hd
        · exact hne
        · exact h2 d hd
theorem range_at {W : World} {b off : Nat} {l : List Con} (h : Reads W (some ⟨b, off, none⟩) (cons l)) (hok : Oks l) (k : Nat) (hk : k < l.length) : W.rangeAt b (off + k * 21) l[k].cells := fun j u hu => by
  obtain ⟨b', off', h1, _, h3⟩ := h (k * 21 + j) u (cons_get hok k hk j u hu)
  injection h1 with h1
  injection h1 with h4 h5
  subst h4 h5
  rw [Nat.add_assoc]
  exact h3
set_option maxHeartbeats 1000000 in
theorem idx_any (W : World) (A : Option Addr) (n cap : Nat) (l : List Con) (hn : n = l.length) (hl : n ≤ 1000000) (hok : Oks l) (hr : Reads W A (cons l)) (b1 : Nat) (peer : Int) (h1 : W.cell? ⟨b1, 0, none⟩ = some (.int .i64 peer)) :
    Calls Try.prog 47 #[.slice A n cap, .func (.func 48) #[] #[.pointer (some ⟨b1, 0, none⟩)]] W fun e W' => e = .returned (.int .i64 (idxI peer l)) ∧ Below W.heap.size W W' := by
  have HN := Lib.hid hn
  have HR := Lib.hid hr
  have HOK := Lib.hid hok
  have hb1 := World.block_lt_of_cell? _ _ h1
  dsimp only at hb1
  clear hn hr hok
  go_enter Try.func47, Try.ntmps47
  go_wp2
  go_loopw [8] (fun i wr => ∃ k : Nat, k ≤ n ∧ i = .int .i64 k ∧ (∀ c ∈ l.take k, c.peer ≠ peer) ∧ Below W.heap.size W wr) (fun i _ => n - (intOf i).toNat)
  case atStart => exact ⟨0, Nat.zero_le _, rfl, by simp, Below.refl _ _⟩
  case round =>
    obtain ⟨k, hk, rfl, hno, hbel⟩ := hrel
    have HNO := Lib.hid hno
    have HB := Lib.hid hbel
    clear hno hbel
    by_cases hlt : k < n
    · have hkl : k < l.length := by rw [← HN.out]; exact hlt
      obtain ⟨b, off, rfl⟩ : ∃ b off, A = some ⟨b, off, none⟩ := by
        have hl2 := cons_length HOK.out
        obtain ⟨u, hu⟩ : ∃ u, (cons l)[0]? = some u := ⟨_, List.getElem?_eq_getElem (by omega)⟩
        obtain ⟨b, off, h2, _⟩ := HR.out 0 u hu
        exact ⟨b, off, h2⟩
      have HRG := Lib.hid (range_at (HR.out.below HB.out) HOK.out k hkl)
      have hck := HOK.out _ (List.getElem_mem hkl)
      obtain ⟨c, hc⟩ : ∃ c, l[k] = c := ⟨_, rfl⟩
      rw [hc] at HRG hck
      have HC := Lib.hid hc
      have HCK := Lib.hid hck
      clear hc hck
      have i1 : (k : Int) < (n : Int) := by omega
      have hc1 : wr.cell? ⟨b1, 0, none⟩ = some (.int .i64 peer) := by rw [HB.out.cell (p := ⟨b1, 0, none⟩) hb1]; exact h1
      have PL := Lib.hid (plc_any wr b1 peer c HCK.out hc1)
      rcases Bool.eq_false_or_eq_true (c.peer == peer) with hq | hq
      · rw [hq] at PL
        have HQ := Lib.hid hq
        clear hq
        go_wp2_with (refine wpList_load_mid rfl 54 (.tmp 14) rfl b (off + k * 21) rfl c.cells _ HRG.out Try.underlying54 rfl (by rw [Con.len HCK.out]; exact info54) ?_)
        go_wp2_with fail
        refine PL.out.mono ?_
        rintro e w1 ⟨rfl, hw1⟩
        have HW1 := Lib.hid (HB.out.trans (hw1.mono HB.out.size))
        clear hw1
        have hI : idxI peer l = k := by
          unfold idxI
          rw [idxP_some k hkl HNO.out (by rw [HC.out]; simpa using HQ.out)]
        have HI := Lib.hid hI
        clear hI
        go_wp2
        go_ret
        rw [HI.out]
        exact ⟨rfl, HW1.out⟩
      · rw [hq] at PL
        have HQ := Lib.hid hq
        clear hq
        go_wp2_with (refine wpList_load_mid rfl 54 (.tmp 14) rfl b (off + k * 21) rfl c.cells _ HRG.out Try.underlying54 rfl (by rw [Con.len HCK.out]; exact info54) ?_)
        go_wp2_with fail
        refine PL.out.mono ?_
        rintro e w1 ⟨rfl, hw1⟩
        have HW1 := Lib.hid (HB.out.trans (hw1.mono HB.out.size))
        clear hw1
        go_wp2
        refine ⟨⟨k + 1, by omega, by go_num, ?_, HW1.out⟩, by simp [intOf]; omega⟩
        intro d hd
        rw [List.take_succ_eq_append_getElem hkl, HC.out] at hd
        rcases List.mem_append.1 hd with hd | hd
        · exact HNO.out d hd
        · simp only [List.mem_cons, List.not_mem_nil, or_false] at hd
          subst hd
          simpa using HQ.out
    · have hkn : k = n := by omega
      subst hkn
      have hI : idxI peer l = -1 := by
        unfold idxI
        rw [idxP_none (by have := HNO.out; rw [List.take_of_length_le (by rw [← HN.out]; exact Nat.le_refl _)] at this; exact this)]
      have HI := Lib.hid hI
      clear hI
      go_wp2
      go_ret
      rw [HI.out]
      exact ⟨rfl, HB.out⟩
end Go.Proofs.Ytddchhoplomjgaa

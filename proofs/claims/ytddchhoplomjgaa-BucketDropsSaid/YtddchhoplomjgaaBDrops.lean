/- BucketDrops. -/
import Derived.Test.YtddchhoplomjgaaBKeep
namespace Go.Proofs.Ytddchhoplomjgaa
open Go.RowKit Go.Proofs.YtddchhoplomjgaaW.PrintLast
set_option linter.unusedVariables false
set_option linter.unusedSimpArgs false
theorem drop_c {w0 w : World} {p : Nat} {ad : Option Addr} {cap : Nat} {l : List Con} (h : KB w0 w p ad cap l) (hl : l.length ≤ 3) (peer : Int) :
    Calls Try.prog 24 #[.pointer (some ⟨p, 0, none⟩), .int .i64 peer] w fun e w' => e = .returned (.bool (idxP peer l).isSome) ∧ ∃ ad' cap', KB w0 w' p ad' cap' (dropP peer l) :=
  (drop_any w p ad cap l peer h.bo (by omega)).mono fun e w' hP => h.post hP
theorem kL_full (n : Nat) (h : 3 ≤ n) : kL n = [pCon 0, pCon 1, pCon 2] := by
  obtain ⟨m, rfl⟩ : ∃ m, n = m + 3 := ⟨n - 3, by omega⟩
  rfl
theorem dropped_near (g : Nat) (h : g < 3) : ∃ x y : Int, ¬ x = g ∧ ¬ y = g ∧ seeL (pCon 100) (dropP g [pCon 0, pCon 1, pCon 2]) = [pCon x, pCon y, pCon 100] ∧ seeR (pCon 100) (dropP g [pCon 0, pCon 1, pCon 2]) = (pCon 0, false) ∧ (idxP g [pCon 0, pCon 1, pCon 2]).isSome = true ∧ (dropP g [pCon 0, pCon 1, pCon 2]).length = 2 := by
  match g, h with
  | 0, _ => exact ⟨1, 2, by decide, by decide, rfl, rfl, rfl, rfl⟩
  | 1, _ => exact ⟨0, 2, by decide, by decide, rfl, rfl, rfl, rfl⟩
  | 2, _ => exact ⟨0, 1, by decide, by decide, rfl, rfl, rfl, rfl⟩
theorem dropped_far (g : Nat) (h : 3 ≤ g) : seeL (pCon 100) (dropP g [pCon 0, pCon 1, pCon 2]) = [pCon 0, pCon 1, pCon 2] ∧ seeR (pCon 100) (dropP g [pCon 0, pCon 1, pCon 2]) = (pCon 0, true) ∧ (idxP g [pCon 0, pCon 1, pCon 2]).isSome = false ∧ (dropP g [pCon 0, pCon 1, pCon 2]).length = 3 := by
  have hf : idxP (g : Int) [pCon 0, pCon 1, pCon 2] = none := kL_far 3 g h
  have hd : dropP (g : Int) [pCon 0, pCon 1, pCon 2] = [pCon 0, pCon 1, pCon 2] := by unfold dropP; rw [hf]
  rw [hd, hf]
  exact ⟨rfl, rfl, rfl, rfl⟩
set_option maxHeartbeats 1000000 in
theorem bdrop_out (W : World) (n a : Int) (hg : n < 3 ∨ 20 < n ∨ a < 0 ∨ n ≤ a) : Calls Try.prog 8 #[.int .i64 n, .int .i64 a] W fun e W' => e = .returned (.bool true) ∧ Below W.heap.size W W' := by
  by_cases d1 : n < 3
  all_goals by_cases d2 : 20 < n
  all_goals by_cases d3 : a < 0
  all_goals by_cases d4 : n ≤ a
  all_goals first
    | omega
    | (clear hg
       go_enter Try.func8, Try.ntmps8
       go_wp2_with fail
       refine (balive_any _).mono ?_
       rintro e w1 ⟨rfl, hb⟩
       go_wp2
       go_ret
       exact ⟨rfl, hb⟩)
set_option maxRecDepth 100000 in
set_option maxHeartbeats 4000000 in
theorem bdrop_in (W : World) (n a : Nat) (h1 : 3 ≤ n) (h2 : n ≤ 20) (h3 : a < n) : Calls Try.prog 8 #[.int .i64 n, .int .i64 a] W fun e W' => e = .returned (.bool true) ∧ Below W.heap.size W W' := by
  have d1 : decide ((n : Int) < 3) = false := by simp; omega
  have d2 : decide (20 < (n : Int)) = false := by simp; omega
  have d3 : decide ((a : Int) < 0) = false := by simp
  have d4 : decide (n ≤ a) = false := by simp; omega
  have hz : ∀ w : World, (w.alloc (.cells zArr 54)).heap[w.heap.size]? = some (.cells zArr 54 (0, 0)) := fun w => heap_alloc_new w _
  have HZ := Lib.hid hz
  have H1 := Lib.hid h1
  have H2 := Lib.hid h2
  have H3 := Lib.hid h3
  clear hz h1 h2 h3
  go_enter Try.func8, Try.ntmps8
  go_wp2_with fail
  refine (balive_any _).mono ?_
  rintro e w1 ⟨rfl, hb⟩
  have h0 := Lib.hid (KB.new w1)
  have HB := Lib.hid hb
  clear hb
  go_wp2
  go_loopw [7] (fun i wr => ∃ k : Nat, k ≤ n ∧ i = .int .i64 k ∧ ∃ ad cap, KB w1 wr w1.heap.size ad cap (kL k)) (fun i _ => n - (intOf i).toNat)
  case atStart => exact ⟨0, Nat.zero_le _, rfl, _, _, h0.out⟩
  case round =>
    obtain ⟨k, hk, rfl, ad, cap, hkb⟩ := hrel
    by_cases hlt : k < n
    · have i1 : (k : Int) < (n : Int) := by omega
      have HS := Lib.hid (see_k hkb)
      have k20 : k ≤ 20 := by have := H2.out; omega
      clear hkb
      go_wp2_with fail
      refine HS.out.mono ?_
      rintro e w2 ⟨rfl, ad2, cap2, hk2⟩
      have hk3 := Lib.hid hk2
      clear hk2
      go_wp2
      go_roundw
      case rel => exact ⟨k + 1, by omega, by go_num, ad2, cap2, hk3.out⟩
      case measure => simp [intOf]; omega
    · have hkn : k = n := by omega
      subst hkn
      rw [kL_full k H1.out] at hkb
      have HD := Lib.hid (drop_c hkb (by simp) a)
      clear hkb
      by_cases a3 : 3 ≤ a
      · obtain ⟨hL, hR, hS, hlen⟩ := dropped_far a a3
        rw [hS] at HD
        have HL := Lib.hid hL
        have HR := Lib.hid hR
        have HN := Lib.hid hlen
        clear hL hR hS hlen
        go_wp2_with fail
        refine HD.out.mono ?_
        rintro e w2 ⟨rfl, ad2, cap2, hk2⟩
        have hsee := see_c hk2 (by rw [HN.out]; omega) (pCon 100) (pCon_ok _)
        rw [HL.out, HR.out] at hsee
        have HS := Lib.hid hsee
        clear hk2 hsee
        go_wp2_with fail
        refine HS.out.mono ?_
        rintro e w3 ⟨rfl, ad3, cap3, hk3⟩
        have TX : Turns (fun k => k = w3.heap.size) w3 ((w3.alloc (.cells zArr 54)).setRow w3.heap.size zArr) := Turns.setRow (F := fun k => k = w3.heap.size) (Turns.alloc (Turns.refl _ w3) _) (.inr rfl) zArr
        have hk4 := hk3.keep TX (fun k e => by omega)
        have HA := Lib.hid (ball_any _ _ _ _ _ hk4.bo (by simp))
        have HK2 := Lib.hid hk4
        clear hk3 hk4 TX
        go_wp2_with ((refine wpList_store_row _ rfl 54 (.tmp 9) (.tmp 51) rfl w3.heap.size rfl zArr rfl 54 zArr (HZ.out w3) info54 rfl zArr_one ?_))
        refine HA.out.mono ?_
        rintro e w4 ⟨ad4, cap4, rfl, ho4, hb4⟩
        obtain ⟨g, rfl, _⟩ := own_some ho4 (fun e => by injection e with _ e2 _; simp at e2)
        have c4 : w4.cell? ⟨g, 42, none⟩ = some (.int .i64 2) := peer_at (Reads.of_own ho4) HK2.out.bo.ok 2 (by simp)
        have H4 := Lib.hid (HK2.out.later hb4).below
        clear ho4 hb4
        go_wp2
        go_ret
        exact ⟨rfl, HB.out.trans (H4.out.mono HB.out.size)⟩
      · obtain ⟨x, y, hx, hy, hL, hR, hS, hlen⟩ := dropped_near a (by omega)
        rw [hS] at HD
        have HL := Lib.hid hL
        have HR := Lib.hid hR
        have HN := Lib.hid hlen
        clear hL hR hS hlen
        go_wp2_with fail
        refine HD.out.mono ?_
        rintro e w2 ⟨rfl, ad2, cap2, hk2⟩
        have hsee := see_c hk2 (by rw [HN.out]; omega) (pCon 100) (pCon_ok _)
        rw [HL.out, HR.out] at hsee
        have HS := Lib.hid hsee
        clear hk2 hsee
        go_wp2_with fail
        refine HS.out.mono ?_
        rintro e w3 ⟨rfl, ad3, cap3, hk3⟩
        have TX : Turns (fun k => k = w3.heap.size) w3 ((w3.alloc (.cells zArr 54)).setRow w3.heap.size zArr) := Turns.setRow (F := fun k => k = w3.heap.size) (Turns.alloc (Turns.refl _ w3) _) (.inr rfl) zArr
        have hk4 := hk3.keep TX (fun k e => by omega)
        have HA := Lib.hid (ball_any _ _ _ _ _ hk4.bo (by simp))
        have HK2 := Lib.hid hk4
        clear hk3 hk4 TX
        go_wp2_with ((refine wpList_store_row _ rfl 54 (.tmp 9) (.tmp 51) rfl w3.heap.size rfl zArr rfl 54 zArr (HZ.out w3) info54 rfl zArr_one ?_))
        refine HA.out.mono ?_
        rintro e w4 ⟨ad4, cap4, rfl, ho4, hb4⟩
        obtain ⟨g, rfl, _⟩ := own_some ho4 (fun e => by injection e with _ e2 _; simp at e2)
        have c40 : w4.cell? ⟨g, 0, none⟩ = some (.int .i64 x) := peer_at (Reads.of_own ho4) HK2.out.bo.ok 0 (by simp)
        have c41 : w4.cell? ⟨g, 21, none⟩ = some (.int .i64 y) := peer_at (Reads.of_own ho4) HK2.out.bo.ok 1 (by simp)
        have c42 : w4.cell? ⟨g, 42, none⟩ = some (.int .i64 100) := peer_at (Reads.of_own ho4) HK2.out.bo.ok 2 (by simp)
        have H4 := Lib.hid (HK2.out.later hb4).below
        clear ho4 hb4
        go_wp2
        go_ret
        rw [beq_eq_false_iff_ne.2 hx, beq_eq_false_iff_ne.2 hy]
        exact ⟨rfl, HB.out.trans (H4.out.mono HB.out.size)⟩
theorem bdrop_any (W : World) (n a : Int) : Calls Try.prog 8 #[.int .i64 n, .int .i64 a] W fun e W' => e = .returned (.bool true) ∧ Below W.heap.size W W' := by
  by_cases h : n < 3 ∨ 20 < n ∨ a < 0 ∨ n ≤ a
  · exact bdrop_out W n a h
  · obtain ⟨m, rfl⟩ : ∃ m : Nat, n = m := ⟨n.toNat, by omega⟩
    obtain ⟨b, rfl⟩ : ∃ m : Nat, a = m := ⟨a.toNat, by omega⟩
    exact bdrop_in W m b (by omega) (by omega) (by omega)
end Go.Proofs.Ytddchhoplomjgaa

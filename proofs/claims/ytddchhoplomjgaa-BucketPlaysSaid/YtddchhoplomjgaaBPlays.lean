/- BucketPlays' walk. -/
import Derived.Test.YtddchhoplomjgaaBPS
namespace Go.Proofs.Ytddchhoplomjgaa
open Go.RowKit Go.Proofs.YtddchhoplomjgaaW.PrintLast
set_option linter.unusedVariables false
set_option linter.unusedSimpArgs false
set_option maxHeartbeats 1000000 in
theorem bplays_out (W : World) (A : Option Addr) (n cap : Nat) (hn : 100 < n) : Calls Try.prog 7 #[.slice A n cap] W fun e W' => e = .returned (.bool true) ∧ Below W.heap.size W W' := by
  have d1 : decide (100 < (n : Int)) = true := by simp; omega
  go_enter Try.func7, Try.ntmps7
  go_wp2_with fail
  refine (balive_any _).mono ?_
  rintro e w1 ⟨rfl, hb⟩
  go_wp2
  go_ret
  exact ⟨rfl, hb⟩
set_option maxRecDepth 100000 in
set_option maxHeartbeats 4000000 in
theorem bplays_in (W : World) (A : Option Addr) (n cap : Nat) (xs : List (Bool × Con)) (hn : n = xs.length) (h100 : n ≤ 100) (ha : Acts W A xs) : Calls Try.prog 7 #[.slice A n cap] W fun e W' => e = .returned (.bool true) ∧ Below W.heap.size W W' := by
  have d1 : decide (100 < (n : Int)) = false := by simp; omega
  have HN := Lib.hid hn
  have HA := Lib.hid ha
  have hq54 := eqg54
  clear hn ha
  go_enter Try.func7, Try.ntmps7
  go_wp2_with fail
  refine (balive_any _).mono ?_
  rintro e w1 ⟨rfl, hb⟩
  have h0 := Lib.hid (PS.new w1)
  have HB := Lib.hid hb
  clear hb
  go_wp2
  go_loopw [7] (fun i wr => ∃ k : Nat, k ≤ n ∧ i = .int .i64 k ∧ ∃ ab ao ar cb co cr l lo, PS w1 wr w1.heap.size (w1.heap.size + 1) (w1.heap.size + 2) ab ao ar cb co cr l lo l ∧ l.length ≤ 3 ∧ lo.length ≤ 3 ∧ Byts l) (fun i _ => n - (intOf i).toNat)
  case atStart => exact ⟨0, Nat.zero_le _, rfl, _, _, _, _, _, _, _, _, h0.out, by simp, by simp, fun c h => by simp at h⟩
  case round =>
    obtain ⟨k, hk, rfl, ab, ao, ar, cb, co, cr, l, lo, hps, hl, hlo, hby⟩ := hrel
    have HPS := Lib.hid hps
    have HBY := Lib.hid hby
    have HLO := Lib.hid hlo
    clear hps hby h0
    by_cases hlt : k < n
    · have hkl : k < xs.length := by rw [← HN.out]; exact hlt
      obtain ⟨b, off, rfl, hbl, e1, e2, e3⟩ := HA.out k hkl
      obtain ⟨d, c, hx⟩ : ∃ d c, xs[k] = (d, c) := ⟨_, _, rfl⟩
      rw [hx] at e1 e2 e3
      have HCK := Lib.hid e3
      have HE1 := Lib.hid e1
      have HE2 := Lib.hid e2
      have i1 : (k : Int) < (n : Int) := by omega
      have hx1 : ∀ w', Below w1.heap.size w1 w' → w'.cell? ⟨b, off + k * 22, none⟩ = some (.bool d) := fun w' hw => by rw [(HB.out.trans (hw.mono HB.out.size)).cell (p := ⟨b, off + k * 22, none⟩) hbl]; exact HE1.out
      have hx2 : ∀ w', Below w1.heap.size w1 w' → w'.rangeAt b (off + k * 22 + 1) c.cells := fun w' hw => fun j u hu => by rw [(HB.out.trans (hw.mono HB.out.size)).cell (p := ⟨b, off + k * 22 + 1 + j, none⟩) hbl]; exact HE2.out j u hu
      have HX1 := Lib.hid hx1
      have HX2 := Lib.hid hx2
      have HSO := Lib.hid (see_any wr _ _ _ _ (pCon k) HPS.out.o HLO.out (pCon_ok k))
      clear hx e1 e2 e3 hx1 hx2 hlo
      go_wp2_with fail
      refine HSO.out.mono ?_
      rintro e w2 hP
      obtain ⟨rfl, ao2, co2, hps2⟩ := HPS.out.stepo hP
      have HPS2 := Lib.hid hps2
      have cd := HX1.out w2 hps2.below
      clear hP hps2 HPS HSO
      have HPS := HPS2
      clear HPS2
      cases d with
      | true =>
        go_wp2
        have cp2 : w2.drew.cell? ⟨b, off + k * 22 + 1, none⟩ = some (.int .i64 c.peer) := by have := HX2.out w2 HPS.out.below 0 (.int .i64 c.peer) rfl; simpa using this
        have HPSd := Lib.hid (show PS w1 w2.drew _ _ _ _ _ _ _ _ _ _ _ _ from HPS.out.keep (Turns.drew (Turns.refl (fun _ => False) _)) (fun _ h => h.elim))
        clear HPS cd
        have HPS := HPSd
        clear HPSd
        refine start_ (n := 17) (S := fun w' => w'.cell? ⟨b, off + k * 22 + 1, none⟩ = some (.int .i64 c.peer)) (ds := [15]) #[false, false, false, false, false, false, false, false, false, false, false, false, false, false, false, false, false] (by kernel_rfl) rfl rfl (cp2) (fun hHeld => ?_)
        generalize w2.drew = wA at *
        refine pure_ (i := 0) (N := some 42) (v := ?_) (a' := ?_) #[true, false, false, false, false, false, false, false, false, false, false, false, false, false, false, false, false] rfl rfl (by kernel_rfl) (fun _ _ _ h => h) (Or.inl ⟨by rfl, ?_⟩) ?_ ?_
        rotate_left
        · intro w'
          go_simp
          with_reducible rfl
        rotate_left
        · simp only [Act.put, List.setIfInBounds_toArray, List.set_cons_zero, List.set_cons_succ]
          rfl
        refine pure_ (i := 1) (N := some 43) (v := ?_) (a' := ?_) #[true, true, false, false, false, false, false, false, false, false, false, false, false, false, false, false, false] rfl rfl (by kernel_rfl) (fun _ _ _ h => h) (Or.inl ⟨by rfl, ?_⟩) ?_ ?_
        rotate_left
        · intro w'
          go_simp
          with_reducible rfl
        rotate_left
        · simp only [Act.put, List.setIfInBounds_toArray, List.set_cons_zero, List.set_cons_succ]
          rfl
        refine pure_ (i := 2) (N := some 44) (v := ?_) (a' := ?_) #[true, true, true, false, false, false, false, false, false, false, false, false, false, false, false, false, false] rfl rfl (by kernel_rfl) (fun _ _ _ h => h) (Or.inl ⟨by rfl, ?_⟩) ?_ ?_
        rotate_left
        · intro w'
          go_simp
          with_reducible rfl
        rotate_left
        · simp only [Act.put, List.setIfInBounds_toArray, List.set_cons_zero, List.set_cons_succ]
          rfl
        refine pure_ (i := 3) (N := some 45) (v := ?_) (a' := ?_) #[true, true, true, true, false, false, false, false, false, false, false, false, false, false, false, false, false] rfl rfl (by kernel_rfl) (fun _ _ _ h => h) (Or.inl ⟨by rfl, ?_⟩) ?_ ?_
        rotate_left
        · intro w'
          go_simp
          with_reducible rfl
        rotate_left
        · simp only [Act.put, List.setIfInBounds_toArray, List.set_cons_zero, List.set_cons_succ]
          rfl
        refine pure_ (i := 4) (N := some 46) (v := ?_) (a' := ?_) #[true, true, true, true, true, false, false, false, false, false, false, false, false, false, false, false, false] rfl rfl (by kernel_rfl) (fun _ _ _ h => h) (Or.inl ⟨by rfl, ?_⟩) ?_ ?_
        rotate_left
        · intro w'
          go_simp
          with_reducible rfl
        rotate_left
        · simp only [Act.put, List.setIfInBounds_toArray, List.set_cons_zero, List.set_cons_succ]
          rfl
        refine pure_ (i := 5) (N := some 47) (v := ?_) (a' := ?_) #[true, true, true, true, true, true, false, false, false, false, false, false, false, false, false, false, false] rfl rfl (by kernel_rfl) (fun _ _ _ h => h) (Or.inl ⟨by rfl, ?_⟩) ?_ ?_
        rotate_left
        · intro w'
          go_simp
          with_reducible rfl
        rotate_left
        · simp only [Act.put, List.setIfInBounds_toArray, List.set_cons_zero, List.set_cons_succ]
          rfl
        refine take_ (i := 6) (N := some 48) (v := ?_) (a' := ?_) #[true, true, true, true, true, true, true, false, false, false, false, false, false, false, false, false, false] rfl rfl (by kernel_rfl) (fun _ _ _ h => h) (Or.inl ⟨by rfl, ?_⟩) hHeld ?_ ?_
        rotate_left
        · intro w' hSw
          (try dsimp only at hSw)
          go_simp
          with_reducible rfl
        rotate_left
        · simp only [Act.put, List.setIfInBounds_toArray, List.set_cons_zero, List.set_cons_succ]
          rfl
        refine pure_ (i := 8) (N := some 50) (v := ?_) (a' := ?_) #[true, true, true, true, true, true, true, false, true, false, false, false, false, false, false, false, false] rfl rfl (by kernel_rfl) (fun _ _ _ h => h) (Or.inl ⟨by rfl, ?_⟩) ?_ ?_
        rotate_left
        · intro w'
          go_simp
          with_reducible rfl
        rotate_left
        · simp only [Act.put, List.setIfInBounds_toArray, List.set_cons_zero, List.set_cons_succ]
          rfl
        refine pure_ (i := 9) (N := some 51) (v := ?_) (a' := ?_) #[true, true, true, true, true, true, true, false, true, true, false, false, false, false, false, false, false] rfl rfl (by kernel_rfl) (fun _ _ _ h => h) (Or.inl ⟨by rfl, ?_⟩) ?_ ?_
        rotate_left
        · intro w'
          go_simp
          with_reducible rfl
        rotate_left
        · simp only [Act.put, List.setIfInBounds_toArray, List.set_cons_zero, List.set_cons_succ]
          rfl
        refine pure_ (i := 10) (N := some 52) (v := ?_) (a' := ?_) #[true, true, true, true, true, true, true, false, true, true, true, false, false, false, false, false, false] rfl rfl (by kernel_rfl) (fun _ _ _ h => h) (Or.inl ⟨by rfl, ?_⟩) ?_ ?_
        rotate_left
        · intro w'
          go_simp
          with_reducible rfl
        rotate_left
        · simp only [Act.put, List.setIfInBounds_toArray, List.set_cons_zero, List.set_cons_succ]
          rfl
        refine pure_ (i := 11) (N := some 53) (v := ?_) (a' := ?_) #[true, true, true, true, true, true, true, false, true, true, true, true, false, false, false, false, false] rfl rfl (by kernel_rfl) (fun _ _ _ h => h) (Or.inl ⟨by rfl, ?_⟩) ?_ ?_
        rotate_left
        · intro w'
          go_simp
          with_reducible rfl
        rotate_left
        · simp only [Act.put, List.setIfInBounds_toArray, List.set_cons_zero, List.set_cons_succ]
          rfl
        refine pure_ (i := 12) (N := some 54) (v := ?_) (a' := ?_) #[true, true, true, true, true, true, true, false, true, true, true, true, true, false, false, false, false] rfl rfl (by kernel_rfl) (fun _ _ _ h => h) (Or.inl ⟨by rfl, ?_⟩) ?_ ?_
        rotate_left
        · intro w'
          go_simp
          with_reducible rfl
        rotate_left
        · simp only [Act.put, List.setIfInBounds_toArray, List.set_cons_zero, List.set_cons_succ]
          rfl
        refine pure_ (i := 13) (N := some 55) (v := ?_) (a' := ?_) #[true, true, true, true, true, true, true, false, true, true, true, true, true, true, false, false, false] rfl rfl (by kernel_rfl) (fun _ _ _ h => h) (Or.inl ⟨by rfl, ?_⟩) ?_ ?_
        rotate_left
        · intro w'
          go_simp
          with_reducible rfl
        rotate_left
        · simp only [Act.put, List.setIfInBounds_toArray, List.set_cons_zero, List.set_cons_succ]
          rfl
        refine take_ (i := 14) (N := some 56) (v := ?_) (a' := ?_) #[true, true, true, true, true, true, true, false, true, true, true, true, true, true, true, false, false] rfl rfl (by kernel_rfl) (fun _ _ _ h => h) (Or.inl ⟨by rfl, ?_⟩) hHeld ?_ ?_
        rotate_left
        · intro w' hSw
          (try dsimp only at hSw)
          go_simp
          with_reducible rfl
        rotate_left
        · simp only [Act.put, List.setIfInBounds_toArray, List.set_cons_zero, List.set_cons_succ]
          rfl
        refine one_ (i := 7) (N := some 49) #[true, true, true, true, true, true, true, true, true, true, true, true, true, true, true, false, false] rfl rfl (by kernel_rfl) (by decide) (fun K hK => ?_)
        refine goes_ Try.func24 (by kernel_rfl) rfl #[.pointer (some ⟨w1.heap.size, 0, none⟩), .int .i64 c.peer] (by rfl) rfl rfl (by (try simp only [List.map_toArray, List.map_cons, List.map_nil]); first | done | rfl) ?_
        refine (drop_any wA _ _ _ _ c.peer HPS.out.b (by omega)).mono ?_
        rintro e w3 hP
        obtain ⟨rfl, ab3, cb3, hps3⟩ := HPS.out.stepb hP
        have HPS3 := Lib.hid hps3
        clear hps3 hP
        refine ⟨_, rfl, ?_⟩
        refine hK.out _ _ (by have := HX2.out w3 HPS3.out.below 0 (.int .i64 c.peer) rfl; simpa using this) (fun hHeld => ?_)
        clear hK K
        refine norm_ (a' := ?_) ?_ ?_
        rotate_left
        · (try unfold Act.put); simp only [Act.put, List.setIfInBounds_toArray, List.set_cons_zero, List.set_cons_succ]
          rfl
        refine last_ (i := 15) (N := some 57) #[true, true, true, true, true, true, true, true, true, true, true, true, true, true, true, true, false] rfl rfl (by kernel_rfl) (by decide) (fun K hK => ?_)
        refine goes_ Try.func25 (by kernel_rfl) rfl #[.pointer (some ⟨w1.heap.size + 2, 0, none⟩), .int .i64 c.peer] (by rfl) rfl rfl (by (try simp only [List.map_toArray, List.map_cons, List.map_nil]); first | done | rfl) ?_
        refine (rdrop_any w3 _ _ _ _ c.peer HPS3.out.r (by omega)).mono ?_
        rintro e w4 hP
        obtain ⟨rfl, ar4, cr4, hps4⟩ := HPS3.out.stepr hP
        have HPS4 := Lib.hid hps4
        clear hps4 hP
        refine ⟨_, rfl, ?_⟩
        refine hK.out _ _ ?_
        clear hK K
        refine norm_ (a' := ?_) ?_ ?_
        rotate_left
        · (try unfold Act.put); simp only [Act.put, List.setIfInBounds_toArray, List.set_cons_zero, List.set_cons_succ]
          rfl
        refine pure_ (i := 16) (N := some 58) (v := .bool false) (a' := ?_) #[true, true, true, true, true, true, true, true, true, true, true, true, true, true, true, true, true] rfl rfl (by kernel_rfl) (fun _ _ _ h => h) (Or.inl ⟨by rfl, ?_⟩) ?_ ?_
        · intro w'
          have hbb : ((idxP c.peer l).isSome != (idxP c.peer l).isSome) = false := by cases (idxP c.peer l).isSome <;> rfl
          go_simp
        rotate_left
        · simp only [Act.put, List.setIfInBounds_toArray, List.set_cons_zero, List.set_cons_succ]
          rfl
        refine done_ (by kernel_rfl) ?_
        have HPS9 := HPS4
        clear HPS4 HPS3 HPS cp2 hHeld
        obtain ⟨ar9, har9⟩ : ∃ x, x = ar4 := ⟨_, rfl⟩
        obtain ⟨cr9, hcr9⟩ : ∃ x, x = cr4 := ⟨_, rfl⟩
        rw [← har9, ← hcr9] at HPS9
        clear har9 hcr9
        go_wp2
        have hlen9 := dropP_len (peer := c.peer) hl
        have HBY9 := Lib.hid (dropP_byt (peer := c.peer) HBY.out)
        have cr2 : w4.drew.cell? ⟨w1.heap.size + 2, 0, none⟩ = some (.slice ar9 (dropP c.peer l).length cr9) := by have := cell_of_blk (i := 0) HPS9.out.r.blk; simpa using this
        have HPSB := Lib.hid (show PS w1 w4.drew _ _ _ _ _ _ _ _ _ (dropP c.peer l) _ (dropP c.peer l) from HPS9.out.keep (Turns.drew (Turns.refl (fun _ => False) _)) (fun _ h => h.elim))
        clear HPS9
        refine start_ (n := 8) (S := fun w' => w'.cell? ⟨w1.heap.size + 2, 0, none⟩ = some (.slice ar9 (dropP c.peer l).length cr9)) (ds := [6]) #[false, false, false, false, false, false, false, false] (by kernel_rfl) rfl rfl (cr2) (fun hHeld => ?_)
        generalize w4.drew = wB at *
        refine pure_ (i := 0) (N := some 87) (v := ?_) (a' := ?_) #[true, false, false, false, false, false, false, false] rfl rfl (by kernel_rfl) (fun _ _ _ h => h) (Or.inl ⟨by rfl, ?_⟩) ?_ ?_
        rotate_left
        · intro w'
          go_simp
          with_reducible rfl
        rotate_left
        · simp only [Act.put, List.setIfInBounds_toArray, List.set_cons_zero, List.set_cons_succ]
          rfl
        refine pure_ (i := 2) (N := some 89) (v := ?_) (a' := ?_) #[true, false, true, false, false, false, false, false] rfl rfl (by kernel_rfl) (fun _ _ _ h => h) (Or.inl ⟨by rfl, ?_⟩) ?_ ?_
        rotate_left
        · intro w'
          go_simp
          with_reducible rfl
        rotate_left
        · simp only [Act.put, List.setIfInBounds_toArray, List.set_cons_zero, List.set_cons_succ]
          rfl
        refine pure_ (i := 3) (N := some 90) (v := ?_) (a' := ?_) #[true, false, true, true, false, false, false, false] rfl rfl (by kernel_rfl) (fun _ _ _ h => h) (Or.inl ⟨by rfl, ?_⟩) ?_ ?_
        rotate_left
        · intro w'
          go_simp
          with_reducible rfl
        rotate_left
        · simp only [Act.put, List.setIfInBounds_toArray, List.set_cons_zero, List.set_cons_succ]
          rfl
        refine pure_ (i := 4) (N := some 91) (v := ?_) (a' := ?_) #[true, false, true, true, true, false, false, false] rfl rfl (by kernel_rfl) (fun _ _ _ h => h) (Or.inl ⟨by rfl, ?_⟩) ?_ ?_
        rotate_left
        · intro w'
          go_simp
          with_reducible rfl
        rotate_left
        · simp only [Act.put, List.setIfInBounds_toArray, List.set_cons_zero, List.set_cons_succ]
          rfl
        refine take_ (i := 5) (N := some 92) (v := ?_) (a' := ?_) #[true, false, true, true, true, true, false, false] rfl rfl (by kernel_rfl) (fun _ _ _ h => h) (Or.inl ⟨by rfl, ?_⟩) hHeld ?_ ?_
        rotate_left
        · intro w' hSw
          (try dsimp only at hSw)
          go_simp
          with_reducible rfl
        rotate_left
        · simp only [Act.put, List.setIfInBounds_toArray, List.set_cons_zero, List.set_cons_succ]
          rfl
        refine one_ (i := 1) (N := some 88) #[true, true, true, true, true, true, false, false] rfl rfl (by kernel_rfl) (by decide) (fun K hK => ?_)
        refine goes_ Try.func23 (by kernel_rfl) rfl #[.pointer (some ⟨w1.heap.size, 0, none⟩)] (by rfl) rfl rfl (by (try simp only [List.map_toArray, List.map_cons, List.map_nil]); first | done | rfl) ?_
        refine (ball_any wB _ _ _ _ HPSB.out.b (by omega)).mono ?_
        rintro e wC ⟨adC, capC, rfl, hoC, hbC⟩
        have HPSC := Lib.hid (HPSB.out.later hbC)
        have HOC := Lib.hid (Reads.of_own hoC)
        clear hoC hbC
        refine ⟨_, rfl, ?_⟩
        refine hK.out _ _ (by have := cell_of_blk (i := 0) HPSC.out.r.blk; simpa using this) (fun hHeld => ?_)
        clear hK K
        refine norm_ (a' := ?_) ?_ ?_
        rotate_left
        · (try unfold Act.put); simp only [Act.put, List.setIfInBounds_toArray, List.set_cons_zero, List.set_cons_succ]
          rfl
        refine last_ (i := 6) (N := some 93) #[true, true, true, true, true, true, true, false] rfl rfl (by kernel_rfl) (by decide) (fun K hK => ?_)
        refine goes_ Try.func27 (by kernel_rfl) rfl #[.slice adC (dropP c.peer l).length capC, .slice ar9 (dropP c.peer l).length cr9] (by rfl) rfl rfl (by (try simp only [List.map_toArray, List.map_cons, List.map_nil]); first | done | rfl) ?_
        refine (bsame_any wC adC ar9 _ capC cr9 ((dropP c.peer l)) rfl (by omega) HBY9.out HOC.out (Reads.of_own HPSC.out.r.own)).mono ?_
        rintro e wD ⟨rfl, hbD⟩
        have HPSD := Lib.hid (HPSC.out.later hbD)
        clear hbD
        refine ⟨_, rfl, ?_⟩
        refine hK.out _ _ ?_
        clear hK K
        refine norm_ (a' := ?_) ?_ ?_
        rotate_left
        · (try unfold Act.put); simp only [Act.put, List.setIfInBounds_toArray, List.set_cons_zero, List.set_cons_succ]
          rfl
        refine pure_ (i := 7) (N := some 94) (v := ?_) (a' := ?_) #[true, true, true, true, true, true, true, true] rfl rfl (by kernel_rfl) (fun _ _ _ h => h) (Or.inl ⟨by rfl, ?_⟩) ?_ ?_
        rotate_left
        · intro w'
          go_simp
          with_reducible rfl
        rotate_left
        · simp only [Act.put, List.setIfInBounds_toArray, List.set_cons_zero, List.set_cons_succ]
          rfl
        refine done_ (by kernel_rfl) ?_
        go_wp2
        go_roundw
        case rel => exact ⟨k + 1, by omega, by go_num, _, _, _, _, _, _, _, _, HPSD.out, hlen9, seeL_len HLO.out, HBY9.out⟩
        case measure => simp [intOf]; omega
      | false =>
        have HG2 := Lib.hid (HX2.out w2 HPS.out.below)
        obtain ⟨R, fl, hR⟩ : ∃ R fl, seeR c l = (R, fl) := ⟨_, _, rfl⟩
        have hRb : R.byt := by have := seeR_byt (c := c) HBY.out; rw [hR] at this; exact this
        have hsb := see_any w2 _ _ _ _ c HPS.out.b hl HCK.out.ok
        rw [hR] at hsb
        have HSB := Lib.hid hsb
        have HRB := Lib.hid hRb
        have HR := Lib.hid hR
        have hs1 : R.cells.toArray.size = 21 := by rw [List.size_toArray, Con.len hRb.ok]
        have HS2 := Lib.hid (show (Try.prog.info? 54).map (·.size) = some R.cells.toArray.size by rw [hs1]; exact info54)
        have HS3 := Lib.hid (show zArr.size = R.cells.toArray.size by rw [hs1]; rfl)
        have HS4 := Lib.hid (show R.cells.toArray.all (·.oneCell') = true by rw [List.all_toArray, List.all_eq_true]; intro u hu; exact Con.one hRb.ok u hu)
        have HZ := Lib.hid (show ∀ w : World, (w.alloc (.cells zArr 54)).heap[w.heap.size]? = some (.cells zArr 54 (0, 0)) from fun w => heap_alloc_new w _)
        clear hR hRb hsb hs1
        go_wp2_with (refine wpList_load_mid rfl 54 (.tmp 64) rfl b (off + k * 22 + 1) rfl c.cells _ HG2.out Try.underlying54 rfl (by rw [Con.len HCK.out.ok]; exact info54) ?_)
        refine HSB.out.mono ?_
        rintro e w3 hP
        obtain ⟨rfl, ab3, cb3, hps3⟩ := HPS.out.stepb hP
        have TX : Turns (fun k => k = w3.heap.size) w3 ((w3.alloc (.cells zArr 54)).setRow w3.heap.size R.cells.toArray) := Turns.setRow (F := fun k => k = w3.heap.size) (Turns.alloc (Turns.refl _ w3) _) (.inr rfl) _
        have hps4 := hps3.keep TX (fun k e => by omega)
        have HG4 := Lib.hid (HX2.out _ hps4.below)
        have HPR := Lib.hid (fun k' hk' => hps3.r.foot k' hk')
        have hsr := rsee_any _ _ _ _ _ c hps4.r (by omega) HCK.out.ok
        rw [HR.out] at hsr
        have HSR := Lib.hid hsr
        have HPS4 := Lib.hid hps4
        clear hsr hps4 hps3 TX hP
        go_wp2_with (first
          | (refine wpList_store_row _ rfl 54 (.tmp 8) (.tmp 67) rfl w3.heap.size rfl R.cells.toArray rfl 54 zArr (HZ.out w3) HS2.out HS3.out HS4.out ?_)
          | (refine wpList_load_mid rfl 54 (.tmp 74) rfl b (off + k * 22 + 1) rfl c.cells _ HG4.out Try.underlying54 rfl (by rw [Con.len HCK.out.ok]; exact info54) ?_))
        refine HSR.out.mono ?_
        rintro e w5 hP
        obtain ⟨rfl, ar5, cr5, hps5⟩ := HPS4.out.stepr hP
        obtain ⟨_, _, _, _, T5, _⟩ := hP
        have g5 := T5.keep (setRow_heap _ _ _ R.cells.toArray 54 (0, 0) (HZ.out w3)) (fun e => by have := HPR.out _ e; omega)
        have TX : Turns (fun k => k = w5.heap.size) w5 ((w5.alloc (.cells zArr 54)).setRow w5.heap.size R.cells.toArray) := Turns.setRow (F := fun k => k = w5.heap.size) (Turns.alloc (Turns.refl _ w5) _) (.inr rfl) _
        have g6 := TX.keep g5 (by have := lt_of_block g5; omega)
        have h6 := setRow_heap _ _ _ R.cells.toArray 54 (0, 0) (HZ.out w5)
        have HL8 := Lib.hid (show ((w5.alloc (.cells zArr 54)).setRow w5.heap.size R.cells.toArray).rangeAt w3.heap.size 0 R.cells from fun j u hj => by rw [Nat.zero_add, cell_of_row _ _ j _ _ _ g6, List.getElem?_toArray]; exact hj)
        have HL10 := Lib.hid (show ((w5.alloc (.cells zArr 54)).setRow w5.heap.size R.cells.toArray).rangeAt w5.heap.size 0 R.cells from fun j u hj => by rw [Nat.zero_add, cell_of_row _ _ j _ _ _ h6, List.getElem?_toArray]; exact hj)
        have HPS9 := Lib.hid (show PS w1 ((w5.alloc (.cells #[.int .i64 0, .int .u8 0, .int .u8 0, .int .u8 0, .int .u8 0, .int .u8 0, .int .u8 0, .int .u8 0, .int .u8 0, .int .u8 0, .int .u8 0, .int .u8 0, .int .u8 0, .int .u8 0, .int .u8 0, .int .u8 0, .int .u8 0, .int .u8 0, .int .u8 0, .int .u8 0, .int .u8 0] 54)).setRow w5.heap.size R.cells.toArray) _ _ _ _ _ _ _ _ _ _ _ _ from hps5.keep TX (fun k e => by omega))
        have qn := fun w : World => run_neq_con w R HRB.out
        have hfl : (fl != fl) = false := by cases fl <;> rfl
        clear g5 g6 h6 TX T5 hps5 HPS4 HSR HSB HPS HG2 HG4 cd
        go_wp2_with (first
          | (refine wpList_store_row _ rfl 54 (.tmp 10) (.tmp 77) rfl w5.heap.size rfl R.cells.toArray rfl 54 zArr (HZ.out w5) HS2.out HS3.out HS4.out ?_)
          | (refine wpList_load_mid rfl 54 (.tmp 8) rfl w3.heap.size 0 rfl R.cells _ HL8.out Try.underlying54 rfl (by rw [Con.len HRB.out.ok]; exact info54) ?_)
          | (refine wpList_load_mid rfl 54 (.tmp 10) rfl w5.heap.size 0 rfl R.cells _ HL10.out Try.underlying54 rfl (by rw [Con.len HRB.out.ok]; exact info54) ?_))
        generalize (w5.alloc (.cells #[.int .i64 0, .int .u8 0, .int .u8 0, .int .u8 0, .int .u8 0, .int .u8 0, .int .u8 0, .int .u8 0, .int .u8 0, .int .u8 0, .int .u8 0, .int .u8 0, .int .u8 0, .int .u8 0, .int .u8 0, .int .u8 0, .int .u8 0, .int .u8 0, .int .u8 0, .int .u8 0, .int .u8 0] 54)).setRow w5.heap.size R.cells.toArray = w6 at *
        obtain ⟨ar9, har9⟩ : ∃ x, x = ar5 := ⟨_, rfl⟩
        obtain ⟨cr9, hcr9⟩ : ∃ x, x = cr5 := ⟨_, rfl⟩
        rw [← har9, ← hcr9] at HPS9
        clear har9 hcr9 HL8 HL10 qn hfl HS2 HS3 HS4 HZ
        have hlen9 := seeL_len (c := c) hl
        have HBY9 := Lib.hid (seeL_byt (c := c) HBY.out HCK.out)
        have cr2 : w6.drew.cell? ⟨w1.heap.size + 2, 0, none⟩ = some (.slice ar9 (seeL c l).length cr9) := by have := cell_of_blk (i := 0) HPS9.out.r.blk; simpa using this
        have HPSB := Lib.hid (show PS w1 w6.drew _ _ _ _ _ _ _ _ _ (seeL c l) _ (seeL c l) from HPS9.out.keep (Turns.drew (Turns.refl (fun _ => False) _)) (fun _ h => h.elim))
        clear HPS9
        refine start_ (n := 8) (S := fun w' => w'.cell? ⟨w1.heap.size + 2, 0, none⟩ = some (.slice ar9 (seeL c l).length cr9)) (ds := [6]) #[false, false, false, false, false, false, false, false] (by kernel_rfl) rfl rfl (cr2) (fun hHeld => ?_)
        generalize w6.drew = wB at *
        refine pure_ (i := 0) (N := some 87) (v := ?_) (a' := ?_) #[true, false, false, false, false, false, false, false] rfl rfl (by kernel_rfl) (fun _ _ _ h => h) (Or.inl ⟨by rfl, ?_⟩) ?_ ?_
        rotate_left
        · intro w'
          go_simp
          with_reducible rfl
        rotate_left
        · simp only [Act.put, List.setIfInBounds_toArray, List.set_cons_zero, List.set_cons_succ]
          rfl
        refine pure_ (i := 2) (N := some 89) (v := ?_) (a' := ?_) #[true, false, true, false, false, false, false, false] rfl rfl (by kernel_rfl) (fun _ _ _ h => h) (Or.inl ⟨by rfl, ?_⟩) ?_ ?_
        rotate_left
        · intro w'
          go_simp
          with_reducible rfl
        rotate_left
        · simp only [Act.put, List.setIfInBounds_toArray, List.set_cons_zero, List.set_cons_succ]
          rfl
        refine pure_ (i := 3) (N := some 90) (v := ?_) (a' := ?_) #[true, false, true, true, false, false, false, false] rfl rfl (by kernel_rfl) (fun _ _ _ h => h) (Or.inl ⟨by rfl, ?_⟩) ?_ ?_
        rotate_left
        · intro w'
          go_simp
          with_reducible rfl
        rotate_left
        · simp only [Act.put, List.setIfInBounds_toArray, List.set_cons_zero, List.set_cons_succ]
          rfl
        refine pure_ (i := 4) (N := some 91) (v := ?_) (a' := ?_) #[true, false, true, true, true, false, false, false] rfl rfl (by kernel_rfl) (fun _ _ _ h => h) (Or.inl ⟨by rfl, ?_⟩) ?_ ?_
        rotate_left
        · intro w'
          go_simp
          with_reducible rfl
        rotate_left
        · simp only [Act.put, List.setIfInBounds_toArray, List.set_cons_zero, List.set_cons_succ]
          rfl
        refine take_ (i := 5) (N := some 92) (v := ?_) (a' := ?_) #[true, false, true, true, true, true, false, false] rfl rfl (by kernel_rfl) (fun _ _ _ h => h) (Or.inl ⟨by rfl, ?_⟩) hHeld ?_ ?_
        rotate_left
        · intro w' hSw
          (try dsimp only at hSw)
          go_simp
          with_reducible rfl
        rotate_left
        · simp only [Act.put, List.setIfInBounds_toArray, List.set_cons_zero, List.set_cons_succ]
          rfl
        refine one_ (i := 1) (N := some 88) #[true, true, true, true, true, true, false, false] rfl rfl (by kernel_rfl) (by decide) (fun K hK => ?_)
        refine goes_ Try.func23 (by kernel_rfl) rfl #[.pointer (some ⟨w1.heap.size, 0, none⟩)] (by rfl) rfl rfl (by (try simp only [List.map_toArray, List.map_cons, List.map_nil]); first | done | rfl) ?_
        refine (ball_any wB _ _ _ _ HPSB.out.b (by omega)).mono ?_
        rintro e wC ⟨adC, capC, rfl, hoC, hbC⟩
        have HPSC := Lib.hid (HPSB.out.later hbC)
        have HOC := Lib.hid (Reads.of_own hoC)
        clear hoC hbC
        refine ⟨_, rfl, ?_⟩
        refine hK.out _ _ (by have := cell_of_blk (i := 0) HPSC.out.r.blk; simpa using this) (fun hHeld => ?_)
        clear hK K
        refine norm_ (a' := ?_) ?_ ?_
        rotate_left
        · (try unfold Act.put); simp only [Act.put, List.setIfInBounds_toArray, List.set_cons_zero, List.set_cons_succ]
          rfl
        refine last_ (i := 6) (N := some 93) #[true, true, true, true, true, true, true, false] rfl rfl (by kernel_rfl) (by decide) (fun K hK => ?_)
        refine goes_ Try.func27 (by kernel_rfl) rfl #[.slice adC (seeL c l).length capC, .slice ar9 (seeL c l).length cr9] (by rfl) rfl rfl (by (try simp only [List.map_toArray, List.map_cons, List.map_nil]); first | done | rfl) ?_
        refine (bsame_any wC adC ar9 _ capC cr9 ((seeL c l)) rfl (by omega) HBY9.out HOC.out (Reads.of_own HPSC.out.r.own)).mono ?_
        rintro e wD ⟨rfl, hbD⟩
        have HPSD := Lib.hid (HPSC.out.later hbD)
        clear hbD
        refine ⟨_, rfl, ?_⟩
        refine hK.out _ _ ?_
        clear hK K
        refine norm_ (a' := ?_) ?_ ?_
        rotate_left
        · (try unfold Act.put); simp only [Act.put, List.setIfInBounds_toArray, List.set_cons_zero, List.set_cons_succ]
          rfl
        refine pure_ (i := 7) (N := some 94) (v := ?_) (a' := ?_) #[true, true, true, true, true, true, true, true] rfl rfl (by kernel_rfl) (fun _ _ _ h => h) (Or.inl ⟨by rfl, ?_⟩) ?_ ?_
        rotate_left
        · intro w'
          go_simp
          with_reducible rfl
        rotate_left
        · simp only [Act.put, List.setIfInBounds_toArray, List.set_cons_zero, List.set_cons_succ]
          rfl
        refine done_ (by kernel_rfl) ?_
        go_wp2
        go_roundw
        case rel => exact ⟨k + 1, by omega, by go_num, _, _, _, _, _, _, _, _, HPSD.out, hlen9, seeL_len HLO.out, HBY9.out⟩
        case measure => simp [intOf]; omega
    · have hkn : k = n := by omega
      subst hkn
      go_wp2
      go_ret
      exact ⟨rfl, HB.out.trans (HPS.out.below.mono HB.out.size)⟩
end Go.Proofs.Ytddchhoplomjgaa

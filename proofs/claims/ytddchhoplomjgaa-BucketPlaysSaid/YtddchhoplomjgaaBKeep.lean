/- BucketKeeps. -/
import Derived.Test.YtddchhoplomjgaaBAlive
namespace Go.Proofs.Ytddchhoplomjgaa
open Go.RowKit Go.Proofs.YtddchhoplomjgaaW.PrintLast
set_option linter.unusedVariables false
set_option linter.unusedSimpArgs false
/-- a bucket that was made behind w0 -/
structure KB (w0 w : World) (p : Nat) (ad : Option Addr) (cap : Nat) (l : List Con) : Prop where
  bo : BO w p ad cap l
  ge : w0.heap.size ≤ p
  own : ∀ q, (Value.slice ad l.length cap).ownBlock = some q → w0.heap.size ≤ q
  below : Below w0.heap.size w0 w
theorem KB.keep {F : Nat → Prop} {w0 w w' : World} {p : Nat} {ad : Option Addr} {cap : Nat} {l : List Con} (h : KB w0 w p ad cap l) (T : Turns F w w') (hF : ∀ k, F k → w.heap.size ≤ k) : KB w0 w' p ad cap l :=
  ⟨h.bo.keep T (fun e => by have := hF _ e; have := lt_of_block h.bo.blk; omega) (fun k hk e => by have := hF _ e; have := own_lt4 h.bo.own hk; omega), h.ge, h.own,
    h.below.trans (T.below h.below.size (fun k hk e => by have := hF _ e; have := h.below.size; omega))⟩
theorem KB.later {w0 w w' : World} {p : Nat} {ad : Option Addr} {cap : Nat} {l : List Con} (h : KB w0 w p ad cap l) (b : Below w.heap.size w w') : KB w0 w' p ad cap l :=
  h.keep (Turns.of_below b (fun _ => False)) (fun _ e => e.elim)
theorem KB.post {w0 w w' : World} {p : Nat} {ad : Option Addr} {cap : Nat} {l l' : List Con} {r : Value} {e : Ending} (h : KB w0 w p ad cap l) (P : BOPost w p (.slice ad l.length cap) r l' e w') :
    e = .returned r ∧ ∃ ad' cap', KB w0 w' p ad' cap' l' := by
  obtain ⟨he, ad', cap', hb, T, F⟩ := P
  refine ⟨he, ad', cap', hb, h.ge, fun q hq => ?_, h.below.trans (T.below h.below.size (fun k hk e => ?_))⟩
  · rcases F with F | ⟨q', F, hq'⟩
    · exact h.own q (by rw [← F]; exact hq)
    · rw [F] at hq; injection hq with hq; have := h.below.size; omega
  · rcases e with e | e
    · have := h.ge; omega
    · have := h.own k e; omega
theorem KB.new (w : World) : KB w (w.alloc (.cells #[.slice none 0 0] 50)) w.heap.size none 0 [] :=
  ⟨BO.new w, Nat.le_refl _, fun q hq => (by cases hq), (Below.refl _ _).alloc (Nat.le_refl _) _⟩
/-- what the first contacts leave -/
def kL : Nat → List Con
  | 0 => []
  | 1 => [pCon 0]
  | 2 => [pCon 0, pCon 1]
  | _ => [pCon 0, pCon 1, pCon 2]
theorem kL_len (k : Nat) : (kL k).length = min k 3 := by
  match k with
  | 0 => rfl
  | 1 => rfl
  | 2 => rfl
  | k + 3 => show 3 = _; omega
theorem kL_far (k : Nat) (x : Nat) (h : 3 ≤ x) : idxP (pCon x).peer (kL k) = none := by
  have e0 : ¬ (0 : Int) = x := by omega
  have e1 : ¬ (1 : Int) = x := by omega
  have e2 : ¬ (2 : Int) = x := by omega
  match k with
  | 0 => rfl
  | 1 => simp [idxP, kL, pCon, e0]
  | 2 => simp [idxP, kL, pCon, e0, e1]
  | k + 3 => simp [idxP, kL, pCon, e0, e1, e2]
theorem kL_step (k : Nat) : seeL (pCon k) (kL k) = kL (k + 1) ∧ seeR (pCon k) (kL k) = (pCon 0, decide (3 ≤ k)) := by
  match k with
  | 0 => exact ⟨rfl, rfl⟩
  | 1 => exact ⟨rfl, rfl⟩
  | 2 => exact ⟨rfl, rfl⟩
  | k + 3 =>
    have h := kL_far (k + 3) (k + 3) (by omega)
    unfold seeL seeR
    rw [h]
    refine ⟨rfl, ?_⟩
    have : decide (3 ≤ k + 3) = true := by simp
    rw [this]
    rfl
theorem see_k {w0 w : World} {p : Nat} {ad : Option Addr} {cap : Nat} {k : Nat} (h : KB w0 w p ad cap (kL k)) :
    Calls Try.prog 22 #[.pointer (some ⟨p, 0, none⟩), .agg (pCon k).cells.toArray] w fun e w' => e = .returned (.tuple #[.agg zArr, .bool (decide (3 ≤ k))]) ∧ ∃ ad' cap', KB w0 w' p ad' cap' (kL (k + 1)) := by
  have H := see_any w p ad cap (kL k) (pCon k) h.bo (by rw [kL_len]; omega) (pCon_ok _)
  rw [(kL_step k).1, (kL_step k).2] at H
  exact H.mono fun e w' hP => h.post hP
theorem see_c {w0 w : World} {p : Nat} {ad : Option Addr} {cap : Nat} {l : List Con} (h : KB w0 w p ad cap l) (hl : l.length ≤ 3) (c : Con) (hc : c.ok) :
    Calls Try.prog 22 #[.pointer (some ⟨p, 0, none⟩), .agg c.cells.toArray] w fun e w' => e = .returned (.tuple #[.agg (seeR c l).1.cells.toArray, .bool (seeR c l).2]) ∧ ∃ ad' cap', KB w0 w' p ad' cap' (seeL c l) :=
  (see_any w p ad cap l c h.bo hl hc).mono fun e w' hP => h.post hP
theorem peer_at {W : World} {g : Nat} {l : List Con} (h : Reads W (some ⟨g, 0, none⟩) (cons l)) (hok : Oks l) (k : Nat) (hk : k < l.length) : W.cell? ⟨g, k * 21, none⟩ = some (.int .i64 l[k].peer) := by
  have := range_at h hok k hk 0 (.int .i64 l[k].peer) rfl
  simpa using this
/-- what is there once a contact that was there is seen again -/
theorem again_far (a n : Nat) (h : a < n) (h3 : 3 ≤ a) : seeL (pCon a) (kL n) = [pCon 0, pCon 1, pCon 2] := by
  obtain ⟨m, rfl⟩ : ∃ m, n = m + 3 := ⟨n - 3, by omega⟩
  unfold seeL
  rw [kL_far _ _ h3]
  rfl
theorem again_near (a n : Nat) (h : a < n) (h3 : a < 3) : ∃ l, seeL (pCon a) (kL n) = l ++ [pCon a] ∧ l.length = min n 3 - 1 ∧ Oks l := by
  have ok : ∀ x y : Int, Oks [pCon x, pCon y] := fun x y c hc => by
    simp only [List.mem_cons, List.not_mem_nil, or_false] at hc
    rcases hc with rfl | rfl <;> exact pCon_ok _
  have ok1 : ∀ x : Int, Oks [pCon x] := fun x c hc => by
    simp only [List.mem_cons, List.not_mem_nil, or_false] at hc
    subst hc; exact pCon_ok _
  have ok0 : Oks [] := fun c hc => by simp at hc
  match n, a, h, h3 with
  | 1, 0, _, _ => exact ⟨[], rfl, rfl, ok0⟩
  | 2, 0, _, _ => exact ⟨[pCon 1], rfl, rfl, ok1 _⟩
  | 2, 1, _, _ => exact ⟨[pCon 0], rfl, rfl, ok1 _⟩
  | n + 3, 0, _, _ => exact ⟨[pCon 1, pCon 2], rfl, by show 2 = _; omega, ok _ _⟩
  | n + 3, 1, _, _ => exact ⟨[pCon 0, pCon 2], rfl, by show 2 = _; omega, ok _ _⟩
  | n + 3, 2, _, _ => exact ⟨[pCon 0, pCon 1], rfl, by show 2 = _; omega, ok _ _⟩

set_option maxHeartbeats 1000000 in
theorem bkeep_out (W : World) (n a : Int) (hg : n < 1 ∨ 20 < n ∨ a < 0 ∨ n ≤ a) : Calls Try.prog 6 #[.int .i64 n, .int .i64 a] W fun e W' => e = .returned (.bool true) ∧ Below W.heap.size W W' := by
  by_cases d1 : n < 1
  all_goals by_cases d2 : 20 < n
  all_goals by_cases d3 : a < 0
  all_goals by_cases d4 : n ≤ a
  all_goals first
    | omega
    | (clear hg
       go_enter Try.func6, Try.ntmps6
       go_wp2_with fail
       refine (balive_any _).mono ?_
       rintro e w1 ⟨rfl, hb⟩
       go_wp2
       go_ret
       exact ⟨rfl, hb⟩)
set_option maxRecDepth 100000 in
set_option maxHeartbeats 4000000 in
theorem bkeep_in (W : World) (n a : Nat) (h1 : 1 ≤ n) (h2 : n ≤ 20) (h3 : a < n) : Calls Try.prog 6 #[.int .i64 n, .int .i64 a] W fun e W' => e = .returned (.bool true) ∧ Below W.heap.size W W' := by
  have d1 : decide ((n : Int) < 1) = false := by simp; omega
  have d2 : decide (20 < (n : Int)) = false := by simp; omega
  have d3 : decide ((a : Int) < 0) = false := by simp
  have d4 : decide (n ≤ a) = false := by simp; omega
  have hz : ∀ w : World, (w.alloc (.cells zArr 54)).heap[w.heap.size]? = some (.cells zArr 54 (0, 0)) := fun w => heap_alloc_new w _
  have HZ := Lib.hid hz
  have H1 := Lib.hid h1
  have H2 := Lib.hid h2
  have H3 := Lib.hid h3
  clear hz h1 h2 h3
  go_enter Try.func6, Try.ntmps6
  go_wp2_with fail
  refine (balive_any _).mono ?_
  rintro e w1 ⟨rfl, hb⟩
  have h0 := Lib.hid (KB.new w1)
  have HB := Lib.hid hb
  clear hb
  go_wp2
  go_loopw [7] (fun i wr => ∃ k : Nat, k ≤ n ∧ i = .int .i64 k ∧ ∃ ad cap, KB w1 wr w1.heap.size ad cap (kL k)) (fun i _ => n - (intOf i).toNat)
  case atStart => exact ⟨0, Nat.zero_le _, rfl, _, _, h0.out⟩
  case round =>
    obtain ⟨k, hk, rfl, ad, cap, hkb⟩ := hrel
    by_cases hlt : k < n
    · have i1 : (k : Int) < (n : Int) := by omega
      have HS := Lib.hid (see_k hkb)
      have k20 : k ≤ 20 := by have := H2.out; omega
      clear hkb
      go_wp2_with fail
      refine HS.out.mono ?_
      rintro e w2 ⟨rfl, ad2, cap2, hk2⟩
      have TX : Turns (fun k => k = w2.heap.size) w2 ((w2.alloc (.cells zArr 54)).setRow w2.heap.size zArr) := Turns.setRow (F := fun k => k = w2.heap.size) (Turns.alloc (Turns.refl _ w2) _) (.inr rfl) zArr
      have hk3 := Lib.hid (hk2.keep TX (fun k e => by omega))
      have cz0 : ((w2.alloc (.cells zArr 54)).setRow w2.heap.size zArr).cell? ⟨w2.heap.size, 0, none⟩ = some (.int .i64 0) := by
        rw [cell_of_row _ _ 0 _ _ _ (setRow_heap _ _ _ zArr 54 (0, 0) (HZ.out w2))]; rfl
      have cz : ((w2.alloc (.cells #[.int .i64 0, .int .u8 0, .int .u8 0, .int .u8 0, .int .u8 0, .int .u8 0, .int .u8 0, .int .u8 0, .int .u8 0, .int .u8 0, .int .u8 0, .int .u8 0, .int .u8 0, .int .u8 0, .int .u8 0, .int .u8 0, .int .u8 0, .int .u8 0, .int .u8 0, .int .u8 0, .int .u8 0] 54)).setRow w2.heap.size zArr).cell? ⟨w2.heap.size, 0, none⟩ = some (.int .i64 0) := cz0
      clear cz0
      clear TX hk2
      by_cases k3 : 3 ≤ k
      · have e1 : decide (3 ≤ k) = true := by simpa using k3
        have e2 : decide ((3 : Int) ≤ k) = true := by simp; omega
        go_wp2_with ((refine wpList_store_row _ rfl 54 (.tmp 8) (.tmp 45) rfl w2.heap.size rfl zArr rfl 54 zArr (HZ.out w2) info54 rfl zArr_one ?_))
        go_roundw
        case rel => exact ⟨k + 1, by omega, by go_num, ad2, cap2, hk3.out⟩
        case measure => simp [intOf]; omega
      · have e1 : decide (3 ≤ k) = false := by simpa using k3
        have e2 : decide ((3 : Int) ≤ k) = false := by simp; omega
        go_wp2_with ((refine wpList_store_row _ rfl 54 (.tmp 8) (.tmp 45) rfl w2.heap.size rfl zArr rfl 54 zArr (HZ.out w2) info54 rfl zArr_one ?_))
        go_roundw
        case rel => exact ⟨k + 1, by omega, by go_num, ad2, cap2, hk3.out⟩
        case measure => simp [intOf]; omega
    · have hkn : k = n := by omega
      subst hkn
      have HS0 := see_c hkb (by rw [kL_len]; omega) (pCon a) (pCon_ok _)
      clear hkb
      have HS := Lib.hid HS0
      clear HS0
      by_cases a3 : 3 ≤ a
      · have hL := again_far a k H3.out a3
        rw [hL] at HS
        have k4 : 3 < k := by have := H3.out; omega
        clear hL
        go_wp2_with fail
        refine HS.out.mono ?_
        rintro e w2 ⟨rfl, ad2, cap2, hk2⟩
        have HA := Lib.hid (ball_any _ _ _ _ _ hk2.bo (by simp))
        have HK2 := Lib.hid hk2
        clear hk2
        go_wp2_with fail
        refine HA.out.mono ?_
        rintro e w4 ⟨ad4, cap4, rfl, ho4, hb4⟩
        obtain ⟨g, rfl, _⟩ := own_some ho4 (fun e => by injection e with _ e2 _; simp at e2)
        have c4 : w4.cell? ⟨g, 0, none⟩ = some (.int .i64 0) := peer_at (Reads.of_own ho4) HK2.out.bo.ok 0 (by simp)
        have H4 := Lib.hid (HK2.out.later hb4).below
        clear ho4 hb4
        go_wp2
        go_ret
        exact ⟨rfl, HB.out.trans (H4.out.mono HB.out.size)⟩
      · obtain ⟨l', hL, hl1, hl2⟩ := again_near a k H3.out (by omega)
        rw [hL] at HS
        have HL1 := Lib.hid hl1
        clear hL hl1 hl2
        obtain ⟨m, hm⟩ : ∃ m, l'.length = m := ⟨_, rfl⟩
        go_wp2_with fail
        refine HS.out.mono ?_
        rintro e w2 ⟨rfl, ad2, cap2, hk2⟩
        have hlen : (l' ++ [pCon a]).length = m + 1 := by rw [List.length_append, hm]; rfl
        have HA := Lib.hid (ball_any _ _ _ _ _ hk2.bo (by rw [hlen, ← hm, HL1.out]; omega))
        have HK2 := Lib.hid hk2
        have HLEN := Lib.hid hlen
        clear hk2 hlen
        go_wp2_with fail
        refine HA.out.mono ?_
        rintro e w4 ⟨ad4, cap4, rfl, ho4, hb4⟩
        rw [HLEN.out] at ho4
        rw [HLEN.out]
        obtain ⟨g, rfl, _⟩ := own_some ho4 (fun e => by injection e with _ e2 _; omega)
        have c4 : w4.cell? ⟨g, m * 21, none⟩ = some (.int .i64 a) := by
          have := peer_at (Reads.of_own ho4) HK2.out.bo.ok m (by rw [HLEN.out]; omega)
          rw [this]
          congr 2
          simp [← hm]; rfl
        have H4 := Lib.hid (HK2.out.later hb4).below
        clear ho4 hb4
        by_cases k3 : 3 < k
        · have hm2 : m = 2 := by rw [← hm, HL1.out]; omega
          clear hm
          subst hm2
          go_wp2
          go_ret
          exact ⟨rfl, HB.out.trans (H4.out.mono HB.out.size)⟩
        · have hkm : k = m + 1 := by rw [← hm, HL1.out]; have := H1.out; omega
          clear hm
          subst hkm
          go_wp2
          go_ret
          exact ⟨rfl, HB.out.trans (H4.out.mono HB.out.size)⟩
theorem bkeep_any (W : World) (n a : Int) : Calls Try.prog 6 #[.int .i64 n, .int .i64 a] W fun e W' => e = .returned (.bool true) ∧ Below W.heap.size W W' := by
  by_cases h : n < 1 ∨ 20 < n ∨ a < 0 ∨ n ≤ a
  · exact bkeep_out W n a h
  · obtain ⟨m, rfl⟩ : ∃ m : Nat, n = m := ⟨n.toNat, by omega⟩
    obtain ⟨b, rfl⟩ : ∃ m : Nat, a = m := ⟨a.toNat, by omega⟩
    exact bkeep_in W m b (by omega) (by omega) (by omega)
end Go.Proofs.Ytddchhoplomjgaa

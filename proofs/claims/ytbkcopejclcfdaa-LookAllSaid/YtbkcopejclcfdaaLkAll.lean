/- LookAll: the walk. -/
import Derived.Test.YtbkcopejclcfdaaLkAlive
import Derived.Test.YtbkcopejclcfdaaLkPlain
import Derived.Test.YtbkcopejclcfdaaLkRead
namespace Go.Proofs.Ytbkcopejclcfdaa
open Go.RowKit Go.Proofs.YtbkcopejclcfdaaW.PrintLast Go.Proofs.Ytbkcopejclcfdaa.Sum
set_option linter.unusedVariables false
set_option linter.unusedSimpArgs false
set_option maxHeartbeats 1000000 in
theorem rhas_same (W : World) (A : Option Addr) (n cap : Nat) (l : List Int) (x : Int) (hn : n = l.length) (hl : n ≤ 1000000000) (hr : Reads W A (ints l)) :
    Calls Try.prog 32 #[.slice A n cap, .int .i64 x] W fun e W' => e = .returned (.bool (l.contains x)) ∧ W = W' := by
  have HN := Lib.hid hn
  have HR := Lib.hid hr
  clear hn hr
  go_enter Try.func32, Try.ntmps32
  go_wp2
  go_loopw [5] (fun i wr => ∃ k : Nat, k ≤ n ∧ i = .int .i64 k ∧ (∀ c ∈ l.take k, (c == x) = false) ∧ W = wr) (fun i _ => n - (intOf i).toNat)
  case atStart => exact ⟨0, Nat.zero_le _, rfl, by simp, rfl⟩
  case round =>
    obtain ⟨k, hk, rfl, hno, rfl⟩ := hrel
    have HNO := Lib.hid hno
    clear hno
    by_cases hlt : k < n
    · have hkl : k < l.length := by rw [← HN.out]; exact hlt
      obtain ⟨b, off, rfl, hb, hc⟩ := reads_int HR.out k hkl
      obtain ⟨c, hcc⟩ : ∃ c, l[k] = c := ⟨_, rfl⟩
      rw [hcc] at hc
      have HC := Lib.hid hcc
      clear hcc
      have i1 : (k : Int) < (n : Int) := by omega
      rcases Bool.eq_false_or_eq_true (c == x) with hq | hq
      · have hI : l.contains x = true := by
          rw [List.contains_iff_mem, ← (by simpa using hq : c = x), ← HC.out]
          exact List.getElem_mem hkl
        have HI := Lib.hid hI
        clear hI
        go_wp2
        go_ret
        rw [HI.out]
        exact ⟨rfl, rfl⟩
      · have HM := Lib.hid (no_more (q := fun y => y == x) hkl HNO.out (by rw [HC.out]; exact hq))
        go_wp2
        exact ⟨⟨k + 1, by omega, by go_num, HM.out, by first | trivial | rfl⟩, by simp [intOf]; omega⟩
    · have hkn : k = n := by omega
      subst hkn
      have hI : l.contains x = false := by
        rw [Bool.eq_false_iff]
        intro hc
        rw [List.contains_iff_mem] at hc
        have := HNO.out x (by rw [List.take_of_length_le (by rw [← HN.out]; exact Nat.le_refl _)]; exact hc)
        simp at this
      have HI := Lib.hid hI
      clear hI
      go_wp2
      go_ret
      rw [HI.out]
      exact ⟨rfl, rfl⟩
theorem RowsI.below {W W' : World} {A : Option Addr} {xs : List (List Int)} (h : RowsI W A xs) (hb : Below W.heap.size W W') : RowsI W' A xs := fun i hi => by
  obtain ⟨b, off, ad, cap, h1, h2, h3, h4, h5⟩ := h i hi
  exact ⟨b, off, ad, cap, h1, Nat.lt_of_lt_of_le h2 hb.size, by rw [hb.cell (p := ⟨b, off + i, none⟩) h2]; exact h3, h4.below hb, h5⟩
/-- Heard of numbers that came in -/
theorem heard_in {B : Nat} {W W1 wr : World} {p : Nat} {S : LS} {u1 u2 u3 : Value} (h : LW 88 B W1 wr p S u1 u2 u3) (hB : W.heap.size ≤ B) (hb : Below W.heap.size W wr) (peer : Int) (A : Option Addr) (n cap : Nat) (l : List Int) (hn : n = l.length) (hr : Reads W A (ints l)) (hl : S.known.length + l.length ≤ 1000000) (ho : S.opn.length ≤ 1000000) :
    Calls Try.prog 38 #[.pointer (some ⟨p, 0, none⟩), .int .i64 peer, .slice A n cap] wr (LPost 88 wr p u1 u2 u3 (S.heard peer l) (.tuple #[])) :=
  heard_any wr p S u1 u2 u3 peer A n cap l h.lo hl ho hn (hr.below hb) (fun h0 a ha e => by
    have h1 := h.ge _ e
    obtain ⟨b, off, h2, h3, _⟩ := reads_int hr 0 h0
    rw [ha] at h2
    injection h2 with h2
    rw [h2] at h1
    dsimp only at h1
    omega)
theorem nodup_take {l : List Int} (h : l.Nodup) (i : Nat) (hi : i < l.length) : l[i] ∉ l.take i := fun hc => by
  have e : l.take i ++ l.drop i = l := List.take_append_drop i l
  rw [← e] at h
  exact (List.nodup_append.1 h).2.2 _ hc l[i] (by rw [List.drop_eq_getElem_cons hi]; exact List.mem_cons_self) rfl
/-- the rounds -/
structure AI (l1 : List Int) (n2 : Nat) (k : List Int) (j : Nat) (S : LS) : Prop where
  ok : S.Ok
  ek : S.k = k
  self : S.self = -1
  opn : S.opn = []
  len : S.asked.length = j
  all : ∀ x ∈ l1, 0 ≤ x → x ∈ S.known
  le : S.known.length ≤ 20 + 20 * min j n2
theorem AI.start (l1 : List Int) (n2 : Nat) (k : List Int) (h : l1.length ≤ 20) : AI l1 n2 k 0 ((⟨k, -1, [], [], []⟩ : LS).know l1) := by
  have hok : (⟨k, -1, [], [], []⟩ : LS).Ok := ⟨by simp, by simp, fun x h => by simp at h, fun x h => by simp at h⟩
  refine ⟨hok.know l1, rfl, rfl, rfl, rfl, fun x hx h0 => knowL_all (-1) l1 [] x hx h0 (by omega), ?_⟩
  have := knowL_le (-1) l1 []
  show (knowL (-1) [] l1).length ≤ _
  simp at this
  omega
theorem keep_one (x : Int) : keepL (fun n => n == x) [x] = [] := by simp [keepL]
section
variable {l1 : List Int} {n2 : Nat} {k : List Int} {j : Nat} {S : LS}
theorem AI.j_lt (h : AI l1 n2 k j S) (h2 : n2 ≤ 20) : j ≤ 420 := by
  have e := h.ok.left_len
  have e2 := h.le
  have e3 := h.len
  have : min j n2 ≤ 20 := by omega
  omega
theorem AI.next_opn (h : AI l1 n2 k j S) (hl : S.left.length ≠ 0) : S.next.opn = [S.nextV] := by
  rw [S.next_eq hl]
  show S.opn ++ [S.nextV] = _
  rw [h.opn]
  rfl
theorem AI.lost (h : AI l1 n2 k j S) (hl : S.left.length ≠ 0) (hj : ¬ j < n2) : AI l1 n2 k (j + 1) (S.next.lost S.nextV) := by
  have e := S.next_eq hl
  refine ⟨h.ok.next.lost _, by rw [e]; exact h.ek, by rw [e]; exact h.self, ?_, by rw [e]; show (S.asked ++ [S.nextV]).length = j + 1; rw [List.length_append, h.len]; rfl, by rw [e]; exact h.all, ?_⟩
  · show keepL _ S.next.opn = []
    rw [h.next_opn hl, keep_one]
  · rw [e]
    show S.known.length ≤ _
    have := h.le
    omega
theorem AI.heard (h : AI l1 n2 k j S) (hl : S.left.length ≠ 0) (hj : j < n2) (row : List Int) (hr : row.length ≤ 20) : AI l1 n2 k (j + 1) (S.next.heard S.nextV row) := by
  have e := S.next_eq hl
  have hc : S.next.opn.contains S.nextV = true := by rw [h.next_opn hl]; simp
  unfold LS.heard
  rw [if_pos hc]
  refine ⟨(h.ok.next.lost _).know row, by rw [e]; exact h.ek, by rw [e]; exact h.self, ?_, by rw [e]; show (S.asked ++ [S.nextV]).length = j + 1; rw [List.length_append, h.len]; rfl, fun x hx h0 => ?_, ?_⟩
  · show keepL _ S.next.opn = []
    rw [h.next_opn hl, keep_one]
  · rw [e]
    exact (knowL_ok S.self row S.known h.ok.kn h.ok.pos).2.2 x (h.all x hx h0)
  · rw [e]
    show (knowL S.self S.known row).length ≤ _
    have h1 := knowL_le S.self row S.known
    have h2 := h.le
    omega
theorem AI.known_le (h : AI l1 n2 k j S) (h2 : n2 ≤ 20) : S.known.length ≤ 420 := by
  have := h.le
  have : min j n2 ≤ 20 := by omega
  omega
theorem left_none (h : S.left.length = 0) (x : Int) (hx : x ∈ S.known) : x ∈ S.asked := by
  have e : S.left = [] := List.eq_nil_of_length_eq_zero h
  by_cases hc : x ∈ S.asked
  · exact hc
  · have := (S.left_mem x).2 ⟨hx, hc⟩
    rw [e] at this
    simp at this
end
set_option maxHeartbeats 8000000 in
set_option maxRecDepth 20000 in
theorem lookAll_any (W : World) (k : List Int) (hk : Key20 k) (A1 A2 : Option Addr) (n1 n2 cap1 cap2 : Nat) (l1 : List Int) (m : List (List Int)) (hn1 : n1 = l1.length) (hn2 : n2 = m.length) (hr1 : Reads W A1 (ints l1)) (hr2 : RowsI W A2 m) :
    Calls Try.prog 10 #[.agg (kv k), .slice A1 n1 cap1, .slice A2 n2 cap2] W fun e W' => e = .returned (.bool true) ∧ Below W.heap.size W W' := by
  obtain ⟨W1, hW1⟩ : ∃ W1, W.alloc (.cells (kv k) 23) = W1 := ⟨_, rfl⟩
  have hb1 : Below W.heap.size W W1 := by rw [← hW1]; exact (Below.refl _ _).alloc (Nat.le_refl _) _
  have hg1 : W1.heap[W.heap.size]? = some (.cells (kv k) 23 (0, 0)) := by rw [← hW1, heap_alloc_new]
  have hgl := lt_of_block hg1
  have HB1 := Lib.hid hb1
  have HG := Lib.hid (fun (w : World) (h : Below W1.heap.size W1 w) => ((h.block W.heap.size hgl).trans hg1 : w.heap[W.heap.size]? = some (.cells (kv k) 23 (0, 0))))
  have HK := Lib.hid hk
  have hi : (Try.prog.info? 23).map (·.size) = some (kv k).size := by rw [kv_size, hk.len]; exact info23
  have HN1 := Lib.hid hn1
  have HN2 := Lib.hid hn2
  have HR1 := Lib.hid hr1
  have HR2 := Lib.hid hr2
  clear hb1 hg1 hk hn1 hn2 hr1 hr2
  by_cases c1 : (20 : Int) < (n1 : Int)
  · go_enter Try.func10, Try.ntmps10
    go_wp2_with fail
    refine (lalive_any W1).mono ?_
    rintro e w2 ⟨rfl, hb⟩
    have HB := Lib.hid (HB1.out.trans (hb.mono HB1.out.size))
    clear hb
    go_wp2
    go_ret
    exact ⟨rfl, HB.out⟩
  by_cases c2 : (20 : Int) < (n2 : Int)
  · go_enter Try.func10, Try.ntmps10
    go_wp2_with fail
    refine (lalive_any W1).mono ?_
    rintro e w2 ⟨rfl, hb⟩
    have HB := Lib.hid (HB1.out.trans (hb.mono HB1.out.size))
    clear hb
    go_wp2
    go_ret
    exact ⟨rfl, HB.out⟩
  have hn20 : n1 ≤ 20 := by omega
  have hm20 : n2 ≤ 20 := by omega
  go_enter Try.func10, Try.ntmps10
  go_wp2_with fail
  refine (lalive_any W1).mono ?_
  rintro e w2 ⟨rfl, hb⟩
  have hbox := HG.out w2 hb
  have HN := Lib.hid (new88_any w2 k HK.out (-1) A1 n1 cap1 l1 (by have := HN1.out; omega) HN1.out ((HR1.out.below HB1.out).below hb))
  have HB := Lib.hid hb
  clear hb
  go_wp2_with (refine wpList_load_row rfl 23 (.tmp 3) rfl W.heap.size rfl 23 (kv k) (0, 0) _ hbox Try.underlying23 rfl hi ?_)
  refine HN.out.mono ?_
  rintro e w3 ⟨p, u1, u2, u3, rfl, hp, hO, hge, hb⟩
  have HLW := Lib.hid (show LW 88 W1.heap.size W1 w3 p _ u1 u2 u3 from ⟨hO, fun b h => Nat.le_trans HB.out.size (hge b h), HB.out.trans (hb.mono HB.out.size)⟩)
  have HSZ := Lib.hid (Nat.le_trans HB.out.size hb.size)
  have HAI := Lib.hid (AI.start l1 n2 k (by have := HN1.out; omega))
  clear hO hge hb hbox
  go_wp2
  go_loopw [9] (fun i wr => ∃ j : Nat, i = .int .i64 j ∧ ∃ S u1 u2 u3, AI l1 n2 k j S ∧ LW 88 W1.heap.size W1 wr p S u1 u2 u3 ∧ W1.heap.size ≤ wr.heap.size) (fun i _ => 500 - (intOf i).toNat)
  case atStart => exact ⟨0, rfl, _, u1, u2, u3, HAI.out, HLW.out, HSZ.out⟩
  case round =>
    obtain ⟨j, rfl, S, u1, u2, u3, hA, hL, hsz⟩ := hrel
    have hj420 := hA.j_lt hm20
    have i1 : (j : Int) < 500 := by omega
    have hkl := hA.known_le hm20
    have hal : S.asked.length ≤ 420 := by rw [hA.len]; exact hj420
    have hN := next_any wr p S u1 u2 u3 hL.lo (by omega) (by omega) (by rw [hA.opn]; show (0 : Nat) ≤ 1000000; omega)
    have HA := Lib.hid hA
    have HL := Lib.hid hL
    have HSZr := Lib.hid hsz
    clear hA hL hsz
    by_cases hl0 : S.left.length = 0
    · rw [show S.nextB = false by unfold LS.nextB; rw [hl0]; rfl, show S.nextV = 0 by unfold LS.nextV; rw [if_pos hl0], show S.next = S by unfold LS.next; rw [if_pos hl0]] at hN
      have HNX := Lib.hid hN
      have HL0 := Lib.hid hl0
      clear hN hl0
      go_wp2_with fail
      refine HNX.out.mono ?_
      rintro e w4 ⟨rfl, t1, t2, t3, hO, hS⟩
      have hlw := HL.out.step HSZr.out hO hS
      have hsz4 := Nat.le_trans HSZr.out hS.T.size
      have hAs := asked_any w4 p S t1 t2 t3 hlw.lo (by omega)
      have HAs := Lib.hid hAs
      have HLW4 := Lib.hid hlw
      have HSZ4 := Lib.hid hsz4
      clear hO hS hlw hsz4 hAs
      go_wp2_with fail
      refine HAs.out.mono ?_
      rintro e w5 ⟨ad, cap, rfl, ho, hb⟩
      have hlw := HLW4.out.below HSZ4.out hb
      have HLW5 := Lib.hid hlw
      have HSZ5 := Lib.hid (Nat.le_trans HSZ4.out hb.size)
      obtain ⟨a, ha⟩ : ∃ a, S.asked.length = a := ⟨_, rfl⟩
      rw [ha] at ho ⊢
      have HO5 := Lib.hid ho
      have HAL := Lib.hid ha
      have ha420 : a ≤ 420 := by omega
      clear ho hb hlw ha
      go_wp2
      go_loopw [13] (fun i wr => ∃ q : Nat, q ≤ a ∧ i = .int .i64 q ∧ ∃ r, wr = w5.drewN r) (fun i _ => a - (intOf i).toNat)
      case atStart => exact ⟨0, Nat.zero_le _, rfl, 0, rfl⟩
      case round =>
        obtain ⟨i, hia, rfl, r, hwr⟩ := hrel
        by_cases hlt : i < a
        · obtain ⟨g, rfl, _⟩ := own_some HO5.out (fun e => by injection e with _ e2 _; omega)
          have hia2 : i < S.asked.length := by rw [HAL.out]; exact hlt
          have i2 : (i : Int) < (a : Int) := by omega
          have hcw : wr.cell? ⟨g, i, none⟩ = some (.int .i64 S.asked[i]) := by rw [hwr]; exact row_get HO5.out (i := i) hia2
          have hcap := own_le HO5.out
          have hx0 : ¬ S.asked[i] < 0 := by
            have := HA.out.ok.pos _ (HA.out.ok.sub _ (List.getElem_mem hia2))
            omega
          have hnc : (S.asked.take i).contains S.asked[i] = false := by
            rw [Bool.eq_false_iff]
            intro hc
            rw [List.contains_iff_mem] at hc
            exact nodup_take HA.out.ok.an i hia2 hc
          have hrd : Reads wr.drew (some ⟨g, 0, none⟩) (ints (S.asked.take i)) := fun j' u hj' => by
            have hj2 : (ints S.asked)[j']? = some u := by
              rw [← ints_take] at hj'
              rw [List.getElem?_take] at hj'
              split at hj'
              · exact hj'
              · cases hj'
            obtain ⟨b, off, h1, h2, h3⟩ := Reads.of_own HO5.out j' u hj2
            rw [hwr]
            exact ⟨b, off, h1, h2, h3⟩
          obtain ⟨x, hx⟩ : ∃ x, S.asked[i] = x := ⟨_, rfl⟩
          rw [hx] at hcw hx0 hnc
          have hhas := rhas_same wr.drew (some ⟨g, 0, none⟩) i cap (S.asked.take i) x (by rw [List.length_take]; omega) (by omega) hrd
          rw [hnc] at hhas
          have HHAS := Lib.hid hhas
          have HWR := Lib.hid hwr
          have HX0 := Lib.hid hx0
          clear hrd hnc hhas hx hwr
          go_wp2
          have hcw2 : wr.drew.cell? ⟨g, i, none⟩ = some (.int .i64 x) := hcw
          clear hcw
          have hdx : decide (x < 0) = false := by
            rw [decide_eq_false_iff_not]
            have := HX0.out
            omega
          refine start_ (n := 15) (S := fun w' => w' = wr.drew) (ds := []) #[false, false, false, false, false, false, false, false, false, false, false, false, false, false, false] (by kernel_rfl) rfl rfl (rfl) (fun hHeld => ?_)
          generalize hW9 : wr.drew = W9 at *
          refine pure_ (i := 0) (N := some 73) (v := ?_) (a' := ?_) #[true, false, false, false, false, false, false, false, false, false, false, false, false, false, false] rfl rfl (by kernel_rfl) (fun _ _ _ h => h) (Or.inl ⟨by rfl, ?_⟩) ?_ ?_
          rotate_left
          · intro w'
            go_simp
            with_reducible rfl
          rotate_left
          · simp only [Act.put, List.setIfInBounds_toArray, List.set_cons_zero, List.set_cons_succ]
            rfl
          refine pure_ (i := 1) (N := some 74) (v := ?_) (a' := ?_) #[true, true, false, false, false, false, false, false, false, false, false, false, false, false, false] rfl rfl (by kernel_rfl) (fun _ _ _ h => h) (Or.inl ⟨by rfl, ?_⟩) ?_ ?_
          rotate_left
          · intro w'
            go_simp
            with_reducible rfl
          rotate_left
          · simp only [Act.put, List.setIfInBounds_toArray, List.set_cons_zero, List.set_cons_succ]
            rfl
          refine pure_ (i := 2) (N := some 75) (v := ?_) (a' := ?_) #[true, true, true, false, false, false, false, false, false, false, false, false, false, false, false] rfl rfl (by kernel_rfl) (fun _ _ _ h => h) (Or.inl ⟨by rfl, ?_⟩) ?_ ?_
          rotate_left
          · intro w'
            go_simp
            with_reducible rfl
          rotate_left
          · simp only [Act.put, List.setIfInBounds_toArray, List.set_cons_zero, List.set_cons_succ]
            rfl
          refine take_ (i := 3) (N := some 76) (v := ?_) (a' := ?_) #[true, true, true, true, false, false, false, false, false, false, false, false, false, false, false] rfl rfl (by kernel_rfl) (fun _ _ _ h => h) (Or.inl ⟨by rfl, ?_⟩) hHeld ?_ ?_
          rotate_left
          · intro w' hSw
            have hSw : w' = W9 := hSw
            subst hSw
            go_simp
            with_reducible rfl
          rotate_left
          · simp only [Act.put, List.setIfInBounds_toArray, List.set_cons_zero, List.set_cons_succ]
            rfl
          refine pure_ (i := 4) (N := some 77) (v := ?_) (a' := ?_) #[true, true, true, true, true, false, false, false, false, false, false, false, false, false, false] rfl rfl (by kernel_rfl) (fun _ _ _ h => h) (Or.inl ⟨by rfl, ?_⟩) ?_ ?_
          rotate_left
          · intro w'
            go_simp
            with_reducible rfl
          rotate_left
          · simp only [Act.put, List.setIfInBounds_toArray, List.set_cons_zero, List.set_cons_succ]
            rfl
          refine pure_ (i := 5) (N := some 78) (v := ?_) (a' := ?_) #[true, true, true, true, true, true, false, false, false, false, false, false, false, false, false] rfl rfl (by kernel_rfl) (fun _ _ _ h => h) (Or.inl ⟨by rfl, ?_⟩) ?_ ?_
          rotate_left
          · intro w'
            go_simp
            with_reducible rfl
          rotate_left
          · simp only [Act.put, List.setIfInBounds_toArray, List.set_cons_zero, List.set_cons_succ]
            rfl
          refine pure_ (i := 6) (N := some 79) (v := ?_) (a' := ?_) #[true, true, true, true, true, true, true, false, false, false, false, false, false, false, false] rfl rfl (by kernel_rfl) (fun _ _ _ h => h) (Or.inl ⟨by rfl, ?_⟩) ?_ ?_
          rotate_left
          · intro w'
            go_simp
            with_reducible rfl
          rotate_left
          · simp only [Act.put, List.setIfInBounds_toArray, List.set_cons_zero, List.set_cons_succ]
            rfl
          refine pure_ (i := 7) (N := some 80) (v := ?_) (a' := ?_) #[true, true, true, true, true, true, true, true, false, false, false, false, false, false, false] rfl rfl (by kernel_rfl) (fun _ _ _ h => h) (Or.inl ⟨by rfl, ?_⟩) ?_ ?_
          rotate_left
          · intro w'
            go_simp
            with_reducible rfl
          rotate_left
          · simp only [Act.put, List.setIfInBounds_toArray, List.set_cons_zero, List.set_cons_succ]
            rfl
          refine pure_ (i := 8) (N := some 81) (v := .slice (some ⟨g, 0, none⟩) i cap) (a' := ?_) #[true, true, true, true, true, true, true, true, true, false, false, false, false, false, false] rfl rfl (by kernel_rfl) (fun _ _ _ h => h) (Or.inl ⟨by rfl, ?_⟩) ?_ ?_
          · intro w'
            exact exec_cut_hi w' 27 3 (.tmp 79) (.tmp 80) rfl 1 Try.underlying27 info3 _ a cap i rfl rfl (by omega)
          rotate_left
          · simp only [Act.put, List.setIfInBounds_toArray, List.set_cons_zero, List.set_cons_succ]
            rfl
          refine pure_ (i := 9) (N := some 82) (v := ?_) (a' := ?_) #[true, true, true, true, true, true, true, true, true, true, false, false, false, false, false] rfl rfl (by kernel_rfl) (fun _ _ _ h => h) (Or.inl ⟨by rfl, ?_⟩) ?_ ?_
          rotate_left
          · intro w'
            go_simp
            with_reducible rfl
          rotate_left
          · simp only [Act.put, List.setIfInBounds_toArray, List.set_cons_zero, List.set_cons_succ]
            rfl
          refine pure_ (i := 10) (N := some 83) (v := ?_) (a' := ?_) #[true, true, true, true, true, true, true, true, true, true, true, false, false, false, false] rfl rfl (by kernel_rfl) (fun _ _ _ h => h) (Or.inl ⟨by rfl, ?_⟩) ?_ ?_
          rotate_left
          · intro w'
            go_simp
            with_reducible rfl
          rotate_left
          · simp only [Act.put, List.setIfInBounds_toArray, List.set_cons_zero, List.set_cons_succ]
            rfl
          refine pure_ (i := 11) (N := some 84) (v := ?_) (a' := ?_) #[true, true, true, true, true, true, true, true, true, true, true, true, false, false, false] rfl rfl (by kernel_rfl) (fun _ _ _ h => h) (Or.inl ⟨by rfl, ?_⟩) ?_ ?_
          rotate_left
          · intro w'
            go_simp
            with_reducible rfl
          rotate_left
          · simp only [Act.put, List.setIfInBounds_toArray, List.set_cons_zero, List.set_cons_succ]
            rfl
          refine take_ (i := 12) (N := some 85) (v := ?_) (a' := ?_) #[true, true, true, true, true, true, true, true, true, true, true, true, true, false, false] rfl rfl (by kernel_rfl) (fun _ _ _ h => h) (Or.inl ⟨by rfl, ?_⟩) hHeld ?_ ?_
          rotate_left
          · intro w' hSw
            have hSw : w' = W9 := hSw
            subst hSw
            go_simp
            with_reducible rfl
          rotate_left
          · simp only [Act.put, List.setIfInBounds_toArray, List.set_cons_zero, List.set_cons_succ]
            rfl
          refine one_ (i := 13) (N := some 86) #[true, true, true, true, true, true, true, true, true, true, true, true, true, true, false] rfl rfl (by kernel_rfl) (by decide) (fun K hK => ?_)
          refine goes_ Try.func32 (by kernel_rfl) rfl #[.slice (some ⟨g, 0, none⟩) i cap, .int .i64 x] (by rfl) rfl rfl (by (try simp only [List.map_toArray, List.map_cons, List.map_nil]); first | done | rfl) ?_
          refine HHAS.out.mono ?_
          rintro e w3 ⟨rfl, rfl⟩
          refine ⟨_, rfl, ?_⟩
          refine hK.out _ _ rfl (fun hHeld => ?_)
          clear hK K
          refine norm_ (a' := ?_) ?_ ?_
          rotate_left
          · (try unfold Act.put); (try simp only [putAll, Act.put, List.setIfInBounds_toArray, List.set_cons_zero, List.set_cons_succ])
            rfl
          refine pure_ (i := 14) (N := some 87) (v := ?_) (a' := ?_) #[true, true, true, true, true, true, true, true, true, true, true, true, true, true, true] rfl rfl (by kernel_rfl) (fun _ _ _ h => h) (Or.inl ⟨by rfl, ?_⟩) ?_ ?_
          rotate_left
          · intro w'
            go_simp
            with_reducible rfl
          rotate_left
          · simp only [Act.put, List.setIfInBounds_toArray, List.set_cons_zero, List.set_cons_succ]
            rfl
          refine done_ (by kernel_rfl) ?_
          go_wp2
          go_roundw
          case rel => exact ⟨i + 1, by omega, by go_num, r + 1, by rw [← hW9, HWR.out]; rfl⟩
          case measure => simp [intOf]; omega
        · have hia3 : i = a := by omega
          subst hia3
          have HWR := Lib.hid hwr
          clear hwr
          go_wp2
          go_loopw [14] (fun i' wq => ∃ q : Nat, q ≤ n1 ∧ i' = .int .i64 q ∧ wr = wq) (fun i' _ => n1 - (intOf i').toNat)
          case atStart => exact ⟨0, Nat.zero_le _, rfl, rfl⟩
          case round =>
            obtain ⟨q, hq, rfl, rfl⟩ := hrel
            by_cases hq1 : q < n1
            · have hql : q < l1.length := by rw [← HN1.out]; exact hq1
              have hbw : Below W.heap.size W wr := by
                have h1 := HLW5.out.bel
                have h2 := HB1.out.trans (h1.mono HB1.out.size)
                rw [HWR.out]
                exact ⟨h2.os, by simpa using h2.tape, h2.output, h2.size, h2.block⟩
              obtain ⟨b, off, rfl, hb, hc⟩ := reads_int (HR1.out.below hbw) q hql
              obtain ⟨x, hx⟩ : ∃ x, l1[q] = x := ⟨_, rfl⟩
              rw [hx] at hc
              have i3 : (q : Int) < (n1 : Int) := by omega
              by_cases hx0 : 0 ≤ x
              · have hin : S.asked.contains x = true := by
                  rw [List.contains_iff_mem]
                  exact left_none HL0.out x (HA.out.all x (by rw [← hx]; exact List.getElem_mem hql) hx0)
                have hrd : Reads wr ad (ints S.asked) := fun j' u hj' => by
                  obtain ⟨b, off, h1, h2, h3⟩ := Reads.of_own HO5.out j' u hj'
                  rw [HWR.out]
                  exact ⟨b, off, h1, h2, h3⟩
                have hhas := rhas_same wr ad i cap S.asked x HAL.out.symm (by omega) hrd
                rw [hin] at hhas
                have HHAS := Lib.hid hhas
                clear hhas hrd hin hx hbw
                go_wp2_with fail
                refine HHAS.out.mono ?_
                rintro e w6 ⟨rfl, rfl⟩
                go_wp2
                go_roundw
                case rel => exact ⟨q + 1, by omega, by go_num, by first | trivial | rfl⟩
                case measure => simp [intOf]; omega
              · clear hx hbw
                go_wp2
                go_roundw
                case rel => exact ⟨q + 1, by omega, by go_num, by first | trivial | rfl⟩
                case measure => simp [intOf]; omega
            · have hq3 : q = n1 := by omega
              subst hq3
              have hlw : LW 88 W1.heap.size W1 wr p S t1 t2 t3 := by
                rw [HWR.out]
                exact HLW5.out.below HSZ5.out ⟨rfl, rfl, rfl, Nat.le_refl _, fun _ _ => rfl⟩
              have hD := done_any wr p S t1 t2 t3 hlw.lo (by omega) (by have := HAL.out; omega)
              rw [show S.done = true by unfold LS.done; rw [HL0.out, HA.out.opn]; rfl] at hD
              have HD := Lib.hid hD
              have HLW6 := Lib.hid hlw
              have hja : j = i := by rw [← HA.out.len, HAL.out]
              have HSZ6 := Lib.hid (show W1.heap.size ≤ wr.heap.size by rw [HWR.out]; exact HSZ5.out)
              subst hja
              clear hD hlw
              go_wp2_with fail
              refine HD.out.mono ?_
              rintro e w6 ⟨rfl, hb⟩
              have HBF := Lib.hid (HLW6.out.bel.trans (hb.mono HSZ6.out))
              clear hb
              go_wp2
              go_ret
              exact ⟨by simp, HB1.out.trans (HBF.out.mono HB1.out.size)⟩
    · rw [show S.nextB = true by unfold LS.nextB; simp [hl0]] at hN
      obtain ⟨x, hx⟩ : ∃ x, S.nextV = x := ⟨_, rfl⟩
      rw [hx] at hN
      have HNX := Lib.hid hN
      have HX := Lib.hid hx
      have HL0 := Lib.hid hl0
      have hkn : S.next.known.length ≤ 420 := by rw [S.next_eq hl0]; exact hkl
      have hopn : S.next.opn.length = 1 := by rw [HA.out.next_opn hl0]; rfl
      clear hN hl0 hx
      by_cases hjm : j < n2
      · have i2 : (j : Int) < (n2 : Int) := by omega
        have hjm2 : j < m.length := by rw [← HN2.out]; exact hjm
        obtain ⟨b, off, ad, rc, rfl, hb, hc, hr, hrc⟩ := HR2.out j hjm2
        obtain ⟨row, hrow⟩ : ∃ row, m[j] = row := ⟨_, rfl⟩
        rw [hrow] at hc hr hrc
        obtain ⟨rl, hrl⟩ : ∃ rl, row.length = rl := ⟨_, rfl⟩
        rw [hrl] at hc hrc
        have HRL := Lib.hid hrl
        have HRR := Lib.hid hr
        clear hrow hr hrl
        go_wp2_with fail
        refine HNX.out.mono ?_
        rintro e w4 ⟨rfl, t1, t2, t3, hO, hS⟩
        have hlw := HL.out.step HSZr.out hO hS
        have hbw : Below W.heap.size W w4 := HB1.out.trans (hlw.bel.mono HB1.out.size)
        have hc4 : w4.cell? ⟨b, off + j, none⟩ = some (.slice ad rl rc) := by rw [hbw.cell (p := ⟨b, off + j, none⟩) hb]; exact hc
        have hb4 : b < w4.heap.size := Nat.lt_of_lt_of_le hb hbw.size
        have HLW4 := Lib.hid hlw
        have HSZ4 := Lib.hid (Nat.le_trans HSZr.out hS.T.size)
        have HBW := Lib.hid hbw
        clear hO hS hlw hbw hc
        by_cases hrl20 : (20 : Int) < (rl : Int)
        · go_wp2
          go_ret
          exact ⟨rfl, HBW.out⟩
        · have hH := heard_in HLW4.out HB1.out.size HBW.out x ad rl rc row HRL.out.symm HRR.out (by have := HRL.out; omega) (by omega)
          have HH := Lib.hid hH
          have HA2 := Lib.hid (HA.out.heard HL0.out hjm row (by have := HRL.out; omega))
          rw [HX.out] at HA2
          clear hH
          go_wp2_with fail
          refine HH.out.mono ?_
          rintro e w5 ⟨rfl, r1, r2, r3, hO, hS⟩
          have HLW5 := Lib.hid (HLW4.out.step HSZ4.out hO hS)
          have HSZ5 := Lib.hid (Nat.le_trans HSZ4.out hS.T.size)
          clear hO hS
          go_wp2
          go_roundw
          case rel => exact ⟨j + 1, by go_num, _, r1, r2, r3, HA2.out, HLW5.out, HSZ5.out⟩
          case measure => simp [intOf]; omega
      · have i2 : ¬ (j : Int) < (n2 : Int) := by omega
        have HA2 := Lib.hid (HA.out.lost HL0.out hjm)
        rw [HX.out] at HA2
        go_wp2_with fail
        refine HNX.out.mono ?_
        rintro e w4 ⟨rfl, t1, t2, t3, hO, hS⟩
        have hlw := HL.out.step HSZr.out hO hS
        have hH := lost_any w4 p S.next t1 t2 t3 x hlw.lo (by omega)
        have HH := Lib.hid hH
        have HLW4 := Lib.hid hlw
        have HSZ4 := Lib.hid (Nat.le_trans HSZr.out hS.T.size)
        clear hO hS hlw hH
        go_wp2_with fail
        refine HH.out.mono ?_
        rintro e w5 ⟨rfl, r1, r2, r3, hO, hS⟩
        have HLW5 := Lib.hid (HLW4.out.step HSZ4.out hO hS)
        have HSZ5 := Lib.hid (Nat.le_trans HSZ4.out hS.T.size)
        clear hO hS
        go_wp2
        go_roundw
        case rel => exact ⟨j + 1, by go_num, _, r1, r2, r3, HA2.out, HLW5.out, HSZ5.out⟩
        case measure => simp [intOf]; omega
open Go.Proofs.YtbkcopejclcfdaaW.PrintWords in
/-- the same over what came in -/
theorem lookAll_all (W : World) (k : List Int) (hk : Key20 k) (A1 A2 : Option Addr) (n2 cap1 cap2 : Nat) (l1 : List Int) (m : List (List Int)) (h1 : Kd.C (Kd.int .i64) W A1 l1.length l1) (hn2 : n2 = m.length) (h2 : RowsI W A2 m) :
    Calls Try.prog 10 #[.agg (kv k), .slice A1 l1.length cap1, .slice A2 n2 cap2] W fun e W' => e = .returned (.bool true) ∧ Below W.heap.size W W' :=
  lookAll_any W k hk A1 A2 l1.length n2 cap1 cap2 l1 m rfl hn2 (Reads.of_nums (nums_of_C h1)) h2
end Go.Proofs.Ytbkcopejclcfdaa

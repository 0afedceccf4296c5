/- LookPlays: the walk. -/
import Derived.Test.YtbkcopejclcfdaaLkAlive
import Derived.Test.YtbkcopejclcfdaaLkRef2
import Derived.Test.YtbkcopejclcfdaaLkRead
namespace Go.Proofs.Ytbkcopejclcfdaa
open Go.RowKit Go.Proofs.YtbkcopejclcfdaaW.PrintLast Go.Proofs.Ytbkcopejclcfdaa.Sum
set_option linter.unusedVariables false
set_option linter.unusedSimpArgs false
theorem info61 : (Try.prog.info? 61).map (·.size) = some 3 := by kernel_rfl
/-- a look and the document's, beside one another -/
structure LP (B : Nat) (W wr : World) (p q : Nat) (Sx Sr : LS) (u1 u2 u3 t1 t2 t3 : Value) : Prop where
  x : LW 88 B W wr p Sx u1 u2 u3
  r : LW 91 B W wr q Sr t1 t2 t3
  sep : ∀ b, foot p u1 u2 u3 b → ¬ foot q t1 t2 t3 b
  size : B ≤ wr.heap.size
section
variable {B : Nat} {W wr w1 : World} {p q : Nat} {Sx Sr S' : LS} {u1 u2 u3 t1 t2 t3 r1 r2 r3 : Value}
theorem LP.below (h : LP B W wr p q Sx Sr u1 u2 u3 t1 t2 t3) (hb : Below wr.heap.size wr w1) : LP B W w1 p q Sx Sr u1 u2 u3 t1 t2 t3 := ⟨h.x.below h.size hb, h.r.below h.size hb, h.sep, Nat.le_trans h.size hb.size⟩
theorem LP.stepx (h : LP B W wr p q Sx Sr u1 u2 u3 t1 t2 t3) (hO : LO 88 w1 p S' r1 r2 r3) (st : LStep wr p u1 u2 u3 w1 r1 r2 r3) : LP B W w1 p q S' Sr r1 r2 r3 t1 t2 t3 := by
  have hx := h.x.step h.size hO st
  refine ⟨hx, ⟨h.r.lo.keep st.T (fun b hb e => h.sep b e hb), h.r.ge, hx.bel⟩, fun b hb e => ?_, Nat.le_trans h.size st.T.size⟩
  rcases st.grow b hb with h1 | h1
  · exact h.sep b h1 e
  · have := h.r.lo.foot_lt b e; omega
theorem LP.stepr (h : LP B W wr p q Sx Sr u1 u2 u3 t1 t2 t3) (hO : LO 91 w1 q S' r1 r2 r3) (st : LStep wr q t1 t2 t3 w1 r1 r2 r3) : LP B W w1 p q Sx S' u1 u2 u3 r1 r2 r3 := by
  have hx := h.r.step h.size hO st
  refine ⟨⟨h.x.lo.keep st.T (fun b hb e => h.sep b hb e), h.x.ge, hx.bel⟩, hx, fun b hb e => ?_, Nat.le_trans h.size st.T.size⟩
  rcases st.grow b e with h1 | h1
  · exact h.sep b hb h1
  · have := h.x.lo.foot_lt b hb; omega
end
/-- a block that is none of theirs -/
structure AB (wr : World) (g : Nat) (cs : Array Value) (p q : Nat) (u1 u2 u3 t1 t2 t3 : Value) : Prop where
  row : wr.heap[g]? = some (.cells cs 61 (0, 0))
  np : ¬ foot p u1 u2 u3 g
  nq : ¬ foot q t1 t2 t3 g
section
variable {wr w1 : World} {g p q : Nat} {cs : Array Value} {u1 u2 u3 t1 t2 t3 r1 r2 r3 : Value}
theorem AB.stepx (h : AB wr g cs p q u1 u2 u3 t1 t2 t3) (st : LStep wr p u1 u2 u3 w1 r1 r2 r3) : AB w1 g cs p q r1 r2 r3 t1 t2 t3 :=
  ⟨st.T.keep h.row h.np, fun e => by
    rcases st.grow g e with h1 | h1
    · exact h.np h1
    · have := lt_of_block h.row; omega, h.nq⟩
theorem AB.stepr (h : AB wr g cs p q u1 u2 u3 t1 t2 t3) (st : LStep wr q t1 t2 t3 w1 r1 r2 r3) : AB w1 g cs p q u1 u2 u3 r1 r2 r3 :=
  ⟨st.T.keep h.row h.nq, h.np, fun e => by
    rcases st.grow g e with h1 | h1
    · exact h.nq h1
    · have := lt_of_block h.row; omega⟩
end
structure PI (j : Nat) (S : LS) : Prop where
  ok : S.Ok
  kn : S.known.length ≤ 30 + 20 * j
  al : S.asked.length ≤ j
  ol : S.opn.length ≤ j
theorem keepL_length_le (q : Int → Bool) (l : List Int) : (keepL q l).length ≤ l.length := List.length_filter_le _ _
theorem PI.skip {j : Nat} {S : LS} (h : PI j S) : PI (j + 1) S := ⟨h.ok, by have := h.kn; omega, by have := h.al; omega, by have := h.ol; omega⟩
theorem PI.next {j : Nat} {S : LS} (h : PI j S) : PI (j + 1) S.next := by
  by_cases h0 : S.left.length = 0
  · have e : S.next = S := by unfold LS.next; rw [if_pos h0]
    rw [e]
    exact h.skip
  · have hok := h.ok.next
    have e := S.next_eq h0
    refine ⟨hok, by rw [e]; have := h.kn; show S.known.length ≤ _; omega, by rw [e]; have := h.al; simp; omega, by rw [e]; have := h.ol; simp; omega⟩
theorem PI.lost {j : Nat} {S : LS} (h : PI j S) (x : Int) : PI (j + 1) (S.lost x) :=
  ⟨h.ok.lost x, by have := h.kn; show S.known.length ≤ _; omega, by have := h.al; show S.asked.length ≤ _; omega, by have := h.ol; have := keepL_length_le (fun n => n == x) S.opn; show (keepL (fun n => n == x) S.opn).length ≤ _; omega⟩
theorem PI.heard {j : Nat} {S : LS} (h : PI j S) (x : Int) (row : List Int) (hr : row.length ≤ 20) : PI (j + 1) (S.heard x row) := by
  have hok := h.ok.heard x row
  unfold LS.heard at *
  split
  · rename_i hc
    rw [if_pos hc] at hok
    refine ⟨hok, ?_, by have := h.al; show S.asked.length ≤ _; omega, by have := h.ol; have := keepL_length_le (fun n => n == x) S.opn; show (keepL (fun n => n == x) S.opn).length ≤ _; omega⟩
    have := h.kn
    have := knowL_le S.self row S.known
    show (knowL S.self S.known row).length ≤ _
    omega
  · exact h.skip
/-- Heard of numbers that came in -/
theorem heard_in2 {B : Nat} {W W1 wr : World} {p : Nat} {S : LS} {u1 u2 u3 : Value} (h : LW 88 B W1 wr p S u1 u2 u3) (hB : W.heap.size ≤ B) (hb : Below W.heap.size W wr) (peer : Int) (A : Option Addr) (n cap : Nat) (l : List Int) (hn : n = l.length) (hr : Reads W A (ints l)) (hl : S.known.length + l.length ≤ 1000000) (ho : S.opn.length ≤ 1000000) :
    Calls Try.prog 38 #[.pointer (some ⟨p, 0, none⟩), .int .i64 peer, .slice A n cap] wr (LPost 88 wr p u1 u2 u3 (S.heard peer l) (.tuple #[])) :=
  heard_any wr p S u1 u2 u3 peer A n cap l h.lo hl ho hn (hr.below hb) (fun h0 a ha e => by
    have h1 := h.ge _ e
    obtain ⟨b, off, h2, h3, _⟩ := reads_int hr 0 h0
    rw [ha] at h2
    injection h2 with h2
    rw [h2] at h1
    dsimp only at h1
    omega)
theorem rheard_in {B : Nat} {W W1 wr : World} {p : Nat} {S : LS} {u1 u2 u3 : Value} (h : LW 91 B W1 wr p S u1 u2 u3) (hB : W.heap.size ≤ B) (hb : Below W.heap.size W wr) (peer : Int) (A : Option Addr) (n cap : Nat) (l : List Int) (hn : n = l.length) (hr : Reads W A (ints l)) (hl : S.known.length + l.length ≤ 1000000) (ho : S.opn.length ≤ 1000000) :
    Calls Try.prog 39 #[.pointer (some ⟨p, 0, none⟩), .int .i64 peer, .slice A n cap] wr (LPost 91 wr p u1 u2 u3 (S.heard peer l) (.tuple #[])) :=
  rheard_any wr p S u1 u2 u3 peer A n cap l h.lo hl ho hn (hr.below hb) (fun h0 a ha e => by
    have h1 := h.ge _ e
    obtain ⟨b, off, h2, h3, _⟩ := reads_int hr 0 h0
    rw [ha] at h2
    injection h2 with h2
    rw [h2] at h1
    dsimp only at h1
    omega)
set_option maxHeartbeats 16000000 in
set_option maxRecDepth 20000 in
theorem lookPlays_any (W : World) (k : List Int) (hk : Key20 k) (self : Int) (A1 A2 : Option Addr) (n1 n2 cap1 cap2 : Nat) (l1 : List Int) (m : List KAct) (hn1 : n1 = l1.length) (hn2 : n2 = m.length) (hr1 : Reads W A1 (ints l1)) (hr2 : KActs W A2 m) :
    Calls Try.prog 9 #[.agg (kv k), .int .i64 self, .slice A1 n1 cap1, .slice A2 n2 cap2] W fun e W' => e = .returned (.bool true) ∧ Below W.heap.size W W' := by
  obtain ⟨W1, hW1⟩ : ∃ W1, W.alloc (.cells (kv k) 23) = W1 := ⟨_, rfl⟩
  have hb1 : Below W.heap.size W W1 := by rw [← hW1]; exact (Below.refl _ _).alloc (Nat.le_refl _) _
  have hg1 : W1.heap[W.heap.size]? = some (.cells (kv k) 23 (0, 0)) := by rw [← hW1, heap_alloc_new]
  have hgl := lt_of_block hg1
  have HB1 := Lib.hid hb1
  have HG := Lib.hid (fun (w : World) (h : Below W1.heap.size W1 w) => ((h.block W.heap.size hgl).trans hg1 : w.heap[W.heap.size]? = some (.cells (kv k) 23 (0, 0))))
  have HK := Lib.hid hk
  have hi : (Try.prog.info? 23).map (·.size) = some (kv k).size := by rw [kv_size, hk.len]; exact info23
  have hu := Try.underlying23
  have ik : (Try.prog.info? 23).map (·.size) = some (cv k).length := by rw [cv_length, hk.len]; exact info23
  have HN1 := Lib.hid hn1
  have HN2 := Lib.hid hn2
  have HR1 := Lib.hid hr1
  have HR2 := Lib.hid hr2
  obtain ⟨i0, hi0, hz0, hz1, hz2⟩ := info_parts info3p
  have hl1 : (ints l1).length = n1 * 1 := by rw [ints_length, Nat.mul_one, hn1]
  have HL1 := Lib.hid hl1
  clear hb1 hg1 hk hn1 hn2 hr1 hr2 hl1
  by_cases c1 : (30 : Int) < (n1 : Int)
  · go_enter Try.func9, Try.ntmps9
    go_wp2_with fail
    refine (lalive_any W1).mono ?_
    rintro e w2 ⟨rfl, hb⟩
    have HB := Lib.hid (HB1.out.trans (hb.mono HB1.out.size))
    clear hb
    go_wp2
    go_ret
    exact ⟨rfl, HB.out⟩
  by_cases c2 : (60 : Int) < (n2 : Int)
  · go_enter Try.func9, Try.ntmps9
    go_wp2_with fail
    refine (lalive_any W1).mono ?_
    rintro e w2 ⟨rfl, hb⟩
    have HB := Lib.hid (HB1.out.trans (hb.mono HB1.out.size))
    clear hb
    go_wp2
    go_ret
    exact ⟨rfl, HB.out⟩
  have hn30 : n1 ≤ 30 := by omega
  have hm60 : n2 ≤ 60 := by omega
  go_enter Try.func9, Try.ntmps9
  go_wp2_with fail
  refine (lalive_any W1).mono ?_
  rintro e w2 ⟨rfl, hb⟩
  have hb9 := Below.drew hb
  have HB9 := Lib.hid hb9
  have hR0 : w2.drew.rangeAt W.heap.size 0 (cv k) := fun j u hj => by
    rw [Nat.zero_add, cell_of_row _ _ j (kv k) 23 (0, 0) (HG.out w2.drew hb9)]
    simpa [kv_cv] using hj
  have HRD := Lib.hid ((HR1.out.below HB1.out).below hb9)
  have HGL := Lib.hid (show W.heap.size < w2.drew.heap.size from Nat.lt_of_lt_of_le hgl hb9.size)
  have HR0 := Lib.hid hR0
  clear hb hb9 hR0
  go_wp2
  have hR0 := HR0.out
  have hl1 := HL1.out
  refine start_ (n := 6) (S := fun w' => w'.rangeAt W.heap.size 0 (cv k)) (ds := [4]) #[false, false, false, false, false, false] (by kernel_rfl) rfl rfl (hR0) (fun hHeld => ?_)
  generalize hW9 : w2.drew = W9 at *
  refine take_ (i := 0) (N := some 32) (v := .agg (cv k).toArray) (a' := ?_) #[true, false, false, false, false, false] rfl rfl (by kernel_rfl) (fun _ _ _ h => h) (yieldsIf_load_mid (by rfl) _ _ rfl _ _ rfl _ _ (fun w' s => s) hu rfl ik) hHeld ?_ ?_
  rotate_left
  · simp only [Act.put, List.setIfInBounds_toArray, List.set_cons_zero, List.set_cons_succ]
    rfl
  refine pure_ (i := 1) (N := some 33) (v := ?_) (a' := ?_) #[true, true, false, false, false, false] rfl rfl (by kernel_rfl) (fun _ _ _ h => h) (Or.inl ⟨by rfl, ?_⟩) ?_ ?_
  rotate_left
  · intro w'
    go_simp
    with_reducible rfl
  rotate_left
  · simp only [Act.put, List.setIfInBounds_toArray, List.set_cons_zero, List.set_cons_succ]
    rfl
  refine pure_ (i := 2) (N := some 34) (v := ?_) (a' := ?_) #[true, true, true, false, false, false] rfl rfl (by kernel_rfl) (fun _ _ _ h => h) (Or.inl ⟨by rfl, ?_⟩) ?_ ?_
  rotate_left
  · intro w'
    go_simp
    with_reducible rfl
  rotate_left
  · simp only [Act.put, List.setIfInBounds_toArray, List.set_cons_zero, List.set_cons_succ]
    rfl
  refine one_ (i := 3) (N := some 35) #[true, true, true, true, false, false] rfl rfl (by kernel_rfl) (by decide) (fun K hK => ?_)
  rw [if_pos (by rfl)]
  refine wp_row_append_any _ (.const (.slice none 0 0)) (.tmp 34) 27 rfl W9.heap.size (Nat.le_refl _) 3 i0 _ 1 8 Try.underlying27 hi0 hz0 hz1 hz2 rfl (by decide) (.slice none 0 0) 0 [] rfl (World.ownsRow_nil _ _ _ _) A1 n1 cap1 (ints l1) rfl hl1 HRD.out (ints_one l1) (by omega) (by decide) ?_
  intro v7 w7 ow7 hg7 hf7
  have hb7 : Below W9.heap.size W9 w7 := hg7.below (Nat.le_refl _) (fun b _ e => by cases e)
  (try simp only [Nat.zero_add, List.nil_append] at ow7)
  obtain ⟨ad7, cap7, rfl⟩ := slice_of_own ow7
  refine hK.out _ _ (range_below hb7 HGL.out hHeld) (fun hHeld => ?_)
  clear hK K
  refine norm_ (a' := ?_) ?_ ?_
  rotate_left
  · (try unfold Act.put); (try simp only [putAll, Act.put, List.setIfInBounds_toArray, List.set_cons_zero, List.set_cons_succ])
    rfl
  refine last_ (i := 4) (N := some 36) #[true, true, true, true, true, false] rfl rfl (by kernel_rfl) (by decide) (fun K hK => ?_)
  refine goes_ Try.func34 (by kernel_rfl) rfl #[.agg (cv k).toArray, .int .i64 self, .slice ad7 n1 cap7] (by rfl) rfl rfl (by (try simp only [List.map_toArray, List.map_cons, List.map_nil]); first | done | rfl) ?_
  refine (new88_any w7 k HK.out self ad7 n1 cap7 l1 (by have := HN1.out; omega) HN1.out (Reads.of_own ow7)).mono ?_
  rintro e w3 ⟨p, u1, u2, u3, rfl, hp, hO, hge, hb⟩
  have hb37 : Below W9.heap.size W9 w3 := hb7.trans (hb.mono hb7.size)
  have HLX := Lib.hid (show LW 88 W1.heap.size W1 w3 p _ u1 u2 u3 from ⟨hO, fun b h => Nat.le_trans HB9.out.size (Nat.le_trans hb7.size (hge b h)), HB9.out.trans (hb37.mono HB9.out.size)⟩)
  have HSZ3 := Lib.hid (Nat.le_trans HB9.out.size hb37.size)
  clear hO hge hb hb37 hb7 hg7 hf7 ow7 hHeld
  refine ⟨_, rfl, ?_⟩
  refine hK.out _ _ ?_
  clear hK K
  refine norm_ (a' := ?_) ?_ ?_
  rotate_left
  · (try unfold Act.put); (try simp only [putAll, Act.put, List.setIfInBounds_toArray, List.set_cons_zero, List.set_cons_succ])
    rfl
  refine pure_ (i := 5) (N := some 10) (v := ?_) (a' := ?_) #[true, true, true, true, true, true] rfl rfl (by kernel_rfl) (fun _ _ _ h => h) (Or.inl ⟨by rfl, ?_⟩) ?_ ?_
  rotate_left
  · intro w'
    go_simp
    with_reducible rfl
  rotate_left
  · simp only [Act.put, List.setIfInBounds_toArray, List.set_cons_zero, List.set_cons_succ]
    rfl
  refine done_ (by kernel_rfl) ?_
  have hbox := HG.out w3 HLX.out.bel
  have HNR := Lib.hid (new91_any w3 k HK.out self A1 n1 cap1 l1 (by have := HN1.out; omega) HN1.out ((HR1.out.below HB1.out).below HLX.out.bel))
  clear hl1
  go_wp2_with (refine wpList_load_row rfl 23 (.tmp 4) rfl W.heap.size rfl 23 (kv k) (0, 0) _ hbox Try.underlying23 rfl hi ?_)
  refine HNR.out.mono ?_
  rintro e w4 ⟨q, t1, t2, t3, rfl, hq, hO, hge, hb⟩
  have HLP := Lib.hid (show LP W1.heap.size W1 w4 p q _ _ u1 u2 u3 t1 t2 t3 from ⟨HLX.out.below HSZ3.out hb, ⟨hO, fun b h => Nat.le_trans HSZ3.out (hge b h), HLX.out.bel.trans (hb.mono HSZ3.out)⟩, fun b h e => by
    have h1 := hge b e
    have h2 := HLX.out.lo.foot_lt b h
    omega, Nat.le_trans HSZ3.out hb.size⟩)
  have hok0 : (⟨k, self, [], [], []⟩ : LS).Ok := ⟨by simp, by simp, fun x h => by simp at h, fun x h => by simp at h⟩
  have HPI := Lib.hid (show PI 0 ((⟨k, self, [], [], []⟩ : LS).know l1) from ⟨hok0.know l1, by
    have := knowL_le self l1 []
    have h3 := HN1.out
    show (knowL self [] l1).length ≤ _
    simp at this
    omega, Nat.le_refl _, Nat.le_refl _⟩)
  clear hO hge hb hok0 hbox
  go_wp2
  go_loopw [12] (fun i wr => ∃ j : Nat, j ≤ n2 ∧ i = .int .i64 j ∧ ∃ S u1 u2 u3 t1 t2 t3, PI j S ∧ LP W1.heap.size W1 wr p q S S u1 u2 u3 t1 t2 t3) (fun i _ => n2 - (intOf i).toNat)
  case atStart => exact ⟨0, Nat.zero_le _, rfl, _, u1, u2, u3, t1, t2, t3, HPI.out, HLP.out⟩
  case round =>
    obtain ⟨j, hj, rfl, S, u1, u2, u3, t1, t2, t3, hPI, hLP⟩ := hrel
    have HP := Lib.hid hPI
    have HL := Lib.hid hLP
    clear hPI hLP
    by_cases hjn : j < n2
    · have i1 : (j : Int) < (n2 : Int) := by omega
      have hjm : j < m.length := by rw [← HN2.out]; exact hjn
      obtain ⟨b, off, adM, cpM, rfl, hb, e1, e2, e3, hrM, hcM⟩ := HR2.out j hjm
      obtain ⟨way, peer, row, hx⟩ : ∃ way peer row, m[j] = ⟨way, peer, row⟩ := ⟨_, _, _, rfl⟩
      rw [hx] at e1 e2 e3 hrM hcM
      obtain ⟨rl, hrl⟩ : ∃ rl, row.length = rl := ⟨_, rfl⟩
      replace e3 : W.cell? ⟨b, off + j * 3 + 2, none⟩ = some (.slice adM rl cpM) := by rw [← hrl]; exact e3
      have HRL := Lib.hid hrl
      have HRM := Lib.hid hrM
      have hbel := HB1.out.trans (HL.out.x.bel.mono HB1.out.size)
      have hcells : wr.rangeAt b (off + j * 3) [.int .i64 way, .int .i64 peer, .slice adM rl cpM] := fun j' u hu => by
        match j', hu with
        | 0, hu => cases hu; rw [hbel.cell (p := ⟨b, off + j * 3 + 0, none⟩) hb]; exact e1
        | 1, hu => cases hu; rw [hbel.cell (p := ⟨b, off + j * 3 + 1, none⟩) hb]; exact e2
        | 2, hu => cases hu; rw [hbel.cell (p := ⟨b, off + j * 3 + 2, none⟩) hb]; exact e3
      have HGC := Lib.hid hcells
      obtain ⟨w0, hw0⟩ : ∃ w0, wr.alloc (.cells #[.int .i64 way, .int .i64 peer, .slice adM rl cpM] 61) = w0 := ⟨_, rfl⟩
      have hb0 : Below wr.heap.size wr w0 := by rw [← hw0]; exact (Below.refl _ _).alloc (Nat.le_refl _) _
      have HL0 := Lib.hid (HL.out.below hb0)
      have hrow : w0.heap[wr.heap.size]? = some (.cells #[.int .i64 way, .int .i64 peer, .slice adM rl cpM] 61 (0, 0)) := by rw [← hw0, heap_alloc_new]
      have HAB := Lib.hid (show AB w0 wr.heap.size #[.int .i64 way, .int .i64 peer, .slice adM rl cpM] p q u1 u2 u3 t1 t2 t3 from ⟨hrow, fun e => by have := HL.out.x.lo.foot_lt _ e; omega, fun e => by have := HL.out.r.lo.foot_lt _ e; omega⟩)
      have a0 : w0.cell? ⟨wr.heap.size, 0, none⟩ = some (.int .i64 way) := by rw [cell_of_blk hrow]; rfl
      have a1 : w0.cell? ⟨wr.heap.size, 1, none⟩ = some (.int .i64 peer) := by rw [cell_of_blk hrow]; rfl
      have a2 : w0.cell? ⟨wr.heap.size, 2, none⟩ = some (.slice adM rl cpM) := by rw [cell_of_blk hrow]; rfl
      have hgw := lt_of_block hrow
      have HB0 := Lib.hid (HB1.out.trans (HL0.out.x.bel.mono HB1.out.size))
      have hop := HP.out.ol
      have has_ := HP.out.al
      have hkn := HP.out.kn
      clear e1 e2 e3 hrM hrl hx hbel hcells hb0 hrow
      by_cases h20 : (20 : Int) < (rl : Int)
      · go_wp2_with (refine wpList_load_mid rfl 61 (.tmp 51) rfl b (off + j * 3) rfl [.int .i64 way, .int .i64 peer, .slice adM rl cpM] _ HGC.out Try.underlying61 rfl info61 ?_)
        go_ret
        exact ⟨rfl, HB0.out⟩
      · have hrl20 : rl ≤ 20 := by omega
        rcases Decidable.em (way = 0) with hw | hw
        · subst hw
          have hN := next_any w0 p S u1 u2 u3 HL0.out.x.lo (by omega) (by omega) (by omega)
          have HN := Lib.hid hN
          obtain ⟨xv, hxv⟩ : ∃ xv, S.nextV = xv := ⟨_, rfl⟩
          obtain ⟨xb, hxb⟩ : ∃ xb, S.nextB = xb := ⟨_, rfl⟩
          rw [hxv, hxb] at HN
          have HXV := Lib.hid hxv
          have HXB := Lib.hid hxb
          clear hN hxv hxb
          go_wp2_with (refine wpList_load_mid rfl 61 (.tmp 51) rfl b (off + j * 3) rfl [.int .i64 0, .int .i64 peer, .slice adM rl cpM] _ HGC.out Try.underlying61 rfl info61 ?_)
          refine HN.out.mono ?_
          rintro e w5 ⟨rfl, r1, r2, r3, hO, hS⟩
          have hl5 := HL0.out.stepx hO hS
          have hRN := rnext_any w5 q S t1 t2 t3 hl5.r.lo HP.out.ok.pos (by omega) (by omega) (by omega)
          rw [HXV.out, HXB.out] at hRN
          have HRN := Lib.hid hRN
          have HL5 := Lib.hid hl5
          clear hO hS hl5 hRN
          go_wp2_with fail
          refine HRN.out.mono ?_
          rintro e w6 ⟨rfl, s1, s2, s3, hO, hS⟩
          have HL6 := Lib.hid (HL5.out.stepr hO hS)
          have HP6 := Lib.hid HP.out.next
          clear hO hS
          have hD := done_any w6 p _ _ _ _ HL6.out.x.lo (by have := HP6.out.kn; omega) (by have := HP6.out.al; omega)
          have HD := Lib.hid hD
          have HLq := HL6
          have HPq := HP6
          clear hD
          go_wp2_with fail
          refine HD.out.mono ?_
          rintro e y1 ⟨rfl, hb⟩
          have hl := HLq.out.below hb
          have hR := rdone_any y1 q _ _ _ _ hl.r.lo
          rw [HPq.out.ok.rdone] at hR
          have HR := Lib.hid hR
          have HL1 := Lib.hid hl
          clear hb hl hR
          go_wp2_with fail
          refine HR.out.mono ?_
          rintro e y2 ⟨rfl, hb⟩
          have hl := HL1.out.below hb
          have hA := asked_any y2 p _ _ _ _ hl.x.lo (by have := HPq.out.al; omega)
          have HA2 := Lib.hid hA
          have HL2 := Lib.hid hl
          clear hb hl hA
          go_wp2_with fail
          refine HA2.out.mono ?_
          rintro e y3 ⟨ad5, cp5, rfl, ho5, hb⟩
          have hl := HL2.out.below hb
          have hA := rasked_any y3 q _ _ _ _ hl.r.lo (by have := HPq.out.al; omega)
          have HA3 := Lib.hid hA
          have HL3 := Lib.hid hl
          have HO5 := Lib.hid ho5
          clear hb hl hA ho5
          go_wp2_with fail
          refine HA3.out.mono ?_
          rintro e y4 ⟨ad6, cp6, rfl, ho6, hb⟩
          have hl := HL3.out.below hb
          have hs := sameInts_any y4 ad5 ad6 _ _ cp5 cp6 _ _ rfl rfl (by have := HPq.out.al; omega) ((Reads.of_own HO5.out).below hb) (Reads.of_own ho6)
          rw [decide_eq_true rfl] at hs
          have HS := Lib.hid hs
          have HL4 := Lib.hid hl
          clear hb hl hs ho6
          go_wp2_with fail
          refine HS.out.mono ?_
          rintro e y5 ⟨rfl, hb⟩
          have HL5 := Lib.hid (HL4.out.below hb)
          clear hb
          go_wp2
          go_roundw
          case rel => exact ⟨j + 1, by omega, by go_num, _, _, _, _, _, _, _, HPq.out, HL5.out⟩
          case measure => simp [intOf]; omega
        · have d0 : (way == 0) = false := by simpa using hw
          rcases Decidable.em (way = 1) with hw1 | hw1
          · subst hw1
            have hH := heard_in2 HL0.out.x HB1.out.size HB0.out peer adM rl cpM row HRL.out.symm HRM.out (by have := HRL.out; omega) (by omega)
            have HH := Lib.hid hH
            clear hH hw
            go_wp2_with (refine wpList_load_mid rfl 61 (.tmp 51) rfl b (off + j * 3) rfl [.int .i64 1, .int .i64 peer, .slice adM rl cpM] _ HGC.out Try.underlying61 rfl info61 ?_)
            refine HH.out.mono ?_
            rintro e w5 ⟨rfl, r1, r2, r3, hO, hS⟩
            have hl5 := HL0.out.stepx hO hS
            have hab := HAB.out.stepx hS
            have a1' : w5.cell? ⟨wr.heap.size, 1, none⟩ = some (.int .i64 peer) := by rw [cell_of_blk hab.row]; rfl
            have a2' : w5.cell? ⟨wr.heap.size, 2, none⟩ = some (.slice adM rl cpM) := by rw [cell_of_blk hab.row]; rfl
            have hR := rheard_in hl5.r HB1.out.size (HB1.out.trans (hl5.x.bel.mono HB1.out.size)) peer adM rl cpM row HRL.out.symm HRM.out (by have := HRL.out; omega) (by omega)
            have HRH := Lib.hid hR
            have HL5 := Lib.hid hl5
            clear hO hS hl5 hR hab
            go_wp2_with fail
            refine HRH.out.mono ?_
            rintro e w6 ⟨rfl, s1, s2, s3, hO, hS⟩
            have HL6 := Lib.hid (HL5.out.stepr hO hS)
            have HP6 := Lib.hid (HP.out.heard peer row (by have := HRL.out; omega))
            clear hO hS a1' a2'
            have hD := done_any w6 p _ _ _ _ HL6.out.x.lo (by have := HP6.out.kn; omega) (by have := HP6.out.al; omega)
            have HD := Lib.hid hD
            have HLq := HL6
            have HPq := HP6
            clear hD
            go_wp2_with fail
            refine HD.out.mono ?_
            rintro e y1 ⟨rfl, hb⟩
            have hl := HLq.out.below hb
            have hR := rdone_any y1 q _ _ _ _ hl.r.lo
            rw [HPq.out.ok.rdone] at hR
            have HR := Lib.hid hR
            have HL1 := Lib.hid hl
            clear hb hl hR
            go_wp2_with fail
            refine HR.out.mono ?_
            rintro e y2 ⟨rfl, hb⟩
            have hl := HL1.out.below hb
            have hA := asked_any y2 p _ _ _ _ hl.x.lo (by have := HPq.out.al; omega)
            have HA2 := Lib.hid hA
            have HL2 := Lib.hid hl
            clear hb hl hA
            go_wp2_with fail
            refine HA2.out.mono ?_
            rintro e y3 ⟨ad5, cp5, rfl, ho5, hb⟩
            have hl := HL2.out.below hb
            have hA := rasked_any y3 q _ _ _ _ hl.r.lo (by have := HPq.out.al; omega)
            have HA3 := Lib.hid hA
            have HL3 := Lib.hid hl
            have HO5 := Lib.hid ho5
            clear hb hl hA ho5
            go_wp2_with fail
            refine HA3.out.mono ?_
            rintro e y4 ⟨ad6, cp6, rfl, ho6, hb⟩
            have hl := HL3.out.below hb
            have hs := sameInts_any y4 ad5 ad6 _ _ cp5 cp6 _ _ rfl rfl (by have := HPq.out.al; omega) ((Reads.of_own HO5.out).below hb) (Reads.of_own ho6)
            rw [decide_eq_true rfl] at hs
            have HS := Lib.hid hs
            have HL4 := Lib.hid hl
            clear hb hl hs ho6
            go_wp2_with fail
            refine HS.out.mono ?_
            rintro e y5 ⟨rfl, hb⟩
            have HL5 := Lib.hid (HL4.out.below hb)
            clear hb
            go_wp2
            go_roundw
            case rel => exact ⟨j + 1, by omega, by go_num, _, _, _, _, _, _, _, HPq.out, HL5.out⟩
            case measure => simp [intOf]; omega
          · have d1 : (way == 1) = false := by simpa using hw1
            rcases Decidable.em (way = 2) with hw2 | hw2
            · subst hw2
              have hH := lost_any w0 p S u1 u2 u3 peer HL0.out.x.lo (by omega)
              have HH := Lib.hid hH
              clear hH hw hw1
              go_wp2_with (refine wpList_load_mid rfl 61 (.tmp 51) rfl b (off + j * 3) rfl [.int .i64 2, .int .i64 peer, .slice adM rl cpM] _ HGC.out Try.underlying61 rfl info61 ?_)
              refine HH.out.mono ?_
              rintro e w5 ⟨rfl, r1, r2, r3, hO, hS⟩
              have hl5 := HL0.out.stepx hO hS
              have hab := HAB.out.stepx hS
              have a1' : w5.cell? ⟨wr.heap.size, 1, none⟩ = some (.int .i64 peer) := by rw [cell_of_blk hab.row]; rfl
              have hR := rlost_any w5 q S t1 t2 t3 peer hl5.r.lo (by omega)
              have HRH := Lib.hid hR
              have HL5 := Lib.hid hl5
              clear hO hS hl5 hR hab
              go_wp2_with fail
              refine HRH.out.mono ?_
              rintro e w6 ⟨rfl, s1, s2, s3, hO, hS⟩
              have HL6 := Lib.hid (HL5.out.stepr hO hS)
              have HP6 := Lib.hid (HP.out.lost peer)
              clear hO hS a1'
              have hD := done_any w6 p _ _ _ _ HL6.out.x.lo (by have := HP6.out.kn; omega) (by have := HP6.out.al; omega)
              have HD := Lib.hid hD
              have HLq := HL6
              have HPq := HP6
              clear hD
              go_wp2_with fail
              refine HD.out.mono ?_
              rintro e y1 ⟨rfl, hb⟩
              have hl := HLq.out.below hb
              have hR := rdone_any y1 q _ _ _ _ hl.r.lo
              rw [HPq.out.ok.rdone] at hR
              have HR := Lib.hid hR
              have HL1 := Lib.hid hl
              clear hb hl hR
              go_wp2_with fail
              refine HR.out.mono ?_
              rintro e y2 ⟨rfl, hb⟩
              have hl := HL1.out.below hb
              have hA := asked_any y2 p _ _ _ _ hl.x.lo (by have := HPq.out.al; omega)
              have HA2 := Lib.hid hA
              have HL2 := Lib.hid hl
              clear hb hl hA
              go_wp2_with fail
              refine HA2.out.mono ?_
              rintro e y3 ⟨ad5, cp5, rfl, ho5, hb⟩
              have hl := HL2.out.below hb
              have hA := rasked_any y3 q _ _ _ _ hl.r.lo (by have := HPq.out.al; omega)
              have HA3 := Lib.hid hA
              have HL3 := Lib.hid hl
              have HO5 := Lib.hid ho5
              clear hb hl hA ho5
              go_wp2_with fail
              refine HA3.out.mono ?_
              rintro e y4 ⟨ad6, cp6, rfl, ho6, hb⟩
              have hl := HL3.out.below hb
              have hs := sameInts_any y4 ad5 ad6 _ _ cp5 cp6 _ _ rfl rfl (by have := HPq.out.al; omega) ((Reads.of_own HO5.out).below hb) (Reads.of_own ho6)
              rw [decide_eq_true rfl] at hs
              have HS := Lib.hid hs
              have HL4 := Lib.hid hl
              clear hb hl hs ho6
              go_wp2_with fail
              refine HS.out.mono ?_
              rintro e y5 ⟨rfl, hb⟩
              have HL5 := Lib.hid (HL4.out.below hb)
              clear hb
              go_wp2
              go_roundw
              case rel => exact ⟨j + 1, by omega, by go_num, _, _, _, _, _, _, _, HPq.out, HL5.out⟩
              case measure => simp [intOf]; omega
            · have d2 : (way == 2) = false := by simpa using hw2
              have HP6 := Lib.hid HP.out.skip
              have hD0 := done_any w0 p S u1 u2 u3 HL0.out.x.lo (by omega) (by omega)
              have HD0 := Lib.hid hD0
              clear hw hw1 hw2 hD0
              go_wp2_with (refine wpList_load_mid rfl 61 (.tmp 51) rfl b (off + j * 3) rfl [.int .i64 way, .int .i64 peer, .slice adM rl cpM] _ HGC.out Try.underlying61 rfl info61 ?_)
              have HD := HD0
              have HLq := HL0
              have HPq := HP6
              refine HD.out.mono ?_
              rintro e y1 ⟨rfl, hb⟩
              have hl := HLq.out.below hb
              have hR := rdone_any y1 q _ _ _ _ hl.r.lo
              rw [HPq.out.ok.rdone] at hR
              have HR := Lib.hid hR
              have HL1 := Lib.hid hl
              clear hb hl hR
              go_wp2_with fail
              refine HR.out.mono ?_
              rintro e y2 ⟨rfl, hb⟩
              have hl := HL1.out.below hb
              have hA := asked_any y2 p _ _ _ _ hl.x.lo (by have := HPq.out.al; omega)
              have HA2 := Lib.hid hA
              have HL2 := Lib.hid hl
              clear hb hl hA
              go_wp2_with fail
              refine HA2.out.mono ?_
              rintro e y3 ⟨ad5, cp5, rfl, ho5, hb⟩
              have hl := HL2.out.below hb
              have hA := rasked_any y3 q _ _ _ _ hl.r.lo (by have := HPq.out.al; omega)
              have HA3 := Lib.hid hA
              have HL3 := Lib.hid hl
              have HO5 := Lib.hid ho5
              clear hb hl hA ho5
              go_wp2_with fail
              refine HA3.out.mono ?_
              rintro e y4 ⟨ad6, cp6, rfl, ho6, hb⟩
              have hl := HL3.out.below hb
              have hs := sameInts_any y4 ad5 ad6 _ _ cp5 cp6 _ _ rfl rfl (by have := HPq.out.al; omega) ((Reads.of_own HO5.out).below hb) (Reads.of_own ho6)
              rw [decide_eq_true rfl] at hs
              have HS := Lib.hid hs
              have HL4 := Lib.hid hl
              clear hb hl hs ho6
              go_wp2_with fail
              refine HS.out.mono ?_
              rintro e y5 ⟨rfl, hb⟩
              have HL5 := Lib.hid (HL4.out.below hb)
              clear hb
              go_wp2
              go_roundw
              case rel => exact ⟨j + 1, by omega, by go_num, _, _, _, _, _, _, _, HPq.out, HL5.out⟩
              case measure => simp [intOf]; omega
    · have hj2 : j = n2 := by omega
      subst hj2
      have HBF := Lib.hid (HB1.out.trans (HL.out.x.bel.mono HB1.out.size))
      go_wp2
      go_ret
      exact ⟨rfl, HBF.out⟩
open Go.Proofs.YtbkcopejclcfdaaW.PrintWords in
/-- the same over what came in -/
theorem lookPlays_all (W : World) (k : List Int) (hk : Key20 k) (self : Int) (A1 A2 : Option Addr) (n2 cap1 cap2 : Nat) (l1 : List Int) (m : List KAct) (h1 : Kd.C (Kd.int .i64) W A1 l1.length l1) (hn2 : n2 = m.length) (h2 : KActs W A2 m) :
    Calls Try.prog 9 #[.agg (kv k), .int .i64 self, .slice A1 l1.length cap1, .slice A2 n2 cap2] W fun e W' => e = .returned (.bool true) ∧ Below W.heap.size W W' :=
  lookPlays_any W k hk self A1 A2 l1.length n2 cap1 cap2 l1 m rfl hn2 (Reads.of_nums (nums_of_C h1)) h2
end Go.Proofs.Ytbkcopejclcfdaa

/- New. -/
import Derived.Test.YtbkcopejclcfdaaLkMeth
namespace Go.Proofs.Ytbkcopejclcfdaa
open Go.RowKit Go.Proofs.YtbkcopejclcfdaaW.PrintLast Go.Proofs.Ytbkcopejclcfdaa.Sum
set_option linter.unusedVariables false
set_option linter.unusedSimpArgs false
theorem built88_20 (a0 a1 a2 a3 a4 a5 a6 a7 a8 a9 a10 a11 a12 a13 a14 a15 a16 a17 a18 a19 self : Int) : Try.prog.built 88 [(0, .agg (kv [a0, a1, a2, a3, a4, a5, a6, a7, a8, a9, a10, a11, a12, a13, a14, a15, a16, a17, a18, a19])), (1, .int .i64 self)] = some (lcells [a0, a1, a2, a3, a4, a5, a6, a7, a8, a9, a10, a11, a12, a13, a14, a15, a16, a17, a18, a19] self (.slice none 0 0) (.slice none 0 0) (.slice none 0 0)) := by
  kernel_rfl
theorem built88 (k : List Int) (hk : k.length = 20) (self : Int) : Try.prog.built 88 [(0, .agg (kv k)), (1, .int .i64 self)] = some (lcells k self (.slice none 0 0) (.slice none 0 0) (.slice none 0 0)) := by
  obtain ⟨a0, k, rfl⟩ := List.exists_cons_of_length_eq_add_one hk
  replace hk := Nat.succ.inj hk
  obtain ⟨a1, k, rfl⟩ := List.exists_cons_of_length_eq_add_one hk
  replace hk := Nat.succ.inj hk
  obtain ⟨a2, k, rfl⟩ := List.exists_cons_of_length_eq_add_one hk
  replace hk := Nat.succ.inj hk
  obtain ⟨a3, k, rfl⟩ := List.exists_cons_of_length_eq_add_one hk
  replace hk := Nat.succ.inj hk
  obtain ⟨a4, k, rfl⟩ := List.exists_cons_of_length_eq_add_one hk
  replace hk := Nat.succ.inj hk
  obtain ⟨a5, k, rfl⟩ := List.exists_cons_of_length_eq_add_one hk
  replace hk := Nat.succ.inj hk
  obtain ⟨a6, k, rfl⟩ := List.exists_cons_of_length_eq_add_one hk
  replace hk := Nat.succ.inj hk
  obtain ⟨a7, k, rfl⟩ := List.exists_cons_of_length_eq_add_one hk
  replace hk := Nat.succ.inj hk
  obtain ⟨a8, k, rfl⟩ := List.exists_cons_of_length_eq_add_one hk
  replace hk := Nat.succ.inj hk
  obtain ⟨a9, k, rfl⟩ := List.exists_cons_of_length_eq_add_one hk
  replace hk := Nat.succ.inj hk
  obtain ⟨a10, k, rfl⟩ := List.exists_cons_of_length_eq_add_one hk
  replace hk := Nat.succ.inj hk
  obtain ⟨a11, k, rfl⟩ := List.exists_cons_of_length_eq_add_one hk
  replace hk := Nat.succ.inj hk
  obtain ⟨a12, k, rfl⟩ := List.exists_cons_of_length_eq_add_one hk
  replace hk := Nat.succ.inj hk
  obtain ⟨a13, k, rfl⟩ := List.exists_cons_of_length_eq_add_one hk
  replace hk := Nat.succ.inj hk
  obtain ⟨a14, k, rfl⟩ := List.exists_cons_of_length_eq_add_one hk
  replace hk := Nat.succ.inj hk
  obtain ⟨a15, k, rfl⟩ := List.exists_cons_of_length_eq_add_one hk
  replace hk := Nat.succ.inj hk
  obtain ⟨a16, k, rfl⟩ := List.exists_cons_of_length_eq_add_one hk
  replace hk := Nat.succ.inj hk
  obtain ⟨a17, k, rfl⟩ := List.exists_cons_of_length_eq_add_one hk
  replace hk := Nat.succ.inj hk
  obtain ⟨a18, k, rfl⟩ := List.exists_cons_of_length_eq_add_one hk
  replace hk := Nat.succ.inj hk
  obtain ⟨a19, k, rfl⟩ := List.exists_cons_of_length_eq_add_one hk
  replace hk := Nat.succ.inj hk
  obtain rfl := List.eq_nil_of_length_eq_zero hk
  exact built88_20 a0 a1 a2 a3 a4 a5 a6 a7 a8 a9 a10 a11 a12 a13 a14 a15 a16 a17 a18 a19 self
theorem exec_build88 {o : Oper} {a : Act} (w : World) (x y : Operand) (k : List Int) (hk : k.length = 20) (self : Int) (ho : o.op = .build 88 #[(0, x), (1, y)]) (hx : a.eval x = .agg (kv k)) (hy : a.eval y = .int .i64 self) :
    (execOp a.eval o).run Try.prog w = .ok (.value (.agg (lcells k self (.slice none 0 0) (.slice none 0 0) (.slice none 0 0)))) w := by
  unfold execOp
  simp only [ho, Sem.run_bind, Sem.run_pure, List.map_toArray, List.map_cons, List.map_nil, hx, hy, run_build w 88 #[(0, .agg (kv k)), (1, .int .i64 self)] _ (built88 k hk self), Result.andThen_ok]
theorem built91_20 (a0 a1 a2 a3 a4 a5 a6 a7 a8 a9 a10 a11 a12 a13 a14 a15 a16 a17 a18 a19 self : Int) : Try.prog.built 91 [(0, .agg (kv [a0, a1, a2, a3, a4, a5, a6, a7, a8, a9, a10, a11, a12, a13, a14, a15, a16, a17, a18, a19])), (1, .int .i64 self)] = some (lcells [a0, a1, a2, a3, a4, a5, a6, a7, a8, a9, a10, a11, a12, a13, a14, a15, a16, a17, a18, a19] self (.slice none 0 0) (.slice none 0 0) (.slice none 0 0)) := by
  kernel_rfl
theorem built91 (k : List Int) (hk : k.length = 20) (self : Int) : Try.prog.built 91 [(0, .agg (kv k)), (1, .int .i64 self)] = some (lcells k self (.slice none 0 0) (.slice none 0 0) (.slice none 0 0)) := by
  obtain ⟨a0, k, rfl⟩ := List.exists_cons_of_length_eq_add_one hk
  replace hk := Nat.succ.inj hk
  obtain ⟨a1, k, rfl⟩ := List.exists_cons_of_length_eq_add_one hk
  replace hk := Nat.succ.inj hk
  obtain ⟨a2, k, rfl⟩ := List.exists_cons_of_length_eq_add_one hk
  replace hk := Nat.succ.inj hk
  obtain ⟨a3, k, rfl⟩ := List.exists_cons_of_length_eq_add_one hk
  replace hk := Nat.succ.inj hk
  obtain ⟨a4, k, rfl⟩ := List.exists_cons_of_length_eq_add_one hk
  replace hk := Nat.succ.inj hk
  obtain ⟨a5, k, rfl⟩ := List.exists_cons_of_length_eq_add_one hk
  replace hk := Nat.succ.inj hk
  obtain ⟨a6, k, rfl⟩ := List.exists_cons_of_length_eq_add_one hk
  replace hk := Nat.succ.inj hk
  obtain ⟨a7, k, rfl⟩ := List.exists_cons_of_length_eq_add_one hk
  replace hk := Nat.succ.inj hk
  obtain ⟨a8, k, rfl⟩ := List.exists_cons_of_length_eq_add_one hk
  replace hk := Nat.succ.inj hk
  obtain ⟨a9, k, rfl⟩ := List.exists_cons_of_length_eq_add_one hk
  replace hk := Nat.succ.inj hk
  obtain ⟨a10, k, rfl⟩ := List.exists_cons_of_length_eq_add_one hk
  replace hk := Nat.succ.inj hk
  obtain ⟨a11, k, rfl⟩ := List.exists_cons_of_length_eq_add_one hk
  replace hk := Nat.succ.inj hk
  obtain ⟨a12, k, rfl⟩ := List.exists_cons_of_length_eq_add_one hk
  replace hk := Nat.succ.inj hk
  obtain ⟨a13, k, rfl⟩ := List.exists_cons_of_length_eq_add_one hk
  replace hk := Nat.succ.inj hk
  obtain ⟨a14, k, rfl⟩ := List.exists_cons_of_length_eq_add_one hk
  replace hk := Nat.succ.inj hk
  obtain ⟨a15, k, rfl⟩ := List.exists_cons_of_length_eq_add_one hk
  replace hk := Nat.succ.inj hk
  obtain ⟨a16, k, rfl⟩ := List.exists_cons_of_length_eq_add_one hk
  replace hk := Nat.succ.inj hk
  obtain ⟨a17, k, rfl⟩ := List.exists_cons_of_length_eq_add_one hk
  replace hk := Nat.succ.inj hk
  obtain ⟨a18, k, rfl⟩ := List.exists_cons_of_length_eq_add_one hk
  replace hk := Nat.succ.inj hk
  obtain ⟨a19, k, rfl⟩ := List.exists_cons_of_length_eq_add_one hk
  replace hk := Nat.succ.inj hk
  obtain rfl := List.eq_nil_of_length_eq_zero hk
  exact built91_20 a0 a1 a2 a3 a4 a5 a6 a7 a8 a9 a10 a11 a12 a13 a14 a15 a16 a17 a18 a19 self
theorem exec_build91 {o : Oper} {a : Act} (w : World) (x y : Operand) (k : List Int) (hk : k.length = 20) (self : Int) (ho : o.op = .build 91 #[(0, x), (1, y)]) (hx : a.eval x = .agg (kv k)) (hy : a.eval y = .int .i64 self) :
    (execOp a.eval o).run Try.prog w = .ok (.value (.agg (lcells k self (.slice none 0 0) (.slice none 0 0) (.slice none 0 0)))) w := by
  unfold execOp
  simp only [ho, Sem.run_bind, Sem.run_pure, List.map_toArray, List.map_cons, List.map_nil, hx, hy, run_build w 91 #[(0, .agg (kv k)), (1, .int .i64 self)] _ (built91 k hk self), Result.andThen_ok]
/-- a look made anew -/
def NewPost (t : TypeId) (W : World) (S : LS) (e : Ending) (W' : World) : Prop :=
  ∃ p u1 u2 u3, e = .returned (.pointer (some ⟨p, 0, none⟩)) ∧ W.heap.size ≤ p ∧ LO t W' p S u1 u2 u3 ∧ (∀ b, foot p u1 u2 u3 b → W.heap.size ≤ b) ∧ Below W.heap.size W W'
set_option maxHeartbeats 2000000 in
set_option maxRecDepth 20000 in
theorem new88_any (W : World) (k : List Int) (hk : Key20 k) (self : Int) (A : Option Addr) (n cap : Nat) (l : List Int) (hl : l.length ≤ 1000000) (hn : n = l.length) (hr : Reads W A (ints l)) :
    Calls Try.prog 34 #[.agg (kv k), .int .i64 self, .slice A n cap] W (NewPost 88 W ((⟨k, self, [], [], []⟩ : LS).know l)) := by
  obtain ⟨W1, hW1⟩ : ∃ W1, W.alloc (.cells (kv k) 23) = W1 := ⟨_, rfl⟩
  have hs1 : W1.heap.size = W.heap.size + 1 := by rw [← hW1]; simp
  have hg : W1.heap[W.heap.size]? = some (.cells (kv k) 23 (0, 0)) := by rw [← hW1, heap_alloc_new]
  have hi : (Try.prog.info? 23).map (·.size) = some (kv k).size := by rw [kv_size, hk.len]; exact info23
  have hb1 : Below W.heap.size W W1 := by rw [← hW1]; exact (Below.refl _ _).alloc (Nat.le_refl _) _
  obtain ⟨W2, hW2⟩ : ∃ W2, W1.alloc (.cells (lcells k self (.slice none 0 0) (.slice none 0 0) (.slice none 0 0)) 88) = W2 := ⟨_, rfl⟩
  have hb2 : Below W1.heap.size W1 W2 := by rw [← hW2]; exact (Below.refl _ _).alloc (Nat.le_refl _) _
  have hL : LO 88 W2 W1.heap.size ⟨k, self, [], [], []⟩ (.slice none 0 0) (.slice none 0 0) (.slice none 0 0) := by rw [← hW2]; exact LO.new W1 k hk self
  have hfn : ∀ b, foot W1.heap.size (.slice none 0 0) (.slice none 0 0) (.slice none 0 0) b → b = W1.heap.size := fun b hb => by
    rcases hb with hb | hb | hb | hb
    · exact hb
    all_goals cases hb
  have HK := Lib.hid (know_any W2 W1.heap.size ⟨k, self, [], [], []⟩ _ _ _ A n cap l hL (by show 0 + l.length ≤ 1000000; omega) hn ((hr.below hb1).below hb2) (fun h0 a ha e => by
    have he := hfn _ e
    obtain ⟨b, off, h2, h3, _⟩ := reads_int hr 0 h0
    rw [ha] at h2
    injection h2 with h2
    rw [h2] at he
    dsimp only at he
    omega))
  have HW1 := Lib.hid hW1
  have HW2 := Lib.hid hW2
  have HKL := hk.len
  have HFN := Lib.hid hfn
  have HB := Lib.hid (hb1.trans (hb2.mono hb1.size))
  have HS1 := Lib.hid hs1
  have HG := Lib.hid hg
  have hpl := lt_of_block hg
  have hu := Try.underlying23
  clear hL hb1 hb2 hfn hk hr hW2 hs1 hg hn
  go_enter Try.func34, Try.ntmps34
  go_wp2_with (first | (refine wpList_load_row rfl 23 (.tmp 3) rfl W.heap.size rfl 23 (kv k) (0, 0) _ HG.out Try.underlying23 rfl hi ?_) | (refine wpList_exec _ rfl (exec_build88 _ (.tmp 8) (.tmp 9) k HKL self rfl rfl rfl) ?_))
  show Calls Try.prog 62 #[.pointer (some ⟨W1.heap.size, 0, none⟩), _] (W1.alloc (.cells (lcells k self (.slice none 0 0) (.slice none 0 0) (.slice none 0 0)) 88)) _
  rw [HW2.out]
  refine HK.out.mono ?_
  rintro e w3 ⟨rfl, u, ho, st⟩
  have HO := Lib.hid ho
  have HST := Lib.hid st
  clear ho st
  go_wp2
  go_ret
  have hge : W.heap.size ≤ W1.heap.size := by have := HS1.out; omega
  refine ⟨W1.heap.size, u, _, _, rfl, hge, HO.out, fun b hb => ?_, HB.out.trans (HST.out.T.below HB.out.size (fun k hk e => by have := HFN.out k e; omega))⟩
  rcases HST.out.grow b hb with h1 | h1
  · have := HFN.out b h1; omega
  · have := HB.out.size; omega
set_option maxHeartbeats 2000000 in
set_option maxRecDepth 20000 in
theorem heard_any (W : World) (p : Nat) (S : LS) (v1 v2 v3 : Value) (peer : Int) (A : Option Addr) (n cap : Nat) (l : List Int) (h : LO 88 W p S v1 v2 v3) (hl : S.known.length + l.length ≤ 1000000) (ho : S.opn.length ≤ 1000000) (hn : n = l.length) (hr : Reads W A (ints l)) (hA : 0 < l.length → ∀ a, A = some a → ¬ foot p v1 v2 v3 a.block) :
    Calls Try.prog 38 #[.pointer (some ⟨p, 0, none⟩), .int .i64 peer, .slice A n cap] W (LPost 88 W p v1 v2 v3 (S.heard peer l) (.tuple #[])) := by
  obtain ⟨ad3, cap3, e3⟩ := slice_of_own h.o3
  have c23 := h.c23
  rw [e3] at c23
  have o3 := h.o3
  rw [e3] at o3
  have HC := contains_any W ad3 S.opn.length cap3 S.opn peer rfl (by omega) (Reads.of_own o3)
  have HH := Lib.hid h
  have HR := Lib.hid hr
  have HA := Lib.hid hA
  have hlt := h.lt
  have HN := Lib.hid hn
  clear h e3 o3 hr hA hn
  unfold LS.heard
  rcases Bool.eq_false_or_eq_true (S.opn.contains peer) with hq | hq
  · rw [hq] at HC ⊢
    rw [if_pos rfl]
    have HC := Lib.hid HC
    clear hq
    go_enter Try.func38, Try.ntmps38
    go_wp2_with fail
    refine HC.out.mono ?_
    rintro e w1 ⟨rfl, hb⟩
    have HB := Lib.hid hb
    have HL := Lib.hid (lost_any w1 p S v1 v2 v3 peer (HH.out.below hb) ho)
    clear hb
    go_wp2_with fail
    refine HL.out.mono ?_
    rintro e w2 ⟨rfl, u1, u2, u3, hO, hS⟩
    have hst := (LStep.below (p := p) (v1 := v1) (v2 := v2) (v3 := v3) HB.out).trans hS
    have hk := know_any w2 p (S.lost peer) u1 u2 u3 A n cap l hO hl HN.out (by
      intro j u hj
      have hl0 : 0 < l.length := by
        have := (List.getElem?_eq_some_iff.1 hj).1
        rw [ints_length] at this
        omega
      exact HR.out.keep hst.T (HA.out hl0) j u hj) (fun h0 a ha e => by
      rcases hst.grow _ e with h1 | h1
      · exact HA.out h0 a ha h1
      · obtain ⟨b, off, h2, h3, _⟩ := reads_int HR.out 0 h0
        rw [ha] at h2
        injection h2 with h2
        rw [h2] at h1
        dsimp only at h1
        omega)
    have HK := Lib.hid hk
    have HST := Lib.hid hst
    clear hO hS hst hk
    go_wp2_with fail
    refine HK.out.mono ?_
    rintro e w3 ⟨rfl, u, hO, hS⟩
    have HO := Lib.hid hO
    have HS := Lib.hid (HST.out.trans hS)
    clear hO hS
    go_wp2
    go_end0
    exact ⟨rfl, u, u2, u3, HO.out, HS.out⟩
  · rw [hq] at HC ⊢
    rw [if_neg (by simp)]
    have HC := Lib.hid HC
    clear hq
    go_enter Try.func38, Try.ntmps38
    go_wp2_with fail
    refine HC.out.mono ?_
    rintro e w1 ⟨rfl, hb⟩
    have HB := Lib.hid hb
    clear hb
    go_wp2
    go_end0
    exact ⟨rfl, v1, v2, v3, HH.out.below HB.out, LStep.below HB.out⟩
set_option maxHeartbeats 2000000 in
theorem done_any (W : World) (p : Nat) (S : LS) (v1 v2 v3 : Value) (h : LO 88 W p S v1 v2 v3) (hl : S.known.length ≤ 1000000) (hl2 : S.asked.length ≤ 1000000) :
    Calls Try.prog 42 #[.pointer (some ⟨p, 0, none⟩)] W fun e W' => e = .returned (.bool S.done) ∧ Below W.heap.size W W' := by
  obtain ⟨ad3, cap3, e3⟩ := slice_of_own h.o3
  have c23 := h.c23
  rw [e3] at c23
  have HL := Lib.hid (left_any W p S v1 v2 v3 h hl hl2)
  have hlt := h.lt
  clear h e3
  unfold LS.done
  generalize S.opn.length = m at *
  generalize S.left = L at *
  by_cases hm : m = 0
  · subst hm
    go_enter Try.func42, Try.ntmps42
    go_wp2_with fail
    refine HL.out.mono ?_
    rintro e w1 ⟨ad, cap, rfl, ho, hb⟩
    have HB := Lib.hid hb
    obtain ⟨q, hLq⟩ : ∃ q, L.length = q := ⟨_, rfl⟩
    have HLn := Lib.hid hLq
    rw [hLq]
    clear ho hb hLq
    by_cases hq : q = 0
    · have i1 : ((q : Int) == 0) = true := by simp [hq]
      have HQ := Lib.hid (show decide (L.length = 0) = true by simp [HLn.out, hq])
      clear hq
      go_wp2
      go_ret
      rw [HQ.out]
      exact ⟨by simp, HB.out⟩
    · have i1 : ((q : Int) == 0) = false := by simp; omega
      have HQ := Lib.hid (show decide (L.length = 0) = false by simp [HLn.out, hq])
      clear hq
      go_wp2
      go_ret
      rw [HQ.out]
      exact ⟨by simp, HB.out⟩
  · have i1 : ((m : Int) == 0) = false := by simp; omega
    have HQ := Lib.hid (show decide (m = 0) = false by simpa using hm)
    clear hm
    go_enter Try.func42, Try.ntmps42
    go_wp2
    go_ret
    rw [HQ.out]
    exact ⟨by simp, Below.refl _ _⟩
end Go.Proofs.Ytbkcopejclcfdaa

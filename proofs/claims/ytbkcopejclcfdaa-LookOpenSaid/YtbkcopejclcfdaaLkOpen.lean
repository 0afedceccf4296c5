/- LookOpen: the walk. -/
import Derived.Test.YtbkcopejclcfdaaLkAlive
import Derived.Test.YtbkcopejclcfdaaLkPlain
namespace Go.Proofs.Ytbkcopejclcfdaa
open Go.RowKit Go.Proofs.YtbkcopejclcfdaaW.PrintLast Go.Proofs.Ytbkcopejclcfdaa.Sum
set_option linter.unusedVariables false
set_option linter.unusedSimpArgs false
theorem exec_build3 {o : Oper} {a : Act} (w : World) (x y z : Int) (t1 t2 t3 : Operand) (ho : o.op = .buildSlice 27 3 #[(0, t1), (1, t2), (2, t3)]) (h1 : a.eval t1 = .int .i64 x) (h2 : a.eval t2 = .int .i64 y) (h3 : a.eval t3 = .int .i64 z) :
    (execOp a.eval o).run Try.prog w = .ok (.value (.slice (some ⟨w.heap.size, 0, none⟩) 3 3)) (w.alloc (.cells #[.int .i64 x, .int .i64 y, .int .i64 z] 3)) := by
  unfold execOp
  simp only [ho, Sem.run_bind, Sem.run_pure, List.map_toArray, List.map_cons, List.map_nil, h1, h2, h3]
  go_simp
theorem reads_arr {w : World} {l : List Int} : Reads (w.alloc (.cells (ints l).toArray 3)) (some ⟨w.heap.size, 0, none⟩) (ints l) := fun j u hj => by
  refine ⟨w.heap.size, 0, rfl, by simp, ?_⟩
  rw [Nat.zero_add, World.cell?_alloc_new, List.getElem?_toArray]
  exact hj
/-- Heard of numbers that were just built -/
theorem heard_new {w : World} {p : Nat} {S : LS} {u1 u2 u3 : Value} (h : LO 88 w p S u1 u2 u3) (peer : Int) (l : List Int) (m : Nat) (hm : m = l.length) (hl : S.known.length + l.length ≤ 1000000) (ho : S.opn.length ≤ 1000000) :
    Calls Try.prog 38 #[.pointer (some ⟨p, 0, none⟩), .int .i64 peer, .slice (some ⟨w.heap.size, 0, none⟩) m m] (w.alloc (.cells (ints l).toArray 3)) (fun e w' => e = .returned (.tuple #[]) ∧ ∃ t1 t2 t3, LO 88 w' p (S.heard peer l) t1 t2 t3 ∧ LStep w p u1 u2 u3 w' t1 t2 t3) := by
  have hb : Below w.heap.size w (w.alloc (.cells (ints l).toArray 3)) := (Below.refl _ _).alloc (Nat.le_refl _) _
  refine (heard_any (w.alloc (.cells (ints l).toArray 3)) p S u1 u2 u3 peer (some ⟨w.heap.size, 0, none⟩) m m l (h.below hb) hl ho hm reads_arr (fun _ a ha e => ?_)).mono ?_
  · injection ha with ha
    subst ha
    have := h.foot_lt _ e
    dsimp only at this
    omega
  · rintro e w' ⟨he, t1, t2, t3, hO, hS⟩
    exact ⟨he, t1, t2, t3, hO, (LStep.below hb).trans hS⟩
structure L2 (B : Nat) (W wr : World) (p : Nat) (k : List Int) (m j : Nat) (A : List Int) (v u1 u2 u3 : Value) : Prop where
  lw : LW 88 B W wr p ⟨k, 0, oneTo m, A, A⟩ u1 u2 u3
  ok : (⟨k, 0, oneTo m, A, A⟩ : LS).Ok
  len : A.length = j
  own : wr.ownsRow B 3 1 v j (ints A)
  ne : ∀ b, v.ownBlock = some b → ¬ foot p u1 u2 u3 b
  size : B ≤ wr.heap.size
section
variable {B : Nat} {W wr w1 w2 w3 : World} {p : Nat} {k : List Int} {m j : Nat} {A : List Int} {v v' u1 u2 u3 t1 t2 t3 : Value}
theorem L2.left (h : L2 B W wr p k m j A v u1 u2 u3) (hj : j < m) : (⟨k, 0, oneTo m, A, A⟩ : LS).left.length ≠ 0 := by
  have e := h.ok.left_len
  have e2 : (⟨k, 0, oneTo m, A, A⟩ : LS).known.length = m := oneTo_length m
  have e3 : (⟨k, 0, oneTo m, A, A⟩ : LS).asked.length = j := h.len
  omega
theorem L2.next (h : L2 B W wr p k m j A v u1 u2 u3) (hj : j < m) (st : LStep wr p u1 u2 u3 w1 t1 t2 t3) (hO : LO 88 w1 p (⟨k, 0, oneTo m, A, A⟩ : LS).next t1 t2 t3) :
    LO 88 w1 p ⟨k, 0, oneTo m, A ++ [(⟨k, 0, oneTo m, A, A⟩ : LS).nextV], A ++ [(⟨k, 0, oneTo m, A, A⟩ : LS).nextV]⟩ t1 t2 t3 := by
  rw [LS.next_eq _ (h.left hj)] at hO
  exact hO
theorem L2.row (h : L2 B W wr p k m j A v u1 u2 u3) (st : LStep wr p u1 u2 u3 w1 t1 t2 t3) (hb : Below w1.heap.size w1 w2) (o : Obj) : (w2.alloc o).ownsRow B 3 1 v j (ints A) :=
  (((Turns.of_below hb (fun _ => False)).own (st.T.own h.own (fun k hk e => h.ne k hk e)) (fun _ _ h => h))).alloc o
theorem L2.step (h : L2 B W wr p k m j A v u1 u2 u3) (hj : j < m) (st : LStep wr p u1 u2 u3 w1 t1 t2 t3) (hO : LO 88 w1 p (⟨k, 0, oneTo m, A, A⟩ : LS).next t1 t2 t3) (hb : Below w1.heap.size w1 w2) {o : Obj}
    (ow : w3.ownsRow B 3 1 v' (j + 1) (ints A ++ [.int .i64 (⟨k, 0, oneTo m, A, A⟩ : LS).nextV])) (T : Turns (fun b => v.ownBlock = some b) (w2.alloc o) w3) (F : Fresh (w2.alloc o) v v') :
    L2 B W w3 p k m (j + 1) (A ++ [(⟨k, 0, oneTo m, A, A⟩ : LS).nextV]) v' t1 t2 t3 := by
  have hO2 := h.next hj st hO
  have hb2 : Below w1.heap.size w1 (w2.alloc o) := hb.alloc hb.size o
  have nf : ∀ b, foot p t1 t2 t3 b → ¬ v.ownBlock = some b := fun b hb e => by
    rcases st.grow b hb with h1 | h1
    · exact h.ne b e h1
    · have := (h.own.lt b e).2; omega
  have hO3 := (hO2.below hb2).keep T nf
  have l1 := h.lw.step h.size hO2 st
  have s1 : B ≤ w1.heap.size := Nat.le_trans h.size st.T.size
  have hok := h.ok.next
  rw [LS.next_eq _ (h.left hj)] at hok
  refine ⟨⟨hO3, l1.ge, (l1.bel.trans (hb2.mono s1)).trans (T.below (Nat.le_trans s1 hb2.size) (fun b hb e => by have := (h.own.lt b e).1; omega))⟩, hok, by rw [List.length_append, h.len]; rfl, by rw [ints_append]; exact ow, fun b hb e => ?_, Nat.le_trans s1 (Nat.le_trans hb2.size T.size)⟩
  rcases F with F | ⟨q, F, hq⟩
  · rw [F] at hb; exact nf b e hb
  · rw [F] at hb
    injection hb with hb
    have := (hO2.below hb2).foot_lt b e
    omega
end
structure L3 (B : Nat) (W wr : World) (p : Nat) (k : List Int) (m j : Nat) (A : List Int) (v u1 u2 u3 : Value) : Prop where
  lw : LW 88 B W wr p ⟨k, 0, oneTo m, A, A.drop j⟩ u1 u2 u3
  own : wr.ownsRow B 3 1 v m (ints A)
  ne : ∀ b, v.ownBlock = some b → ¬ foot p u1 u2 u3 b
  size : B ≤ wr.heap.size
section
variable {B : Nat} {W wr w1 w2 w3 : World} {p : Nat} {k : List Int} {m j : Nat} {A : List Int} {v v' u1 u2 u3 t1 t2 t3 : Value}
theorem L3.below (h : L3 B W wr p k m j A v u1 u2 u3) (hb : Below wr.heap.size wr w1) : L3 B W w1 p k m j A v u1 u2 u3 :=
  ⟨h.lw.below h.size hb, (Turns.of_below hb (fun _ => False)).own h.own (fun _ _ h => h), h.ne, Nat.le_trans h.size hb.size⟩
theorem L3.step (h : L3 B W wr p k m j A v u1 u2 u3) {S : LS} (hO : LO 88 w1 p S t1 t2 t3) (st : LStep wr p u1 u2 u3 w1 t1 t2 t3) (e : S = ⟨k, 0, oneTo m, A, A.drop (j + 1)⟩) : L3 B W w1 p k m (j + 1) A v t1 t2 t3 := by
  subst e
  refine ⟨h.lw.step h.size hO st, st.T.own h.own (fun k hk e => h.ne k hk e), fun b hb e => ?_, Nat.le_trans h.size st.T.size⟩
  rcases st.grow b e with h1 | h1
  · exact h.ne b hb h1
  · have := (h.own.lt b hb).2; omega
end
set_option maxHeartbeats 8000000 in
set_option maxRecDepth 20000 in
theorem lookOpen_any (W : World) (k : List Int) (hk : Key20 k) (n early : Int) : Calls Try.prog 11 #[.agg (kv k), .int .i64 n, .int .i64 early] W fun e W' => e = .returned (.bool true) ∧ Below W.heap.size W W' := by
  obtain ⟨W1, hW1⟩ : ∃ W1, W.alloc (.cells (kv k) 23) = W1 := ⟨_, rfl⟩
  have hb1 : Below W.heap.size W W1 := by rw [← hW1]; exact (Below.refl _ _).alloc (Nat.le_refl _) _
  have hg1 : W1.heap[W.heap.size]? = some (.cells (kv k) 23 (0, 0)) := by rw [← hW1, heap_alloc_new]
  have hgl := lt_of_block hg1
  have HB1 := Lib.hid hb1
  have HG := Lib.hid (fun (w : World) (h : Below W1.heap.size W1 w) => ((h.block W.heap.size hgl).trans hg1 : w.heap[W.heap.size]? = some (.cells (kv k) 23 (0, 0))))
  have HK := Lib.hid hk
  have hi : (Try.prog.info? 23).map (·.size) = some (kv k).size := by rw [kv_size, hk.len]; exact info23
  obtain ⟨i0, hi0, hz0, hz1, hz2⟩ := info_parts info3p
  clear hb1 hg1 hk
  by_cases c1 : n < 1
  · go_enter Try.func11, Try.ntmps11
    go_wp2_with fail
    refine (lalive_any W1).mono ?_
    rintro e w2 ⟨rfl, hb⟩
    have HB := Lib.hid (HB1.out.trans (hb.mono HB1.out.size))
    clear hb
    go_wp2
    go_ret
    exact ⟨rfl, HB.out⟩
  by_cases c2 : 20 < n
  · go_enter Try.func11, Try.ntmps11
    go_wp2_with fail
    refine (lalive_any W1).mono ?_
    rintro e w2 ⟨rfl, hb⟩
    have HB := Lib.hid (HB1.out.trans (hb.mono HB1.out.size))
    clear hb
    go_wp2
    go_ret
    exact ⟨rfl, HB.out⟩
  by_cases c3 : early < 0
  · go_enter Try.func11, Try.ntmps11
    go_wp2_with fail
    refine (lalive_any W1).mono ?_
    rintro e w2 ⟨rfl, hb⟩
    have HB := Lib.hid (HB1.out.trans (hb.mono HB1.out.size))
    clear hb
    go_wp2
    go_ret
    exact ⟨rfl, HB.out⟩
  obtain ⟨m, rfl⟩ : ∃ m : Nat, n = m := ⟨n.toNat, by omega⟩
  have hm0 : 0 < m := by omega
  have hm20 : m ≤ 20 := by omega
  have c0 : ((m : Int) == 0) = false := by simp; omega
  have c00 : ¬ (m : Int) = 0 := by omega
  go_enter Try.func11, Try.ntmps11
  go_wp2_with fail
  refine (lalive_any W1).mono ?_
  rintro e w2 ⟨rfl, hb⟩
  have HB := Lib.hid hb
  clear hb
  go_wp2
  go_loopw [8, 9] (fun v i wr => ∃ j : Nat, j ≤ m ∧ i = .int .i64 j ∧ wr.ownsRow W1.heap.size 3 1 v j (ints (oneTo j)) ∧ Below W1.heap.size W1 wr) (fun _ i _ => m - (intOf i).toNat)
  case atStart => exact ⟨0, Nat.zero_le _, rfl, World.ownsRow_nil _ _ _ _, HB.out⟩
  case round =>
    obtain ⟨j, hj, rfl, ho, hb⟩ := hrel
    obtain ⟨ad, cap, rfl⟩ := slice_of_own ho
    by_cases hjm : j < m
    · have i1 : (j : Int) < (m : Int) := by omega
      have ow := ho.alloc (.cells #[.int .i64 ((j : Int) + 1)] 3)
      have hB2 : W1.heap.size ≤ (wr.alloc (.cells #[.int .i64 ((j : Int) + 1)] 3)).heap.size := by have := hb.size; simp; omega
      have HBR := Lib.hid (hb.alloc hb.size (.cells #[.int .i64 ((j : Int) + 1)] 3))
      clear ho hb
      go_wp2_with (at_builtin; refine wpList_row_append _ rfl (.tmp 39) (.tmp 42) 27 rfl W1.heap.size hB2 3 i0 _ 1 8 Try.underlying27 hi0 hz0 hz1 hz2 rfl (by decide) _ _ _ rfl ow ⟨wr.heap.size, 0, none⟩ 1 1 [.int .i64 ((j : Int) + 1)] rfl rfl own_at (one_cell _) (by omega) (by decide) ?_)
      intro v' w' ow' hg' hf'
      have hbb := HBR.out.trans (hg'.below hB2 (fun b hb e => by have := (ow.lt b e).1; omega))
      have e1 : ints (oneTo j) ++ [Value.int .i64 ((j : Int) + 1)] = ints (oneTo (j + 1)) := by rw [oneTo_succ, ints_append]; rfl
      rw [e1] at ow'
      have HO := Lib.hid ow'
      have HBB := Lib.hid hbb
      clear ow' hg' hf' hbb e1 ow hB2
      go_wp2
      exact ⟨⟨j + 1, by omega, by go_num, HO.out, HBB.out⟩, by simp [intOf]; omega⟩
    · have hjm2 : j = m := by omega
      subst hjm2
      have hbox := HG.out wr hb
      have hn := new88_any wr k HK.out 0 ad j cap (oneTo j) (by rw [oneTo_length]; omega) (by rw [oneTo_length]) (Reads.of_own ho)
      rw [know_oneTo] at hn
      have HN := Lib.hid hn
      have HBw := Lib.hid hb
      clear hn ho hb
      go_wp2_with (refine wpList_load_row rfl 23 (.tmp 3) rfl W.heap.size rfl 23 (kv k) (0, 0) _ hbox Try.underlying23 rfl hi ?_)
      refine HN.out.mono ?_
      rintro e w3 ⟨p, u1, u2, u3, rfl, hp, hO, hge, hb⟩
      have hlw : LW 88 W1.heap.size W1 w3 p ⟨k, 0, oneTo j, [], []⟩ u1 u2 u3 := ⟨hO, fun b h => Nat.le_trans HBw.out.size (hge b h), HBw.out.trans (hb.mono HBw.out.size)⟩
      have HLW := Lib.hid hlw
      have HH1 := Lib.hid (fun peer => heard_new hO peer [99] 1 rfl (by show (oneTo j).length + 1 ≤ 1000000; rw [oneTo_length]; omega) (by show (0 : Nat) ≤ 1000000; omega))
      have HSZ := Lib.hid (Nat.le_trans HBw.out.size hb.size)
      clear hO hge hb hlw hbox
      go_wp2_with fail
      refine (HH1.out _).mono ?_
      rintro e w4 ⟨rfl, t1, t2, t3, hO, hS⟩
      rw [heard_none _ rfl] at hO
      have hlw := HLW.out.step HSZ.out hO hS
      have HLW2 := Lib.hid hlw
      have HSZ2 := Lib.hid (Nat.le_trans HSZ.out hS.T.size)
      have HH2 := Lib.hid (heard_new hO 500 [98] 1 rfl (by show (oneTo j).length + 1 ≤ 1000000; rw [oneTo_length]; omega) (by show (0 : Nat) ≤ 1000000; omega))
      clear hO hS hlw
      go_wp2_with fail
      refine HH2.out.mono ?_
      rintro e w5 ⟨rfl, r1, r2, r3, hO, hS⟩
      rw [heard_none _ rfl] at hO
      have HLW3 := Lib.hid (HLW2.out.step HSZ2.out hO hS)
      have HSZ3 := Lib.hid (Nat.le_trans HSZ2.out hS.T.size)
      clear hO hS
      go_wp2
      go_loopw [11, 12] (fun v i wr => ∃ q : Nat, q ≤ j ∧ i = .int .i64 q ∧ ∃ A u1 u2 u3, L2 W1.heap.size W1 wr p k j q A v u1 u2 u3) (fun _ i _ => j - (intOf i).toNat)
      case atStart =>
        refine ⟨0, Nat.zero_le _, rfl, [], r1, r2, r3, HLW3.out, ⟨oneTo_nodup j, by simp, fun x h => by simp at h, fun x hx => ?_⟩, rfl, World.ownsRow_nil _ _ _ _, (fun b h => by cases h), HSZ3.out⟩
        have hx2 : x ∈ oneTo j := hx
        unfold oneTo at hx2
        obtain ⟨i, _, rfl⟩ := List.mem_map.1 hx2
        omega
      case round =>
        obtain ⟨q, hq, rfl, A, u1, u2, u3, hL⟩ := hrel
        obtain ⟨ad, cap, rfl⟩ := slice_of_own hL.own
        have hlA : A.length ≤ 20 := by rw [hL.len]; omega
        by_cases hqj : q < j
        · have i1 : (q : Int) < (j : Int) := by omega
          have hN := next_any wr p _ _ _ _ hL.lw.lo (by show (oneTo j).length ≤ 1000000; rw [oneTo_length]; omega) (by show A.length ≤ 1000000; omega) (by show A.length ≤ 1000000; omega)
          have hB : (⟨k, 0, oneTo j, A, A⟩ : LS).nextB = true := by unfold LS.nextB; simp [hL.left hqj]
          rw [hB] at hN
          obtain ⟨x, hx⟩ : ∃ x, (⟨k, 0, oneTo j, A, A⟩ : LS).nextV = x := ⟨_, rfl⟩
          rw [hx] at hN
          have HNX := Lib.hid hN
          have HL := Lib.hid hL
          have HX := Lib.hid hx
          clear hN hB hL hx
          go_wp2_with fail
          refine HNX.out.mono ?_
          rintro e w6 ⟨rfl, t1, t2, t3, hO, hS⟩
          have hO2 := HL.out.next hqj hS hO
          rw [HX.out] at hO2
          have hD := done_any w6 p _ _ _ _ hO2 (by show (oneTo j).length ≤ 1000000; rw [oneTo_length]; omega) (by show (A ++ [x]).length ≤ 1000000; simp; omega)
          have hdf : (⟨k, 0, oneTo j, A ++ [x], A ++ [x]⟩ : LS).done = false := by unfold LS.done; simp
          rw [hdf] at hD
          have HD := Lib.hid hD
          have HO := Lib.hid hO
          have HS := Lib.hid hS
          clear hO2 hD hdf hO hS
          go_wp2_with fail
          refine HD.out.mono ?_
          rintro e w7 ⟨rfl, hb7⟩
          have ow := HL.out.row HS.out hb7 (.cells #[.int .i64 x] 3)
          have hB2 : W1.heap.size ≤ (w7.alloc (.cells #[.int .i64 x] 3)).heap.size := by have := HL.out.size; have := HS.out.T.size; have := hb7.size; simp; omega
          have HST := Lib.hid (fun (w8 : World) v' h1 h2 h3 => HL.out.step (w3 := w8) (v' := v') (o := .cells #[.int .i64 x] 3) hqj HS.out HO.out hb7 h1 h2 h3)
          rw [HX.out] at HST
          clear hb7
          go_wp2_with (at_builtin; refine wpList_row_append _ rfl (.tmp 75) (.tmp 77) 27 rfl W1.heap.size hB2 3 i0 _ 1 8 Try.underlying27 hi0 hz0 hz1 hz2 rfl (by decide) _ _ _ rfl ow ⟨w7.heap.size, 0, none⟩ 1 1 [.int .i64 x] rfl rfl own_at (one_cell _) (by omega) (by decide) ?_)
          intro v' w' ow' hg' hf'
          have HF := Lib.hid (HST.out w' v' ow' hg' hf')
          clear ow' hg' hf' ow hB2
          go_wp2
          exact ⟨⟨q + 1, by omega, by go_num, _, _, _, _, HF.out⟩, by simp [intOf]; omega⟩
        · have hqj2 : q = j := by omega
          subst hqj2
          have hlen := hL.len
          have hle := hL.ok.left_len
          have e2 : (⟨k, 0, oneTo q, A, A⟩ : LS).known.length = q := oneTo_length q
          have e3 : (⟨k, 0, oneTo q, A, A⟩ : LS).asked.length = q := hL.len
          have hl0 : (⟨k, 0, oneTo q, A, A⟩ : LS).left.length = 0 := by omega
          have hN := next_any wr p _ _ _ _ hL.lw.lo (by show (oneTo q).length ≤ 1000000; rw [oneTo_length]; omega) (by show A.length ≤ 1000000; omega) (by show A.length ≤ 1000000; omega)
          rw [show (⟨k, 0, oneTo q, A, A⟩ : LS).nextB = false by unfold LS.nextB; rw [hl0]; rfl, show (⟨k, 0, oneTo q, A, A⟩ : LS).nextV = 0 by unfold LS.nextV; rw [if_pos hl0], show (⟨k, 0, oneTo q, A, A⟩ : LS).next = ⟨k, 0, oneTo q, A, A⟩ by unfold LS.next; rw [if_pos hl0]] at hN
          have HNX := Lib.hid hN
          have HAn := Lib.hid hL.ok.an
          have HAs := Lib.hid hL.ok.sub
          obtain ⟨g, rfl, _⟩ := own_some hL.own (fun e => by injection e with _ e2 _; omega)
          have HLEN := Lib.hid hlen
          have HL0 := Lib.hid (show (⟨k, 0, oneTo q, A, A.drop q⟩ : LS).done = true by unfold LS.done; rw [show (⟨k, 0, oneTo q, A, A.drop q⟩ : LS).left.length = 0 from hl0]; simp [hlen])
          have HL := Lib.hid hL
          clear hN hL hle e2 e3 hl0 hlen
          go_wp2_with fail
          refine HNX.out.mono ?_
          rintro e w6 ⟨rfl, t1, t2, t3, hO, hS⟩
          have h3 : L3 W1.heap.size W1 w6 p k q 0 A (.slice (some ⟨g, 0, none⟩) q cap) t1 t2 t3 := ⟨HL.out.lw.step HL.out.size hO hS, hS.T.own HL.out.own (fun k hk e => HL.out.ne k hk e), fun b hb e => by
            rcases hS.grow b e with h1 | h1
            · exact HL.out.ne b hb h1
            · have := (HL.out.own.lt b hb).2; omega, Nat.le_trans HL.out.size hS.T.size⟩
          have H3 := Lib.hid h3
          clear h3 hO hS
          go_wp2
          go_loopw [17] (fun i wr => ∃ j : Nat, j ≤ q ∧ i = .int .i64 j ∧ ∃ u1 u2 u3, L3 W1.heap.size W1 wr p k q j A (.slice (some ⟨g, 0, none⟩) q cap) u1 u2 u3) (fun i _ => q - (intOf i).toNat)
          case atStart => exact ⟨0, Nat.zero_le _, rfl, t1, t2, t3, H3.out⟩
          case round =>
            obtain ⟨j, hj, rfl, u1, u2, u3, hL⟩ := hrel
            by_cases hjq : j < q
            · have i1 : (j : Int) < (q : Int) := by omega
              have hjA : j < A.length := by rw [HLEN.out]; exact hjq
              have hD := done_any wr p _ _ _ _ hL.lw.lo (by show (oneTo q).length ≤ 1000000; rw [oneTo_length]; omega) (by show A.length ≤ 1000000; omega)
              rw [show (⟨k, 0, oneTo q, A, A.drop j⟩ : LS).done = false by unfold LS.done; simp; intro e; omega] at hD
              have HD := Lib.hid hD
              have HL := Lib.hid hL
              clear hD hL
              go_wp2_with fail
              refine HD.out.mono ?_
              rintro e w2 ⟨rfl, hb⟩
              have hL2 := HL.out.below hb
              clear hb
              have HL2 := Lib.hid hL2
              have cj := row_get hL2.own (i := j) hjA
              have c0' := row_get hL2.own (i := 0) (by omega)
              obtain ⟨y, hy⟩ : ∃ y, A[0]'(by omega) = y := ⟨_, rfl⟩
              rw [hy] at c0'
              have HY := Lib.hid (show y ∈ A by rw [← hy]; exact List.getElem_mem _)
              have hLO := lost_any w2 p _ _ _ _ A[j] hL2.lw.lo (by show (A.drop j).length ≤ 1000000; rw [List.length_drop]; omega)
              have HLO := Lib.hid hLO
              have HL3' := Lib.hid (fun t1 t2 t3 (w3 : World) (hO : LO 88 w3 p ((⟨k, 0, oneTo q, A, A.drop j⟩ : LS).lost A[j]) t1 t2 t3) (hS : LStep w2 p u1 u2 u3 w3 t1 t2 t3) => HL2.out.step hO hS (lost_at k (oneTo q) A HAn.out j hjA))
              have hqc := own_le hL2.own
              have hL2' := hL2
              clear hL2 hLO hy
              go_wp2_with fail
              · have hHE := heard_new (hL2'.lw.lo.below (Below.drew (Below.refl _ _))) A[j] [0, -4, y] 3 rfl (by show (oneTo q).length + 3 ≤ 1000000; rw [oneTo_length]; omega) (by show (A.drop j).length ≤ 1000000; rw [List.length_drop]; omega)
                have HHE := Lib.hid (show Calls Try.prog 38 #[.pointer (some ⟨p, 0, none⟩), .int .i64 A[j], .slice (some ⟨w2.drew.heap.size, 0, none⟩) 3 3] (w2.drew.alloc (.cells #[.int .i64 0, .int .i64 (-4), .int .i64 y] 3)) _ from hHE)
                have HL3 := Lib.hid (fun t1 t2 t3 (w3 : World) (hO : LO 88 w3 p ((⟨k, 0, oneTo q, A, A.drop j⟩ : LS).heard A[j] [0, -4, y]) t1 t2 t3) (hS : LStep w2.drew p u1 u2 u3 w3 t1 t2 t3) => HL2.out.step hO ((LStep.below (Below.drew (Below.refl _ _))).trans hS) (heard_at k (oneTo q) A HAn.out HAs.out j hjA y HY.out))
                have hS0 : w2.drew.cell? ⟨g, j, none⟩ = some (.int .i64 A[j]) ∧ w2.drew.cell? ⟨g, 0, none⟩ = some (.int .i64 y) := ⟨cj, c0'⟩
                have i2 : (0 : Int) < (q : Int) := by omega
                clear hHE cj c0' hL2' HLO HL3' HL HL2 HD
                refine start_ (n := 10) (S := fun w' => w'.cell? ⟨g, j, none⟩ = some (.int .i64 A[j]) ∧ w'.cell? ⟨g, 0, none⟩ = some (.int .i64 y)) (ds := [9]) #[false, false, false, false, false, false, false, false, false, false] (by kernel_rfl) rfl rfl (hS0) (fun hHeld => ?_)
                generalize w2.drew = W9 at *
                refine pure_ (i := 0) (N := some 95) (v := ?_) (a' := ?_) #[true, false, false, false, false, false, false, false, false, false] rfl rfl (by kernel_rfl) (fun _ _ _ h => h) (Or.inl ⟨by rfl, ?_⟩) ?_ ?_
                rotate_left
                · intro w'
                  go_simp
                  with_reducible rfl
                rotate_left
                · simp only [Act.put, List.setIfInBounds_toArray, List.set_cons_zero, List.set_cons_succ]
                  rfl
                refine pure_ (i := 1) (N := some 96) (v := ?_) (a' := ?_) #[true, true, false, false, false, false, false, false, false, false] rfl rfl (by kernel_rfl) (fun _ _ _ h => h) (Or.inl ⟨by rfl, ?_⟩) ?_ ?_
                rotate_left
                · intro w'
                  go_simp
                  with_reducible rfl
                rotate_left
                · simp only [Act.put, List.setIfInBounds_toArray, List.set_cons_zero, List.set_cons_succ]
                  rfl
                refine pure_ (i := 2) (N := some 97) (v := ?_) (a' := ?_) #[true, true, true, false, false, false, false, false, false, false] rfl rfl (by kernel_rfl) (fun _ _ _ h => h) (Or.inl ⟨by rfl, ?_⟩) ?_ ?_
                rotate_left
                · intro w'
                  go_simp
                  with_reducible rfl
                rotate_left
                · simp only [Act.put, List.setIfInBounds_toArray, List.set_cons_zero, List.set_cons_succ]
                  rfl
                refine pure_ (i := 3) (N := some 98) (v := ?_) (a' := ?_) #[true, true, true, true, false, false, false, false, false, false] rfl rfl (by kernel_rfl) (fun _ _ _ h => h) (Or.inl ⟨by rfl, ?_⟩) ?_ ?_
                rotate_left
                · intro w'
                  go_simp
                  with_reducible rfl
                rotate_left
                · simp only [Act.put, List.setIfInBounds_toArray, List.set_cons_zero, List.set_cons_succ]
                  rfl
                refine take_ (i := 4) (N := some 99) (v := ?_) (a' := ?_) #[true, true, true, true, true, false, false, false, false, false] rfl rfl (by kernel_rfl) (fun _ _ _ h => h) (Or.inl ⟨by rfl, ?_⟩) hHeld ?_ ?_
                rotate_left
                · intro w' hSw
                  obtain ⟨h1, h2⟩ := hSw
                  go_simp
                  with_reducible rfl
                rotate_left
                · simp only [Act.put, List.setIfInBounds_toArray, List.set_cons_zero, List.set_cons_succ]
                  rfl
                refine pure_ (i := 5) (N := some 100) (v := ?_) (a' := ?_) #[true, true, true, true, true, true, false, false, false, false] rfl rfl (by kernel_rfl) (fun _ _ _ h => h) (Or.inl ⟨by rfl, ?_⟩) ?_ ?_
                rotate_left
                · intro w'
                  go_simp
                  with_reducible rfl
                rotate_left
                · simp only [Act.put, List.setIfInBounds_toArray, List.set_cons_zero, List.set_cons_succ]
                  rfl
                refine pure_ (i := 6) (N := some 101) (v := ?_) (a' := ?_) #[true, true, true, true, true, true, true, false, false, false] rfl rfl (by kernel_rfl) (fun _ _ _ h => h) (Or.inl ⟨by rfl, ?_⟩) ?_ ?_
                rotate_left
                · intro w'
                  go_simp
                  with_reducible rfl
                rotate_left
                · simp only [Act.put, List.setIfInBounds_toArray, List.set_cons_zero, List.set_cons_succ]
                  rfl
                refine take_ (i := 7) (N := some 102) (v := ?_) (a' := ?_) #[true, true, true, true, true, true, true, true, false, false] rfl rfl (by kernel_rfl) (fun _ _ _ h => h) (Or.inl ⟨by rfl, ?_⟩) hHeld ?_ ?_
                rotate_left
                · intro w' hSw
                  obtain ⟨h1, h2⟩ := hSw
                  go_simp
                  with_reducible rfl
                rotate_left
                · simp only [Act.put, List.setIfInBounds_toArray, List.set_cons_zero, List.set_cons_succ]
                  rfl
                refine one_ (i := 8) (N := some 103) #[true, true, true, true, true, true, true, true, true, false] rfl rfl (by kernel_rfl) (by decide) (fun K hK => ?_)
                refine value_ (by rfl) rfl (exec_build3 _ 0 (-4) y (.const (.int .i64 0)) (.const (.int .i64 (-4))) (.tmp 102) rfl rfl rfl rfl) ?_
                refine hK.out _ _ ⟨by rw [World.cell?_alloc_some _ _ _ (by rw [hHeld.1]; rfl)]; exact hHeld.1, by rw [World.cell?_alloc_some _ _ _ (by rw [hHeld.2]; rfl)]; exact hHeld.2⟩ (fun hHeld => ?_)
                clear hK K
                refine norm_ (a' := ?_) ?_ ?_
                rotate_left
                · (try unfold Act.put); (try simp only [putAll, Act.put, List.setIfInBounds_toArray, List.set_cons_zero, List.set_cons_succ])
                  rfl
                refine last_ (i := 9) (N := some 104) #[true, true, true, true, true, true, true, true, true, true] rfl rfl (by kernel_rfl) (by decide) (fun K hK => ?_)
                refine goes_ Try.func38 (by kernel_rfl) rfl #[.pointer (some ⟨p, 0, none⟩), .int .i64 A[j], .slice (some ⟨W9.heap.size, 0, none⟩) 3 3] (by rfl) rfl rfl (by (try simp only [List.map_toArray, List.map_cons, List.map_nil]); first | done | rfl) ?_
                refine HHE.out.mono ?_
                rintro e w3 ⟨rfl, t1, t2, t3, hO3, hS3⟩
                refine ⟨_, rfl, ?_⟩
                have HL4 := Lib.hid (HL3.out t1 t2 t3 w3 hO3 hS3)
                clear hO3 hS3
                refine hK.out _ _ ?_
                clear hK K
                refine norm_ (a' := ?_) ?_ ?_
                rotate_left
                · (try unfold Act.put); (try simp only [putAll, Act.put, List.setIfInBounds_toArray, List.set_cons_zero, List.set_cons_succ])
                  rfl
                refine done_ (by kernel_rfl) ?_
                go_wp2
                go_roundw
                case rel => exact ⟨j + 1, by omega, by go_num, _, _, _, HL4.out⟩
                case measure => simp [intOf]; omega
              · refine HLO.out.mono ?_
                rintro e w3 ⟨rfl, t1, t2, t3, hO, hS⟩
                have HL4 := Lib.hid (HL3'.out t1 t2 t3 w3 hO hS)
                clear hO hS hL2'
                go_wp2
                go_roundw
                case rel => exact ⟨j + 1, by omega, by go_num, _, _, _, HL4.out⟩
                case measure => simp [intOf]; omega
            · have hjq2 : j = q := by omega
              subst hjq2
              have hD := done_any wr p _ _ _ _ hL.lw.lo (by show (oneTo j).length ≤ 1000000; rw [oneTo_length]; omega) (by show A.length ≤ 1000000; omega)
              rw [HL0.out] at hD
              have HD := Lib.hid hD
              have HL := Lib.hid hL
              clear hD hL
              go_wp2_with fail
              refine HD.out.mono ?_
              rintro e w2 ⟨rfl, hb⟩
              have hL2 := HL.out.below hb
              have hA := asked_any w2 p _ _ _ _ hL2.lw.lo (by show A.length ≤ 1000000; omega)
              have HA := Lib.hid hA
              have HL2 := Lib.hid hL2
              clear hb hL2 hA
              go_wp2_with fail
              refine HA.out.mono ?_
              rintro e w3 ⟨ad, cp, rfl, ho, hb⟩
              have hL3 := HL2.out.below hb
              have hs := sameInts_any w3 ad (some ⟨g, 0, none⟩) A.length j cp cap A A rfl HLEN.out.symm (by omega) (Reads.of_own ho) (Reads.of_own hL3.own)
              rw [show decide (A = A) = true by simp] at hs
              have HS := Lib.hid hs
              have HL3 := Lib.hid hL3
              clear ho hb hs hL3
              go_wp2_with fail
              refine HS.out.mono ?_
              rintro e w4 ⟨rfl, hb⟩
              have HBF := Lib.hid (HL3.out.lw.bel.trans (hb.mono HL3.out.size))
              clear hb
              go_wp2
              go_ret
              exact ⟨rfl, HB1.out.trans (HBF.out.mono HB1.out.size)⟩
end Go.Proofs.Ytbkcopejclcfdaa

/- DeleteFunc, with each of its closures. -/
import Derived.Test.YtbkcopejclcfdaaLkFn
namespace Go.Proofs.Ytbkcopejclcfdaa
open Go.RowKit Go.Proofs.YtbkcopejclcfdaaW.PrintLast Go.Proofs.Ytbkcopejclcfdaa.Sum
set_option linter.unusedVariables false
set_option linter.unusedSimpArgs false
/-- those that stay -/
def keepL (q : Int → Bool) (l : List Int) : List Int := l.filter (fun x => !q x)
theorem keepL_all {q : Int → Bool} {l : List Int} (h : ∀ c ∈ l, q c = false) : keepL q l = l := List.filter_eq_self.2 (fun c hc => by simp [h c hc])
theorem keepL_succ (q : Int → Bool) (l : List Int) (j : Nat) (hj : j < l.length) : keepL q (l.take (j + 1)) = keepL q (l.take j) ++ (if q l[j] then [] else [l[j]]) := by
  unfold keepL
  rw [List.take_succ_eq_append_getElem hj, List.filter_append]
  cases h : q l[j] <;> simp [h]
theorem keepL_le (q : Int → Bool) (l : List Int) (j : Nat) : (keepL q (l.take j)).length ≤ j := by
  unfold keepL
  have h1 := List.length_filter_le (fun x => !q x) (l.take j)
  rw [List.length_take] at h1
  omega
theorem idxI_cases (q : Int → Bool) (l : List Int) : (idxI q l = -1 ∧ ∀ c ∈ l, q c = false) ∨ ∃ k : Nat, idxI q l = k ∧ ∃ h : k < l.length, (∀ c ∈ l.take k, q c = false) ∧ q l[k] = true := by
  unfold idxI
  rcases h : l.findIdx? q with _ | k
  · exact .inl ⟨rfl, List.findIdx?_eq_none_iff.1 h⟩
  · obtain ⟨hi, hy, hn⟩ := List.findIdx?_eq_some_iff_getElem.1 h
    refine .inr ⟨k, rfl, hi, fun c hc => ?_, hy⟩
    rw [List.mem_take_iff_getElem] at hc
    obtain ⟨j, hj, rfl⟩ := hc
    simpa using hn j (by omega)
/-- the rounds of DeleteFunc -/
structure DL (W wr : World) (B g n cap : Nat) (l : List Int) (q : Int → Bool) (j : Nat) (c : List Int) : Prop where
  own : wr.ownsRow B 3 1 (.slice (some ⟨g, 0, none⟩) n cap) n (ints c)
  lt : (keepL q (l.take j)).length < j
  head : c.take (keepL q (l.take j)).length = keepL q (l.take j)
  tail : c.drop j = l.drop j
  T : Turns (fun k => k = g) W wr
theorem DL.get {W wr : World} {B g n cap : Nat} {l : List Int} {q : Int → Bool} {j : Nat} {c : List Int} (h : DL W wr B g n cap l q j c) (hn : n = l.length) (hj : j < n) : wr.cell? ⟨g, j, none⟩ = some (.int .i64 (l[j]'(by omega))) := by
  have hc : c.length = n := row_len h.own
  rw [row_get h.own (i := j) (by omega)]
  have e := congrArg (fun x : List Int => x[0]?) h.tail
  simp only [List.getElem?_drop, Nat.add_zero] at e
  rw [List.getElem?_eq_getElem (by omega), List.getElem?_eq_getElem (by omega)] at e
  injection e with e
  rw [e]
theorem DL.skip {W wr w1 : World} {B g n cap : Nat} {l : List Int} {q : Int → Bool} {j : Nat} {c : List Int} (h : DL W wr B g n cap l q j c) (hn : n = l.length) (hj : j < n) (hq : q (l[j]'(by omega)) = true) (hb : Below wr.heap.size wr w1) : DL W w1 B g n cap l q (j + 1) c := by
  have e := keepL_succ q l j (by omega)
  rw [hq, if_pos rfl, List.append_nil] at e
  have T1 := Turns.of_below hb (fun k => k = g)
  refine ⟨(Turns.of_below hb (fun _ => False)).own h.own (fun _ _ h => h), ?_, ?_, ?_, h.T.trans T1⟩
  · rw [e]; have := h.lt; omega
  · rw [e]; exact h.head
  · have := congrArg (List.drop 1) h.tail
    simpa [List.drop_drop] using this
theorem DL.put {W wr w1 : World} {B g n cap : Nat} {l : List Int} {q : Int → Bool} {j : Nat} {c : List Int} (h : DL W wr B g n cap l q j c) (hn : n = l.length) (hj : j < n) (hq : q (l[j]'(by omega)) = false) (hb : Below wr.heap.size wr w1) :
    DL W (w1.setCell ⟨g, (keepL q (l.take j)).length, none⟩ (.int .i64 (l[j]'(by omega)))) B g n cap l q (j + 1) (c.set (keepL q (l.take j)).length (l[j]'(by omega))) := by
  have e := keepL_succ q l j (by omega)
  rw [hq, if_neg (by simp)] at e
  have hlt := h.lt
  have hc : c.length = n := row_len h.own
  have T1 := Turns.of_below hb (fun k => k = g)
  refine ⟨row_set ((Turns.of_below hb (fun _ => False)).own h.own (fun _ _ h => h)) (by omega) _, ?_, ?_, ?_, (h.T.trans T1).setCell (.inr rfl) _⟩
  · rw [e, List.length_append]
    simp
    omega
  · rw [e, List.length_append, List.length_singleton, List.take_succ_eq_append_getElem (by rw [List.length_set]; omega)]
    rw [List.take_set_of_le (Nat.le_refl _), h.head, List.getElem_set_self]
  · rw [List.drop_set_of_lt (by omega)]
    have := congrArg (List.drop 1) h.tail
    simpa [List.drop_drop] using this
theorem wpList_clearI {ops : Array Oper} {rest : List Oper} {o : Oper} {a : Act} {w w' : World} {Q : Exit → Act → World → Prop} (hd : o.dst = none) (hgd : o.guard = none) (x : Operand)
    (ho : o.op = .call { callee := .builtin .clear, args := #[x], argTypes := #[27] }) (y v' : Value) (hr : (Builtin.clear_ #[27] 0 #[y]).run Try.prog w = .ok v' w') (hx : (a.eval x, o.type) = (y, 0)) (h : wpList Try.prog ops Q rest (a.put none v') w') : wpList Try.prog ops Q (o :: rest) a w := by
  injection hx with h1 h2
  refine wpList_exec w hgd (exec_clear w x 27 ho h1 (by rw [h2]; exact hr)) ?_
  rw [hd]
  exact h
set_option maxHeartbeats 4000000 in
theorem del69_any (W : World) (A : Option Addr) (n cap : Nat) (l : List Int) (q : Int → Bool) (b B : Nat) (hn : n = l.length) (hl : n ≤ 1000000000) (ho : W.ownsRow B 3 1 (.slice A n cap) n (ints l))
    (hclo : ∀ w', Turns (fun k => (Value.slice A n cap).ownBlock = some k) W w' → ∀ x : Int, Calls Try.prog 69 #[.int .i64 x, .pointer (some ⟨b, 0, none⟩)] w' fun e W' => e = .returned (.bool (q x)) ∧ Below w'.heap.size w' W') :
    Calls Try.prog 68 #[.slice A n cap, .func (.func 69) #[] #[.pointer (some ⟨b, 0, none⟩)]] W fun e W' => e = .returned (.slice A (keepL q l).length cap) ∧ W'.ownsRow B 3 1 (.slice A (keepL q l).length cap) (keepL q l).length (ints (keepL q l)) ∧ Turns (fun k => (Value.slice A n cap).ownBlock = some k) W W' := by
  have HI := idxf69_any W A n cap l q b hn hl (Reads.of_own ho) (fun w' h => hclo w' (Turns.of_below h _))
  rcases idxI_cases q l with ⟨e, hno⟩ | ⟨k0, e, hk0, hno, hyes⟩
  · rw [e] at HI
    have HI := Lib.hid HI
    have HK := Lib.hid (keepL_all hno)
    have HN := Lib.hid hn
    have HO := Lib.hid ho
    clear hn ho hclo e hno
    go_enter Try.func68, Try.ntmps68
    go_wp2_with fail
    refine HI.out.mono ?_
    rintro e w1 ⟨rfl, hb⟩
    have HB := Lib.hid hb
    clear hb
    go_wp2
    go_ret
    rw [HK.out, ← HN.out]
    exact ⟨rfl, (Turns.of_below HB.out (fun _ => False)).own HO.out (fun _ _ h => h), Turns.of_below HB.out _⟩
  · rw [e] at HI
    obtain ⟨g, rfl, _⟩ := own_some ho (fun e => by injection e with _ e2 _; omega)
    have hcap := own_le ho
    have HI := Lib.hid HI
    have hk1 : keepL q (l.take (k0 + 1)) = l.take k0 := by
      rw [keepL_succ q l k0 hk0, hyes, if_pos rfl, List.append_nil, keepL_all hno]
    have D0 := fun (w1 : World) (hb : Below W.heap.size W w1) => (⟨(Turns.of_below hb (fun _ => False)).own ho (fun _ _ h => h), by rw [hk1, List.length_take]; omega, by rw [hk1, List.length_take, Nat.min_eq_left (by omega)], rfl, Turns.of_below hb _⟩ : DL W w1 B g n cap l q (k0 + 1) l)
    have HD0 := Lib.hid D0
    have HK1 := Lib.hid (show (keepL q (l.take (k0 + 1))).length = k0 by rw [hk1, List.length_take]; omega)
    have HN := Lib.hid hn
    have HCL := Lib.hid (fun (w' : World) (T : Turns (fun k => k = g) W w') => hclo w' (T.mono (fun k _ h => by rw [h]; rfl)))
    have i0 : ((k0 : Int) == -1) = false := by first | (simp; done) | (simp; omega)
    have hk0n : k0 < n := by omega
    clear hn ho hclo e hno hyes hk1 D0
    go_enter Try.func68, Try.ntmps68
    go_wp2_with fail
    refine HI.out.mono ?_
    rintro e w1 ⟨rfl, hb⟩
    have HD := Lib.hid (HD0.out w1 hb)
    clear hb
    go_wp2
    go_loopw [5, 6] (fun m i wr => ∃ j : Nat, k0 + 1 ≤ j ∧ j ≤ n ∧ i = .int .i64 j ∧ m = .int .i64 ((keepL q (l.take j)).length : Nat) ∧ ∃ c, DL W wr B g n cap l q j c) (fun _ i _ => n - (intOf i).toNat)
    case atStart => exact ⟨k0 + 1, Nat.le_refl _, by omega, by go_num, by rw [HK1.out], l, HD.out⟩
    case round =>
      obtain ⟨j, hj1, hj, rfl, rfl, c, hD⟩ := hrel
      have HDc := Lib.hid hD
      have hlt := hD.lt
      have hfr := fun i => row_free (i := i) hD.own
      have hmc : ∀ i, i < n → ∃ z, wr.cell? ⟨g, i, none⟩ = some (.int .i64 z) := fun i hi => ⟨_, row_get hD.own (by rw [row_len hD.own]; exact hi)⟩
      clear hD
      by_cases hjn : j < n
      · have hjl : j < l.length := by rw [← HN.out]; exact hjn
        have hc := HDc.out.get HN.out hjn
        have HSK := Lib.hid (fun (w1 : World) h1 h2 => HDc.out.skip (w1 := w1) HN.out hjn h1 h2)
        have HPU := Lib.hid (fun (w1 : World) h1 h2 => HDc.out.put (w1 := w1) HN.out hjn h1 h2)
        have HKS := Lib.hid (keepL_succ q l j hjl)
        obtain ⟨x, hx⟩ : ∃ x, l[j] = x := ⟨_, rfl⟩
        rw [hx] at hc HSK HPU HKS
        have hgl := World.block_lt_of_cell? _ _ hc
        dsimp only at hgl
        have PL := Lib.hid (HCL.out wr HDc.out.T x)
        obtain ⟨m, hm⟩ : ∃ m, (keepL q (l.take j)).length = m := ⟨_, rfl⟩
        rw [hm] at hlt HPU ⊢
        have HM := Lib.hid hm
        have i1 : (j : Int) < (n : Int) := by omega
        have i2 : (m : Int) < (n : Int) := by omega
        obtain ⟨z, hz⟩ := hmc m (by omega)
        have hf := hfr m
        clear hx hm hfr hmc
        rcases Bool.eq_false_or_eq_true (q x) with hq | hq
        · rw [hq] at PL HKS
          have HS2 := Lib.hid (show (keepL q (l.take (j + 1))).length = m by rw [HKS.out]; simp [HM.out])
          have HD2 := Lib.hid (fun (w1 : World) => HSK.out w1 hq)
          clear hq
          go_wp2_with fail
          refine PL.out.mono ?_
          rintro e w1 ⟨rfl, hw1⟩
          have HD3 := Lib.hid (HD2.out w1 hw1)
          clear hw1
          go_wp2
          go_roundw
          case rel => exact ⟨j + 1, by omega, by omega, by go_num, by rw [HS2.out], c, HD3.out⟩
          case measure => simp [intOf]; omega
        · rw [hq] at PL HKS
          have HS2 := Lib.hid (show (keepL q (l.take (j + 1))).length = m + 1 by rw [HKS.out]; simp [HM.out])
          have HD2 := Lib.hid (fun (w1 : World) => HPU.out w1 hq)
          clear hq
          go_wp2_with fail
          refine PL.out.mono ?_
          rintro e w1 ⟨rfl, hw1⟩
          have HD3 := Lib.hid (HD2.out w1 hw1)
          have hz1 : w1.cell? ⟨g, m, none⟩ = some (.int .i64 z) := by rw [hw1.cell (p := ⟨g, m, none⟩) hgl]; exact hz
          have hf1 : w1.frozen? ⟨g, m, none⟩ = false := by
            rw [World.frozen?_of_block (hw1.block g hgl)]
            exact hf
          clear hw1 hz hf
          go_wp2
          go_roundw
          case rel => exact ⟨j + 1, by omega, by omega, by go_num, by rw [HS2.out]; go_num, _, HD3.out⟩
          case measure => simp [intOf]; omega
      · have hjn2 : j = n := by omega
        subst hjn2
        have hI : l.take j = l := List.take_of_length_le (by rw [← HN.out]; exact Nat.le_refl _)
        rw [hI] at hlt ⊢
        obtain ⟨w2, hr2, ow2, T2⟩ := row_clear_end wr B g j cap (keepL q l).length (ints c) HDc.out.own hlt (cap - (keepL q l).length)
        have HR2 := Lib.hid hr2
        have hhd := HDc.out.head
        rw [hI] at hhd
        rw [ints_take, hhd] at ow2
        have HO2 := Lib.hid ow2
        have HT2 := Lib.hid (HDc.out.T.trans T2)
        obtain ⟨m, hm⟩ : ∃ m, (keepL q l).length = m := ⟨_, rfl⟩
        rw [hm] at hlt HR2 HO2 ⊢
        have HM := Lib.hid hm
        clear hr2 ow2 T2 hhd hm hI hfr hmc HDc HI HD HD0 HK1
        go_wp2_with (first | (refine wpList_cut_lo rfl 27 3 (.tmp 36) (.tmp 37) rfl 1 Try.underlying27 info3 (some ⟨g, 0, none⟩) j cap m rfl rfl (by omega) ?_) | (refine wpList_cut_hi rfl 27 3 (.tmp 39) (.tmp 40) rfl 1 Try.underlying27 info3 (some ⟨g, 0, none⟩) j cap m rfl rfl (by omega) ?_) | (refine wpList_clearI rfl rfl (.tmp 38) rfl _ _ HR2.out rfl ?_))
        go_ret
        rw [HM.out]
        exact ⟨rfl, HO2.out, HT2.out.mono (fun k _ h => by rw [h]; rfl)⟩
set_option maxHeartbeats 4000000 in
theorem del74_any (W : World) (A : Option Addr) (n cap : Nat) (l : List Int) (q : Int → Bool) (b B : Nat) (hn : n = l.length) (hl : n ≤ 1000000000) (ho : W.ownsRow B 3 1 (.slice A n cap) n (ints l))
    (hclo : ∀ w', Turns (fun k => (Value.slice A n cap).ownBlock = some k) W w' → ∀ x : Int, Calls Try.prog 74 #[.int .i64 x, .pointer (some ⟨b, 0, none⟩)] w' fun e W' => e = .returned (.bool (q x)) ∧ Below w'.heap.size w' W') :
    Calls Try.prog 68 #[.slice A n cap, .func (.func 74) #[] #[.pointer (some ⟨b, 0, none⟩)]] W fun e W' => e = .returned (.slice A (keepL q l).length cap) ∧ W'.ownsRow B 3 1 (.slice A (keepL q l).length cap) (keepL q l).length (ints (keepL q l)) ∧ Turns (fun k => (Value.slice A n cap).ownBlock = some k) W W' := by
  have HI := idxf74_any W A n cap l q b hn hl (Reads.of_own ho) (fun w' h => hclo w' (Turns.of_below h _))
  rcases idxI_cases q l with ⟨e, hno⟩ | ⟨k0, e, hk0, hno, hyes⟩
  · rw [e] at HI
    have HI := Lib.hid HI
    have HK := Lib.hid (keepL_all hno)
    have HN := Lib.hid hn
    have HO := Lib.hid ho
    clear hn ho hclo e hno
    go_enter Try.func68, Try.ntmps68
    go_wp2_with fail
    refine HI.out.mono ?_
    rintro e w1 ⟨rfl, hb⟩
    have HB := Lib.hid hb
    clear hb
    go_wp2
    go_ret
    rw [HK.out, ← HN.out]
    exact ⟨rfl, (Turns.of_below HB.out (fun _ => False)).own HO.out (fun _ _ h => h), Turns.of_below HB.out _⟩
  · rw [e] at HI
    obtain ⟨g, rfl, _⟩ := own_some ho (fun e => by injection e with _ e2 _; omega)
    have hcap := own_le ho
    have HI := Lib.hid HI
    have hk1 : keepL q (l.take (k0 + 1)) = l.take k0 := by
      rw [keepL_succ q l k0 hk0, hyes, if_pos rfl, List.append_nil, keepL_all hno]
    have D0 := fun (w1 : World) (hb : Below W.heap.size W w1) => (⟨(Turns.of_below hb (fun _ => False)).own ho (fun _ _ h => h), by rw [hk1, List.length_take]; omega, by rw [hk1, List.length_take, Nat.min_eq_left (by omega)], rfl, Turns.of_below hb _⟩ : DL W w1 B g n cap l q (k0 + 1) l)
    have HD0 := Lib.hid D0
    have HK1 := Lib.hid (show (keepL q (l.take (k0 + 1))).length = k0 by rw [hk1, List.length_take]; omega)
    have HN := Lib.hid hn
    have HCL := Lib.hid (fun (w' : World) (T : Turns (fun k => k = g) W w') => hclo w' (T.mono (fun k _ h => by rw [h]; rfl)))
    have i0 : ((k0 : Int) == -1) = false := by first | (simp; done) | (simp; omega)
    have hk0n : k0 < n := by omega
    clear hn ho hclo e hno hyes hk1 D0
    go_enter Try.func68, Try.ntmps68
    go_wp2_with fail
    refine HI.out.mono ?_
    rintro e w1 ⟨rfl, hb⟩
    have HD := Lib.hid (HD0.out w1 hb)
    clear hb
    go_wp2
    go_loopw [5, 6] (fun m i wr => ∃ j : Nat, k0 + 1 ≤ j ∧ j ≤ n ∧ i = .int .i64 j ∧ m = .int .i64 ((keepL q (l.take j)).length : Nat) ∧ ∃ c, DL W wr B g n cap l q j c) (fun _ i _ => n - (intOf i).toNat)
    case atStart => exact ⟨k0 + 1, Nat.le_refl _, by omega, by go_num, by rw [HK1.out], l, HD.out⟩
    case round =>
      obtain ⟨j, hj1, hj, rfl, rfl, c, hD⟩ := hrel
      have HDc := Lib.hid hD
      have hlt := hD.lt
      have hfr := fun i => row_free (i := i) hD.own
      have hmc : ∀ i, i < n → ∃ z, wr.cell? ⟨g, i, none⟩ = some (.int .i64 z) := fun i hi => ⟨_, row_get hD.own (by rw [row_len hD.own]; exact hi)⟩
      clear hD
      by_cases hjn : j < n
      · have hjl : j < l.length := by rw [← HN.out]; exact hjn
        have hc := HDc.out.get HN.out hjn
        have HSK := Lib.hid (fun (w1 : World) h1 h2 => HDc.out.skip (w1 := w1) HN.out hjn h1 h2)
        have HPU := Lib.hid (fun (w1 : World) h1 h2 => HDc.out.put (w1 := w1) HN.out hjn h1 h2)
        have HKS := Lib.hid (keepL_succ q l j hjl)
        obtain ⟨x, hx⟩ : ∃ x, l[j] = x := ⟨_, rfl⟩
        rw [hx] at hc HSK HPU HKS
        have hgl := World.block_lt_of_cell? _ _ hc
        dsimp only at hgl
        have PL := Lib.hid (HCL.out wr HDc.out.T x)
        obtain ⟨m, hm⟩ : ∃ m, (keepL q (l.take j)).length = m := ⟨_, rfl⟩
        rw [hm] at hlt HPU ⊢
        have HM := Lib.hid hm
        have i1 : (j : Int) < (n : Int) := by omega
        have i2 : (m : Int) < (n : Int) := by omega
        obtain ⟨z, hz⟩ := hmc m (by omega)
        have hf := hfr m
        clear hx hm hfr hmc
        rcases Bool.eq_false_or_eq_true (q x) with hq | hq
        · rw [hq] at PL HKS
          have HS2 := Lib.hid (show (keepL q (l.take (j + 1))).length = m by rw [HKS.out]; simp [HM.out])
          have HD2 := Lib.hid (fun (w1 : World) => HSK.out w1 hq)
          clear hq
          go_wp2_with fail
          refine PL.out.mono ?_
          rintro e w1 ⟨rfl, hw1⟩
          have HD3 := Lib.hid (HD2.out w1 hw1)
          clear hw1
          go_wp2
          go_roundw
          case rel => exact ⟨j + 1, by omega, by omega, by go_num, by rw [HS2.out], c, HD3.out⟩
          case measure => simp [intOf]; omega
        · rw [hq] at PL HKS
          have HS2 := Lib.hid (show (keepL q (l.take (j + 1))).length = m + 1 by rw [HKS.out]; simp [HM.out])
          have HD2 := Lib.hid (fun (w1 : World) => HPU.out w1 hq)
          clear hq
          go_wp2_with fail
          refine PL.out.mono ?_
          rintro e w1 ⟨rfl, hw1⟩
          have HD3 := Lib.hid (HD2.out w1 hw1)
          have hz1 : w1.cell? ⟨g, m, none⟩ = some (.int .i64 z) := by rw [hw1.cell (p := ⟨g, m, none⟩) hgl]; exact hz
          have hf1 : w1.frozen? ⟨g, m, none⟩ = false := by
            rw [World.frozen?_of_block (hw1.block g hgl)]
            exact hf
          clear hw1 hz hf
          go_wp2
          go_roundw
          case rel => exact ⟨j + 1, by omega, by omega, by go_num, by rw [HS2.out]; go_num, _, HD3.out⟩
          case measure => simp [intOf]; omega
      · have hjn2 : j = n := by omega
        subst hjn2
        have hI : l.take j = l := List.take_of_length_le (by rw [← HN.out]; exact Nat.le_refl _)
        rw [hI] at hlt ⊢
        obtain ⟨w2, hr2, ow2, T2⟩ := row_clear_end wr B g j cap (keepL q l).length (ints c) HDc.out.own hlt (cap - (keepL q l).length)
        have HR2 := Lib.hid hr2
        have hhd := HDc.out.head
        rw [hI] at hhd
        rw [ints_take, hhd] at ow2
        have HO2 := Lib.hid ow2
        have HT2 := Lib.hid (HDc.out.T.trans T2)
        obtain ⟨m, hm⟩ : ∃ m, (keepL q l).length = m := ⟨_, rfl⟩
        rw [hm] at hlt HR2 HO2 ⊢
        have HM := Lib.hid hm
        clear hr2 ow2 T2 hhd hm hI hfr hmc HDc HI HD HD0 HK1
        go_wp2_with (first | (refine wpList_cut_lo rfl 27 3 (.tmp 36) (.tmp 37) rfl 1 Try.underlying27 info3 (some ⟨g, 0, none⟩) j cap m rfl rfl (by omega) ?_) | (refine wpList_cut_hi rfl 27 3 (.tmp 39) (.tmp 40) rfl 1 Try.underlying27 info3 (some ⟨g, 0, none⟩) j cap m rfl rfl (by omega) ?_) | (refine wpList_clearI rfl rfl (.tmp 38) rfl _ _ HR2.out rfl ?_))
        go_ret
        rw [HM.out]
        exact ⟨rfl, HO2.out, HT2.out.mono (fun k _ h => by rw [h]; rfl)⟩
end Go.Proofs.Ytbkcopejclcfdaa

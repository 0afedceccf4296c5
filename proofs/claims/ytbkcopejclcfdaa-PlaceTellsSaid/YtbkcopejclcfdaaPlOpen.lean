/- Records that came in: opened; alive of place. -/
import Derived.Test.YtbkcopejclcfdaaPlSpread
import Derived.Test.YtbkcopejclcfdaaLkRead
namespace Go.Proofs.Ytbkcopejclcfdaa
open Go.RowKit Go.ChangeShapes Go.Deep Go.Proofs.YtbkcopejclcfdaaW.PrintWords
set_option linter.unusedVariables false
set_option linter.unusedSimpArgs false
theorem cellsP5 : Try.prog.cellsOf 5 = 1 := by kernel_rfl
theorem cellsP4 : Try.prog.cellsOf 4 = 1 := by kernel_rfl
theorem cellsP51 : Try.prog.cellsOf 51 = 1 := by kernel_rfl
theorem cellsP34 : Try.prog.cellsOf 34 = 2 := by kernel_rfl
theorem cellsP50 : Try.prog.cellsOf 50 = 3 := by kernel_rfl
theorem cellsP53 : Try.prog.cellsOf 53 = 10 := by kernel_rfl
variable {H : Type} {enc : TypeId × Value → H} {w : World} {base : Nat} {held : Bool}
theorem trod_u8s {fuel : Nat} {cs : List Value} {x : DataW H × List MemPlace} (h : DataW.trod enc Try.prog w base (fun _ => true) held fuel 51 cs = some x) :
    ∃ v d, cs = [v] ∧ DataV w v d := by
  rcases open_ints Try.underlying51 Try.underlying5 cellsP5 h with ⟨rfl, _⟩ | ⟨a, len, cap, zs, rfl, _, hl, hm, hz, _, hcell, hwz⟩
  · exact ⟨_, [], rfl, none, 0, rfl, Reads.nil _ _, fun _ => rfl⟩
  · simp only [if_true] at hz
    have hlt : (zs.take len).length = len := by rw [List.length_take]; omega
    refine ⟨_, zs.take len, rfl, some a, cap, by rw [hlt], fun j u hj => ?_, fun e => by cases e⟩
    have hjl : j < len := by
      have := (List.getElem?_eq_some_iff.1 hj).1
      rw [cv_length, hlt] at this
      exact this
    have h1 := hcell j (by omega)
    have h0 := hcell 0 (by omega)
    have e0 : a.add 0 = a := by simp [Addr.add]
    rw [e0] at h0
    have hs := spot_none h0
    rw [hs, Addr.add_lit] at h1
    refine ⟨a.block, a.off, congrArg some hs, (by have := World.block_lt_of_cell? _ _ h1; exact this), ?_⟩
    rw [h1]
    have hg : (cv (zs.take len))[j]? = some (.int .u8 zs[j]) := by
      simp [cv, hjl, show j < zs.length by omega]
    rw [hg] at hj
    rw [← hj]
    simp [List.getD_eq_getElem?_getD, List.getElem?_eq_getElem (show j < zs.length by omega)]
theorem two_list {α : Type} {l : List α} (h : l.length = 2) : ∃ a b, l = [a, b] := by
  match l, h with
  | [a, b], _ => exact ⟨a, b, rfl⟩
theorem three_list {α : Type} {l : List α} (h : l.length = 3) : ∃ a b c, l = [a, b, c] := by
  match l, h with
  | [a, b, c], _ => exact ⟨a, b, c, rfl⟩
theorem ten_list {α : Type} {l : List α} (h : l.length = 10) : ∃ a b c d e f g i j k, l = [a, b, c, d, e, f, g, i, j, k] := by
  match l, h with
  | [a, b, c, d, e, f, g, i, j, k], _ => exact ⟨a, b, c, d, e, f, g, i, j, k, rfl⟩
theorem trod_id {fuel : Nat} {cs : List Value} {x : DataW H × List MemPlace} (h : DataW.trod enc Try.prog w base (fun _ => true) held fuel 34 cs = some x) : ∃ a b : Int, cs = [.int .i64 a, .int .i64 b] := by
  obtain ⟨xs, m, _, _, hl0, hl, he⟩ := DataW.trod_struct Try.underlying34 h
  rw [cellsP34] at hl0
  replace hl : xs.length = 2 := hl
  have h0 := he 0 _ rfl
  have h1 := he 1 _ rfl
  rw [List.getElem?_eq_getElem (by omega)] at h0 h1
  replace h0 : DataW.trod enc Try.prog w base (fun _ => true) held m 3 ((cs.drop 0).take (Try.prog.cellsOf 3)) = some xs[0] := h0
  replace h1 : DataW.trod enc Try.prog w base (fun _ => true) held m 3 ((cs.drop 1).take (Try.prog.cellsOf 3)) = some xs[1] := h1
  rw [cellsK3] at h0 h1
  obtain ⟨c0, c1, rfl⟩ := two_list hl0
  obtain ⟨a, ha, _, _⟩ := DataW.trod_int Try.underlying3 h0
  obtain ⟨b, hb, _, _⟩ := DataW.trod_int Try.underlying3 h1
  have e0 := (List.cons.inj ha).1
  have e1 := (List.cons.inj hb).1
  exact ⟨a, b, by rw [e0, e1]⟩
theorem trod_shape {fuel : Nat} {cs : List Value} {x : DataW H × List MemPlace} (h : DataW.trod enc Try.prog w base (fun _ => true) held fuel 50 cs = some x) : ∃ a b c : Int, cs = [.int .i64 a, .int .i64 b, .int .i64 c] := by
  obtain ⟨xs, m, _, _, hl0, hl, he⟩ := DataW.trod_struct Try.underlying50 h
  rw [cellsP50] at hl0
  replace hl : xs.length = 3 := hl
  have h0 := he 0 _ rfl
  have h1 := he 1 _ rfl
  have h2 := he 2 _ rfl
  rw [List.getElem?_eq_getElem (by omega)] at h0 h1 h2
  replace h0 : DataW.trod enc Try.prog w base (fun _ => true) held m 3 ((cs.drop 0).take (Try.prog.cellsOf 3)) = some xs[0] := h0
  replace h1 : DataW.trod enc Try.prog w base (fun _ => true) held m 3 ((cs.drop 1).take (Try.prog.cellsOf 3)) = some xs[1] := h1
  replace h2 : DataW.trod enc Try.prog w base (fun _ => true) held m 3 ((cs.drop 2).take (Try.prog.cellsOf 3)) = some xs[2] := h2
  rw [cellsK3] at h0 h1 h2
  obtain ⟨c0, c1, c2, rfl⟩ := three_list hl0
  obtain ⟨a, ha, _, _⟩ := DataW.trod_int Try.underlying3 h0
  obtain ⟨b, hb, _, _⟩ := DataW.trod_int Try.underlying3 h1
  obtain ⟨c, hc, _, _⟩ := DataW.trod_int Try.underlying3 h2
  have e0 := (List.cons.inj ha).1
  have e1 := (List.cons.inj hb).1
  have e2 := (List.cons.inj hc).1
  exact ⟨a, b, c, by rw [e0, e1, e2]⟩
theorem trod_rec {fuel : Nat} {cs : List Value} {x : DataW H × List MemPlace} (h : DataW.trod enc Try.prog w base (fun _ => true) held fuel 53 cs = some x) :
    ∃ (r : Rc) (v : Value), cs = r.cells v ∧ DataV w v r.data := by
  obtain ⟨xs, m, _, _, hl0, hl, he⟩ := DataW.trod_struct Try.underlying53 h
  rw [cellsP53] at hl0
  replace hl : xs.length = 7 := hl
  have h0 := he 0 _ rfl
  have h1 := he 1 _ rfl
  have h2 := he 2 _ rfl
  have h3 := he 3 _ rfl
  have h4 := he 4 _ rfl
  have h5 := he 5 _ rfl
  have h6 := he 6 _ rfl
  rw [List.getElem?_eq_getElem (by omega)] at h0 h1 h2 h3 h4 h5 h6
  replace h0 : DataW.trod enc Try.prog w base (fun _ => true) held m 34 ((cs.drop 0).take (Try.prog.cellsOf 34)) = some xs[0] := h0
  replace h1 : DataW.trod enc Try.prog w base (fun _ => true) held m 50 ((cs.drop 2).take (Try.prog.cellsOf 50)) = some xs[1] := h1
  replace h2 : DataW.trod enc Try.prog w base (fun _ => true) held m 3 ((cs.drop 5).take (Try.prog.cellsOf 3)) = some xs[2] := h2
  replace h3 : DataW.trod enc Try.prog w base (fun _ => true) held m 3 ((cs.drop 6).take (Try.prog.cellsOf 3)) = some xs[3] := h3
  replace h4 : DataW.trod enc Try.prog w base (fun _ => true) held m 4 ((cs.drop 7).take (Try.prog.cellsOf 4)) = some xs[4] := h4
  replace h5 : DataW.trod enc Try.prog w base (fun _ => true) held m 3 ((cs.drop 8).take (Try.prog.cellsOf 3)) = some xs[5] := h5
  replace h6 : DataW.trod enc Try.prog w base (fun _ => true) held m 51 ((cs.drop 9).take (Try.prog.cellsOf 51)) = some xs[6] := h6
  rw [cellsP34] at h0
  rw [cellsP50] at h1
  rw [cellsK3] at h2 h3 h5
  rw [cellsP4] at h4
  rw [cellsP51] at h6
  obtain ⟨c0, c1, c2, c3, c4, c5, c6, c7, c8, c9, rfl⟩ := ten_list hl0
  obtain ⟨peer, number, e0⟩ := trod_id h0
  obtain ⟨s1, s2, s3, e1⟩ := trod_shape h1
  obtain ⟨bl, e2, _, _⟩ := DataW.trod_int Try.underlying3 h2
  obtain ⟨es, e3, _, _⟩ := DataW.trod_int Try.underlying3 h3
  obtain ⟨gn, e4, _⟩ := DataW.trod_bool Try.underlying4 h4
  obtain ⟨ti, e5, _, _⟩ := DataW.trod_int Try.underlying3 h5
  obtain ⟨v, d, e6, hd⟩ := trod_u8s h6
  refine ⟨⟨peer, number, s1, s2, s3, bl, es, gn, ti, d⟩, v, ?_, hd⟩
  simp at e0 e1 e2 e3 e4 e5 e6
  obtain ⟨rfl, rfl⟩ := e0
  obtain ⟨rfl, rfl, rfl⟩ := e1
  subst e2 e3 e4 e5 e6
  rfl
instance : Inhabited Rc := ⟨⟨0, 0, 0, 0, 0, 0, 0, false, 0, []⟩⟩
theorem open_recs {a : Option Addr} {len cap : Nat} {d : DataW H} {ps : List MemPlace} (h : DataW.Trod enc Try.prog w base (fun _ => true) held 35 (.slice a len cap) d ps) :
    ∃ xs : List Rc, len = xs.length ∧ Recs w a xs ∧ len ≤ 9223372036854775807 := by
  obtain ⟨fuel, hf⟩ := h
  rcases open_slice Try.underlying35 hf with ⟨hcs, _⟩ | ⟨a', len', cap', m, n, D, Pl, hcs, hb, hl, hm, hmm, hx, each⟩
  · simp [Value.cells] at hcs
    obtain ⟨rfl, rfl, rfl⟩ := hcs
    exact ⟨[], rfl, fun i hi => by simp at hi, by omega⟩
  · simp [Value.cells] at hcs
    obtain ⟨rfl, rfl, rfl⟩ := hcs
    have hlm : len ≤ m := by rw [hmm]; simp; exact hl
    have one : ∀ i, i < len → ∃ q : Rc, ∃ v, (∀ j u, (q.cells v)[j]? = some u → w.cell? (a'.add (i * 10 + j)) = some u) ∧ DataV w v q.data := by
      intro i hi
      obtain ⟨cs', h1, h2⟩ := each i (by omega)
      rw [cellsP53] at h1
      obtain ⟨_, hlen, hcell⟩ := World.cells?_some h1
      obtain ⟨q, v, hcc, r1⟩ := trod_rec h2
      subst hcc
      refine ⟨q, v, fun j u hu => ?_, r1⟩
      have hj : j < (q.cells v).length := (List.getElem?_eq_some_iff.1 hu).1
      have g0 := hcell j (by rw [rc_len] at hj; simpa using hj)
      rw [Deep.add_add] at g0
      rw [g0]
      simpa using hu
    obtain ⟨q, hq⟩ := choose_lt one
    refine ⟨(List.range len).map q, by simp, fun i hi => ?_, by unfold maxLen at hm; omega⟩
    have hi' : i < len := by simpa using hi
    obtain ⟨_, q0, _⟩ := hq 0 (by omega)
    have q00 := q0 0 _ rfl
    rw [Nat.zero_mul, Nat.add_zero] at q00
    have hs := spot_none q00
    have e0 : a'.add 0 = a' := by simp [Addr.add]
    rw [e0] at hs
    obtain ⟨v, q1, r1⟩ := hq i hi'
    rw [hs] at q1
    simp only [Addr.add_lit] at q1
    have hxi : ((List.range len).map q)[i] = q i := by simp
    rw [hxi]
    have q10 := q1 0 _ rfl
    refine ⟨a'.block, a'.off, v, congrArg some hs, (by have := World.block_lt_of_cell? _ _ q10; exact this), fun j u hu => ?_, r1⟩
    have := q1 j u hu
    rw [← Nat.add_assoc] at this
    exact this
end Go.Proofs.Ytbkcopejclcfdaa

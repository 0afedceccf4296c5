/- A slice of a log's acts that came in: opened. -/
import Derived.Test.YtddchhoplomjgaaLPlays
import Derived.Test.YtddchhoplomjgaaNums
import Derived.Test.YtddchhoplomjgaaLCrAll
import Derived.Deep.Slices
import Derived.OpenShut
import Derived.DataReads
namespace Go.Proofs.Ytddchhoplomjgaa
open Go.RowKit Go.ChangeShapes Go.Deep Go.Proofs.YtddchhoplomjgaaW.PrintWords
set_option linter.unusedVariables false
theorem cellsL5 : Try.prog.cellsOf 5 = 1 := by kernel_rfl
theorem cellsL3 : Try.prog.cellsOf 3 = 1 := by kernel_rfl
theorem cellsL38 : Try.prog.cellsOf 38 = 1 := by kernel_rfl
theorem cellsL71 : Try.prog.cellsOf 71 = 3 := by kernel_rfl
theorem slice_oneL (l : List Value) (i : Nat) (h : i < l.length) : (l.drop i).take 1 = [l[i]] := by
  rw [List.drop_eq_getElem_cons h, List.take_succ_cons, List.take_zero]
variable {H : Type} {enc : TypeId × Value → H} {w : World} {base : Nat} {held : Bool}
theorem trod_bytes {fuel : Nat} {cs : List Value} {x : DataW H × List MemPlace} (h : DataW.trod enc Try.prog w base (fun _ => true) held fuel 38 cs = some x) :
    ∃ ad cap B, cs = [.slice ad B.length cap] ∧ Reads w ad (bv B) ∧ Bytes B ∧ B.length ≤ cap ∧ B.length ≤ 9223372036854775807 := by
  rcases open_ints Try.underlying38 Try.underlying5 cellsL5 h with ⟨rfl, _⟩ | ⟨a, len, cap, zs, rfl, _, hl, hm, hz, _, hcell, hwz⟩
  · exact ⟨none, 0, [], rfl, Reads.nil _ _, fun x hx => by simp at hx, Nat.le_refl _, by simp⟩
  · simp only [if_true] at hz
    have hlt : (zs.take len).length = len := by rw [List.length_take]; omega
    refine ⟨some a, cap, zs.take len, by rw [hlt], fun j u hj => ?_, fun x hx => byte_of_wf (hwz x (List.mem_of_mem_take hx)), by omega, by unfold maxLen at hm; omega⟩
    have hjl : j < len := by
      have := (List.getElem?_eq_some_iff.1 hj).1
      rw [bv_length, hlt] at this
      exact this
    have h1 := hcell j (by omega)
    have h0 := hcell 0 (by omega)
    have e0 : a.add 0 = a := by simp [Addr.add]
    rw [e0] at h0
    have hs := spot_none h0
    rw [hs, Addr.add_lit] at h1
    refine ⟨a.block, a.off, congrArg some hs, (by have := World.block_lt_of_cell? _ _ h1; exact this), ?_⟩
    rw [h1]
    rw [bv_get _ j (by omega)] at hj
    rw [← hj]
    simp [List.getD_eq_getElem?_getD, List.getElem?_eq_getElem (show j < zs.length by omega)]
theorem trod_lact {fuel : Nat} {cs : List Value} {x : DataW H × List MemPlace} (h : DataW.trod enc Try.prog w base (fun _ => true) held fuel 71 cs = some x) :
    ∃ (q : LAct) (ad : Option Addr) (cap : Nat), cs = [.int .i64 q.way, .int .i64 q.n, .slice ad q.B.length cap] ∧ Reads w ad (bv q.B) ∧ Bytes q.B ∧ q.B.length ≤ cap ∧ q.B.length ≤ 9223372036854775807 := by
  obtain ⟨xs, m, _, _, hl0, hl, he⟩ := DataW.trod_struct Try.underlying71 h
  rw [cellsL71] at hl0
  replace hl : xs.length = 3 := hl
  have h0 := he 0 _ rfl
  have h1 := he 1 _ rfl
  have h2 := he 2 _ rfl
  rw [List.getElem?_eq_getElem (by omega)] at h0 h1 h2
  replace h0 : DataW.trod enc Try.prog w base (fun _ => true) held m 3 ((cs.drop 0).take (Try.prog.cellsOf 3)) = some xs[0] := h0
  replace h1 : DataW.trod enc Try.prog w base (fun _ => true) held m 3 ((cs.drop 1).take (Try.prog.cellsOf 3)) = some xs[1] := h1
  replace h2 : DataW.trod enc Try.prog w base (fun _ => true) held m 38 ((cs.drop 2).take (Try.prog.cellsOf 38)) = some xs[2] := h2
  rw [cellsL3, slice_oneL _ 0 (by omega)] at h0
  rw [cellsL3, slice_oneL _ 1 (by omega)] at h1
  rw [cellsL38, slice_oneL _ 2 (by omega)] at h2
  obtain ⟨way, hway, _, _⟩ := DataW.trod_int Try.underlying3 h0
  obtain ⟨n, hn, _, _⟩ := DataW.trod_int Try.underlying3 h1
  obtain ⟨ad, cap, B, hB, r1, r2, r3, r4⟩ := trod_bytes h2
  refine ⟨⟨way, n, B⟩, ad, cap, ?_, r1, r2, r3, r4⟩
  match cs, hl0 with
  | [c0, c1, c2], _ =>
    have e0 := (List.cons.inj hway).1
    have e1 := (List.cons.inj hn).1
    have e2 := (List.cons.inj hB).1
    simp only [List.getElem_cons_zero, List.getElem_cons_succ] at e0 e1 e2
    rw [e0, e1, e2]
instance : Inhabited LAct := ⟨⟨0, 0, []⟩⟩
theorem open_lacts {a : Option Addr} {len cap : Nat} {d : DataW H} {ps : List MemPlace} (h : DataW.Trod enc Try.prog w base (fun _ => true) held 66 (.slice a len cap) d ps) :
    ∃ xs : List LAct, len = xs.length ∧ LActs w a xs := by
  obtain ⟨fuel, hf⟩ := h
  rcases open_slice Try.underlying66 hf with ⟨hcs, _⟩ | ⟨a', len', cap', m, n, D, Pl, hcs, hb, hl, hm, hmm, hx, each⟩
  · simp [Value.cells] at hcs
    obtain ⟨rfl, rfl, rfl⟩ := hcs
    exact ⟨[], rfl, fun i hi => by simp at hi⟩
  · simp [Value.cells] at hcs
    obtain ⟨rfl, rfl, rfl⟩ := hcs
    have hlm : len ≤ m := by rw [hmm]; simp; exact hl
    have one : ∀ i, i < len → ∃ q : LAct, ∃ ad cap, w.cell? (a'.add (i * 3)) = some (.int .i64 q.way) ∧ w.cell? (a'.add (i * 3 + 1)) = some (.int .i64 q.n) ∧ w.cell? (a'.add (i * 3 + 2)) = some (.slice ad q.B.length cap) ∧ Reads w ad (bv q.B) ∧ Bytes q.B ∧ q.B.length ≤ cap ∧ q.B.length ≤ 9223372036854775807 := by
      intro i hi
      obtain ⟨cs', h1, h2⟩ := each i (by omega)
      rw [cellsL71] at h1
      obtain ⟨_, hlen, hcell⟩ := World.cells?_some h1
      obtain ⟨q, ad, cp, hcc, r1, r2, r3, r4⟩ := trod_lact h2
      subst hcc
      have g0 := hcell 0 (by omega)
      have g1 := hcell 1 (by omega)
      have g2 := hcell 2 (by omega)
      rw [Deep.add_add] at g0 g1 g2
      exact ⟨q, ad, cp, g0, g1, g2, r1, r2, r3, r4⟩
    obtain ⟨q, hq⟩ := choose_lt one
    refine ⟨(List.range len).map q, by simp, fun i hi => ?_⟩
    have hi' : i < len := by simpa using hi
    obtain ⟨_, _, q0, _⟩ := hq 0 (by omega)
    rw [Nat.zero_mul] at q0
    have hs := spot_none q0
    have e0 : a'.add 0 = a' := by simp [Addr.add]
    rw [e0] at hs
    obtain ⟨ad, cp, q1, q2, q3, r1, r2, r3, r4⟩ := hq i hi'
    rw [hs] at q1 q2 q3
    simp only [Addr.add_lit] at q1 q2 q3
    have hxi : ((List.range len).map q)[i] = q i := by simp
    rw [hxi]
    exact ⟨a'.block, a'.off, ad, cp, congrArg some hs, (by have := World.block_lt_of_cell? _ _ q1; exact this), q1, q2, q3, r1, r2, r3, r4⟩
theorem lplays_all (W : World) (A : Option Addr) (n cap : Nat) (xs : List LAct) (hn : n = xs.length) (ha : LActs W A xs) : Calls Try.prog 9 #[.slice A n cap] W fun e W' => e = .returned (.bool true) ∧ Below W.heap.size W W' := by
  by_cases h : n ≤ 100
  · exact lplays_in W A n cap xs hn h ha
  · exact lplays_out W A n cap (by omega)
end Go.Proofs.Ytddchhoplomjgaa

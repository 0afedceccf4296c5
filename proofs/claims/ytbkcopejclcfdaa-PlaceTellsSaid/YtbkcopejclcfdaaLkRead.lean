/- Slices of slices of numbers, and slices of a look's acts, that came in: opened. -/
import Derived.Test.YtbkcopejclcfdaaLkBase
import Derived.Test.YtbkcopejclcfdaaBytes
import Derived.Deep.Slices
import Derived.OpenShut
import Derived.DataReads
namespace Go.Proofs.Ytbkcopejclcfdaa
open Go.RowKit Go.ChangeShapes Go.Deep Go.Proofs.YtbkcopejclcfdaaW.PrintWords
set_option linter.unusedVariables false
/-- what came in lies at an address without a spot -/
theorem spot_none {w : World} {a : Addr} {v : Value} (h : w.cell? a = some v) : a = ⟨a.block, a.off, none⟩ := by
  obtain ⟨b, o, sp⟩ := a
  cases sp with
  | none => rfl
  | some s =>
    unfold World.cell? at h
    split at h
    · simp at h
    · cases h
theorem reads_at {w : World} {k : IntKind} {A : Option Addr} {xs : List Int} (h : Kd.C (Kd.int k) w A xs.length xs) (h0 : 0 < xs.length) :
    ∃ b off, A = some ⟨b, off, none⟩ ∧ b < w.heap.size ∧ ∀ j, j < xs.length → w.cell? ⟨b, off + j, none⟩ = some (.int k (xs.getD j 0)) := by
  obtain ⟨_, _, hr⟩ := Kd.reads_of_C (enc := Value.int k) (d := (0 : Int)) (h1 := fun _ => rfl) h
  obtain ⟨ad, e, hc⟩ := hr h0
  have h1 := hc 0 h0
  have e1 : ad.add 0 = ad := by simp [Addr.add]
  rw [e1] at h1
  have hs := spot_none h1
  refine ⟨ad.block, ad.off, by rw [← hs]; exact e, World.block_lt_of_cell? _ _ h1, fun j hj => ?_⟩
  have h2 := hc j hj
  rw [hs, Addr.add_lit] at h2
  exact h2
theorem nums_of_C {w : World} {A : Option Addr} {xs : List Int} (h : Kd.C (Kd.int .i64) w A xs.length xs) : Nums w A xs := fun j hj => by
  obtain ⟨b, off, h1, h2, h3⟩ := reads_at h (by omega)
  exact ⟨b, off, h1, h2, h3 j hj⟩
theorem cellsK3 : Try.prog.cellsOf 3 = 1 := by kernel_rfl
theorem cellsK27 : Try.prog.cellsOf 27 = 1 := by kernel_rfl
theorem cellsK61 : Try.prog.cellsOf 61 = 3 := by kernel_rfl
theorem slice_oneK (l : List Value) (i : Nat) (h : i < l.length) : (l.drop i).take 1 = [l[i]] := by
  rw [List.drop_eq_getElem_cons h, List.take_succ_cons, List.take_zero]
/-- rows of numbers, as they came in -/
def RowsI (W : World) (A : Option Addr) (xs : List (List Int)) : Prop := ∀ i (h : i < xs.length), ∃ b off ad cap, A = some ⟨b, off, none⟩ ∧ b < W.heap.size ∧ W.cell? ⟨b, off + i, none⟩ = some (.slice ad xs[i].length cap) ∧ Reads W ad (ints xs[i]) ∧ xs[i].length ≤ cap
structure KAct where
  way : Int
  peer : Int
  more : List Int
/-- a look's acts, as they came in -/
def KActs (W : World) (A : Option Addr) (xs : List KAct) : Prop := ∀ i (h : i < xs.length), ∃ b off ad cap, A = some ⟨b, off, none⟩ ∧ b < W.heap.size ∧ W.cell? ⟨b, off + i * 3, none⟩ = some (.int .i64 xs[i].way) ∧ W.cell? ⟨b, off + i * 3 + 1, none⟩ = some (.int .i64 xs[i].peer) ∧
  W.cell? ⟨b, off + i * 3 + 2, none⟩ = some (.slice ad xs[i].more.length cap) ∧ Reads W ad (ints xs[i].more) ∧ xs[i].more.length ≤ cap
variable {H : Type} {enc : TypeId × Value → H} {w : World} {base : Nat} {held : Bool}
theorem trod_nums {fuel : Nat} {cs : List Value} {x : DataW H × List MemPlace} (h : DataW.trod enc Try.prog w base (fun _ => true) held fuel 27 cs = some x) :
    ∃ ad cap B, cs = [.slice ad B.length cap] ∧ Reads w ad (ints B) ∧ B.length ≤ cap := by
  rcases open_ints Try.underlying27 Try.underlying3 cellsK3 h with ⟨rfl, _⟩ | ⟨a, len, cap, zs, rfl, _, hl, hm, hz, _, hcell, hwz⟩
  · exact ⟨none, 0, [], rfl, Reads.nil _ _, Nat.le_refl _⟩
  · simp only [if_true] at hz
    have hlt : (zs.take len).length = len := by rw [List.length_take]; omega
    refine ⟨some a, cap, zs.take len, by rw [hlt], fun j u hj => ?_, by omega⟩
    have hjl : j < len := by
      have := (List.getElem?_eq_some_iff.1 hj).1
      rw [ints_length, hlt] at this
      exact this
    have h1 := hcell j (by omega)
    have h0 := hcell 0 (by omega)
    have e0 : a.add 0 = a := by simp [Addr.add]
    rw [e0] at h0
    have hs := spot_none h0
    rw [hs, Addr.add_lit] at h1
    refine ⟨a.block, a.off, congrArg some hs, (by have := World.block_lt_of_cell? _ _ h1; exact this), ?_⟩
    rw [h1]
    rw [ints_get _ j (by omega)] at hj
    rw [← hj]
    simp [List.getD_eq_getElem?_getD, List.getElem?_eq_getElem (show j < zs.length by omega)]
theorem open_rowsI {a : Option Addr} {len cap : Nat} {d : DataW H} {ps : List MemPlace} (h : DataW.Trod enc Try.prog w base (fun _ => true) held 69 (.slice a len cap) d ps) :
    ∃ xs : List (List Int), len = xs.length ∧ RowsI w a xs := by
  obtain ⟨fuel, hf⟩ := h
  rcases open_slice Try.underlying69 hf with ⟨hcs, _⟩ | ⟨a', len', cap', m, n, D, Pl, hcs, hb, hl, hm, hmm, hx, each⟩
  · simp [Value.cells] at hcs
    obtain ⟨rfl, rfl, rfl⟩ := hcs
    exact ⟨[], rfl, fun i hi => by simp at hi⟩
  · simp [Value.cells] at hcs
    obtain ⟨rfl, rfl, rfl⟩ := hcs
    have hlm : len ≤ m := by rw [hmm]; simp; exact hl
    have one : ∀ i, i < len → ∃ q : List Int, ∃ ad cap, w.cell? (a'.add i) = some (.slice ad q.length cap) ∧ Reads w ad (ints q) ∧ q.length ≤ cap := by
      intro i hi
      obtain ⟨cs', h1, h2⟩ := each i (by omega)
      rw [cellsK27, Nat.mul_one] at h1
      obtain ⟨_, hlen, hcell⟩ := World.cells?_some h1
      obtain ⟨ad, cp, q, hcc, r1, r2⟩ := trod_nums h2
      subst hcc
      have g0 := hcell 0 (by omega)
      rw [Deep.add_add, Nat.add_zero] at g0
      exact ⟨q, ad, cp, g0, r1, r2⟩
    obtain ⟨q, hq⟩ := choose_lt one
    refine ⟨(List.range len).map q, by simp, fun i hi => ?_⟩
    have hi' : i < len := by simpa using hi
    obtain ⟨_, _, q0, _⟩ := hq 0 (by omega)
    have e0 : a'.add 0 = a' := by simp [Addr.add]
    rw [e0] at q0
    have hs := spot_none q0
    obtain ⟨ad, cp, q1, r1, r2⟩ := hq i hi'
    rw [hs] at q1
    simp only [Addr.add_lit] at q1
    have hxi : ((List.range len).map q)[i] = q i := by simp
    rw [hxi]
    exact ⟨a'.block, a'.off, ad, cp, congrArg some hs, (by have := World.block_lt_of_cell? _ _ q1; exact this), q1, r1, r2⟩
theorem trod_kact {fuel : Nat} {cs : List Value} {x : DataW H × List MemPlace} (h : DataW.trod enc Try.prog w base (fun _ => true) held fuel 61 cs = some x) :
    ∃ (q : KAct) (ad : Option Addr) (cap : Nat), cs = [.int .i64 q.way, .int .i64 q.peer, .slice ad q.more.length cap] ∧ Reads w ad (ints q.more) ∧ q.more.length ≤ cap := by
  obtain ⟨xs, m, _, _, hl0, hl, he⟩ := DataW.trod_struct Try.underlying61 h
  rw [cellsK61] at hl0
  replace hl : xs.length = 3 := hl
  have h0 := he 0 _ rfl
  have h1 := he 1 _ rfl
  have h2 := he 2 _ rfl
  rw [List.getElem?_eq_getElem (by omega)] at h0 h1 h2
  replace h0 : DataW.trod enc Try.prog w base (fun _ => true) held m 3 ((cs.drop 0).take (Try.prog.cellsOf 3)) = some xs[0] := h0
  replace h1 : DataW.trod enc Try.prog w base (fun _ => true) held m 3 ((cs.drop 1).take (Try.prog.cellsOf 3)) = some xs[1] := h1
  replace h2 : DataW.trod enc Try.prog w base (fun _ => true) held m 27 ((cs.drop 2).take (Try.prog.cellsOf 27)) = some xs[2] := h2
  rw [cellsK3, slice_oneK _ 0 (by omega)] at h0
  rw [cellsK3, slice_oneK _ 1 (by omega)] at h1
  rw [cellsK27, slice_oneK _ 2 (by omega)] at h2
  obtain ⟨way, hway, _, _⟩ := DataW.trod_int Try.underlying3 h0
  obtain ⟨n, hn, _, _⟩ := DataW.trod_int Try.underlying3 h1
  obtain ⟨ad, cap, B, hB, r1, r2⟩ := trod_nums h2
  refine ⟨⟨way, n, B⟩, ad, cap, ?_, r1, r2⟩
  match cs, hl0 with
  | [c0, c1, c2], _ =>
    have e0 := (List.cons.inj hway).1
    have e1 := (List.cons.inj hn).1
    have e2 := (List.cons.inj hB).1
    simp only [List.getElem_cons_zero, List.getElem_cons_succ] at e0 e1 e2
    rw [e0, e1, e2]
instance : Inhabited KAct := ⟨⟨0, 0, []⟩⟩
theorem open_kacts {a : Option Addr} {len cap : Nat} {d : DataW H} {ps : List MemPlace} (h : DataW.Trod enc Try.prog w base (fun _ => true) held 55 (.slice a len cap) d ps) :
    ∃ xs : List KAct, len = xs.length ∧ KActs w a xs := by
  obtain ⟨fuel, hf⟩ := h
  rcases open_slice Try.underlying55 hf with ⟨hcs, _⟩ | ⟨a', len', cap', m, n, D, Pl, hcs, hb, hl, hm, hmm, hx, each⟩
  · simp [Value.cells] at hcs
    obtain ⟨rfl, rfl, rfl⟩ := hcs
    exact ⟨[], rfl, fun i hi => by simp at hi⟩
  · simp [Value.cells] at hcs
    obtain ⟨rfl, rfl, rfl⟩ := hcs
    have hlm : len ≤ m := by rw [hmm]; simp; exact hl
    have one : ∀ i, i < len → ∃ q : KAct, ∃ ad cap, w.cell? (a'.add (i * 3)) = some (.int .i64 q.way) ∧ w.cell? (a'.add (i * 3 + 1)) = some (.int .i64 q.peer) ∧ w.cell? (a'.add (i * 3 + 2)) = some (.slice ad q.more.length cap) ∧ Reads w ad (ints q.more) ∧ q.more.length ≤ cap := by
      intro i hi
      obtain ⟨cs', h1, h2⟩ := each i (by omega)
      rw [cellsK61] at h1
      obtain ⟨_, hlen, hcell⟩ := World.cells?_some h1
      obtain ⟨q, ad, cp, hcc, r1, r2⟩ := trod_kact h2
      subst hcc
      have g0 := hcell 0 (by omega)
      have g1 := hcell 1 (by omega)
      have g2 := hcell 2 (by omega)
      rw [Deep.add_add] at g0 g1 g2
      exact ⟨q, ad, cp, g0, g1, g2, r1, r2⟩
    obtain ⟨q, hq⟩ := choose_lt one
    refine ⟨(List.range len).map q, by simp, fun i hi => ?_⟩
    have hi' : i < len := by simpa using hi
    obtain ⟨_, _, q0, _⟩ := hq 0 (by omega)
    rw [Nat.zero_mul] at q0
    have hs := spot_none q0
    have e0 : a'.add 0 = a' := by simp [Addr.add]
    rw [e0] at hs
    obtain ⟨ad, cp, q1, q2, q3, r1, r2⟩ := hq i hi'
    rw [hs] at q1 q2 q3
    simp only [Addr.add_lit] at q1 q2 q3
    have hxi : ((List.range len).map q)[i] = q i := by simp
    rw [hxi]
    exact ⟨a'.block, a'.off, ad, cp, congrArg some hs, (by have := World.block_lt_of_cell? _ _ q1; exact this), q1, q2, q3, r1, r2⟩
end Go.Proofs.Ytbkcopejclcfdaa

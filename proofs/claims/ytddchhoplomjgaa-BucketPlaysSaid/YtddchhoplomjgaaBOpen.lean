/- A slice of acts that came in: opened. -/
import Derived.Test.YtddchhoplomjgaaBPlays
import Derived.Test.YtddchhoplomjgaaNums
import Derived.Deep.Slices
import Derived.OpenShut
import Derived.DataReads
namespace Go.Proofs.Ytddchhoplomjgaa
open Go.RowKit Go.ChangeShapes Go.Deep
theorem cells5 : Try.prog.cellsOf 5 = 1 := by kernel_rfl
theorem cells3 : Try.prog.cellsOf 3 = 1 := by kernel_rfl
theorem cells4 : Try.prog.cellsOf 4 = 1 := by kernel_rfl
theorem cells52 : Try.prog.cellsOf 52 = 20 := by kernel_rfl
theorem cells54 : Try.prog.cellsOf 54 = 21 := by kernel_rfl
theorem cells63 : Try.prog.cellsOf 63 = 22 := by kernel_rfl
theorem slice_one (l : List Value) (i : Nat) (h : i < l.length) : (l.drop i).take 1 = [l[i]] := by
  rw [List.drop_eq_getElem_cons h, List.take_succ_cons, List.take_zero]
def numV : Value → Int | .int _ n => n | _ => 0
variable {H : Type} {enc : TypeId × Value → H} {w : World} {base : Nat} {spare : Nat → Bool} {held : Bool}
theorem trod_key {fuel : Nat} {cs : List Value} {x : DataW H × List MemPlace} (h : DataW.trod enc Try.prog w base spare held fuel 52 cs = some x) : ∃ ks : List Int, ks.length = 20 ∧ cs = ks.map (Value.int .u8) := by
  obtain ⟨xs, m, _, _, hl0, hl, he⟩ := DataW.trod_array Try.underlying52 h
  rw [cells52] at hl0
  refine ⟨cs.map numV, by simp [hl0], ?_⟩
  apply List.ext_getElem
  · simp
  · intro i h1 h2
    have hi : i < 20 := by omega
    have h3 := he i hi
    rw [cells5, Nat.mul_one, slice_one _ i h1, List.getElem?_eq_getElem (by omega)] at h3
    obtain ⟨n, hn, _, _⟩ := DataW.trod_int Try.underlying5 h3
    have hn' := (List.cons.inj hn).1
    simp only [List.getElem_map]
    rw [hn']
    rfl
theorem trod_con {fuel : Nat} {cs : List Value} {x : DataW H × List MemPlace} (h : DataW.trod enc Try.prog w base spare held fuel 54 cs = some x) : ∃ c : Con, cs = c.cells ∧ c.byt := by
  obtain ⟨xs, m, _, _, hl0, hl, he⟩ := DataW.trod_struct Try.underlying54 h
  rw [cells54] at hl0
  replace hl : xs.length = 2 := hl
  have h0 := he 0 _ rfl
  have h1 := he 1 _ rfl
  rw [List.getElem?_eq_getElem (by omega)] at h0 h1
  replace h0 : DataW.trod enc Try.prog w base spare held m 3 ((cs.drop 0).take (Try.prog.cellsOf 3)) = some xs[0] := h0
  replace h1 : DataW.trod enc Try.prog w base spare held m 52 ((cs.drop 1).take (Try.prog.cellsOf 52)) = some xs[1] := h1
  rw [cells3, slice_one _ 0 (by omega)] at h0
  obtain ⟨n, hn, _, _⟩ := DataW.trod_int Try.underlying3 h0
  rw [cells52, List.take_of_length_le (by rw [List.length_drop]; omega)] at h1
  obtain ⟨ks, hk, hk2⟩ := trod_key h1
  refine ⟨⟨n, cs.drop 1⟩, ?_, ks, hk, hk2⟩
  show cs = .int .i64 n :: cs.drop 1
  rw [← (List.cons.inj hn).1]
  have := List.drop_eq_getElem_cons (l := cs) (i := 0) (by omega)
  rw [List.drop_zero] at this
  exact this
theorem trod_act {fuel : Nat} {cs : List Value} {x : DataW H × List MemPlace} (h : DataW.trod enc Try.prog w base spare held fuel 63 cs = some x) : ∃ (d : Bool) (c : Con), cs = .bool d :: c.cells ∧ c.byt := by
  obtain ⟨xs, m, _, _, hl0, hl, he⟩ := DataW.trod_struct Try.underlying63 h
  rw [cells63] at hl0
  replace hl : xs.length = 2 := hl
  have h0 := he 0 _ rfl
  have h1 := he 1 _ rfl
  rw [List.getElem?_eq_getElem (by omega)] at h0 h1
  replace h0 : DataW.trod enc Try.prog w base spare held m 4 ((cs.drop 0).take (Try.prog.cellsOf 4)) = some xs[0] := h0
  replace h1 : DataW.trod enc Try.prog w base spare held m 54 ((cs.drop 1).take (Try.prog.cellsOf 54)) = some xs[1] := h1
  rw [cells4, slice_one _ 0 (by omega)] at h0
  obtain ⟨d, hd, _⟩ := DataW.trod_bool Try.underlying4 h0
  rw [cells54, List.take_of_length_le (by rw [List.length_drop]; omega)] at h1
  obtain ⟨c, hc, hb⟩ := trod_con h1
  refine ⟨d, c, ?_, hb⟩
  rw [← (List.cons.inj hd).1, ← hc]
  have := List.drop_eq_getElem_cons (l := cs) (i := 0) (by omega)
  rw [List.drop_zero] at this
  exact this
instance : Inhabited Con := ⟨zCon⟩
theorem open_acts {a : Option Addr} {len cap : Nat} {d : DataW H} {ps : List MemPlace} (h : DataW.Trod enc Try.prog w base (fun _ => true) held 58 (.slice a len cap) d ps) :
    ∃ xs : List (Bool × Con), len = xs.length ∧ Acts w a xs := by
  obtain ⟨fuel, hf⟩ := h
  rcases open_slice Try.underlying58 hf with ⟨hcs, _⟩ | ⟨a', len', cap', m, n, D, Pl, hcs, hb, hl, hm, hmm, hx, each⟩
  · simp [Value.cells] at hcs
    obtain ⟨rfl, rfl, rfl⟩ := hcs
    exact ⟨[], rfl, fun i hi => by simp at hi⟩
  · simp [Value.cells] at hcs
    obtain ⟨rfl, rfl, rfl⟩ := hcs
    have hlm : len ≤ m := by rw [hmm]; simp; exact hl
    have one : ∀ i, i < len → ∃ q : Bool × Con, w.cell? (a'.add (i * 22)) = some (.bool q.1) ∧ (∀ j u, q.2.cells[j]? = some u → w.cell? (a'.add (i * 22 + (1 + j))) = some u) ∧ q.2.byt := by
      intro i hi
      obtain ⟨cs', h1, h2⟩ := each i (by omega)
      rw [cells63] at h1
      obtain ⟨_, hlen, hcell⟩ := World.cells?_some h1
      obtain ⟨d, c, hcc, hbt⟩ := trod_act h2
      subst hcc
      refine ⟨(d, c), ?_, fun j u hj => ?_, hbt⟩
      · have := hcell 0 (by omega)
        rw [add_add, Nat.add_zero] at this
        exact this
      · have hj2 : j < c.cells.length := (List.getElem?_eq_some_iff.1 hj).1
        have := hcell (1 + j) (by simp at hlen; omega)
        rw [add_add] at this
        rw [this, Nat.add_comm 1 j]
        simpa using hj
    obtain ⟨q, hq⟩ := choose_lt one
    refine ⟨(List.range len).map q, by simp, fun i hi => ?_⟩
    have hi' : i < len := by simpa using hi
    obtain ⟨q0, _, _⟩ := hq 0 (by omega)
    rw [Nat.zero_mul] at q0
    have hs := spot_none q0
    have e0 : a'.add 0 = a' := by simp [Addr.add]
    rw [e0] at hs
    obtain ⟨q1, q2, q3⟩ := hq i hi'
    rw [hs] at q1 q2
    simp only [Addr.add_lit] at q1 q2
    have hxi : ((List.range len).map q)[i] = q i := by simp
    rw [hxi]
    exact ⟨a'.block, a'.off, congrArg some hs, (by have := World.block_lt_of_cell? _ _ q1; exact this), q1, fun j u hu => by rw [Nat.add_assoc, Nat.add_assoc]; exact q2 j u hu, q3⟩
theorem bplays_all (W : World) (A : Option Addr) (n cap : Nat) (xs : List (Bool × Con)) (hn : n = xs.length) (ha : Acts W A xs) : Calls Try.prog 7 #[.slice A n cap] W fun e W' => e = .returned (.bool true) ∧ Below W.heap.size W W' := by
  by_cases h : n ≤ 100
  · exact bplays_in W A n cap xs hn h ha
  · exact bplays_out W A n cap (by omega)
end Go.Proofs.Ytddchhoplomjgaa

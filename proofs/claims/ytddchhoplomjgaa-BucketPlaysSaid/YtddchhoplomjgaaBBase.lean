/- Contacts; a bucket as it lies in the world; the closure of place; IndexFunc. -/
import Derived.Test.YtddchhoplomjgaaBRow
import Derived.Deep.MidRow
import Derived.Outline
import Derived.IntWalk
import Derived.Deep.LoopGhost
namespace Go.Proofs.Ytddchhoplomjgaa
open Go.RowKit Go.Proofs.YtddchhoplomjgaaW.PrintLast
set_option linter.unusedVariables false
set_option linter.unusedSimpArgs false
/-- a contact: a peer, and the cells of a key -/
structure Con where
  peer : Int
  key : List Value
def Con.cells (c : Con) : List Value := .int .i64 c.peer :: c.key
def Con.ok (c : Con) : Prop := c.key.length = 20 ∧ ∀ u ∈ c.key, u.oneCell' = true
theorem Con.len {c : Con} (h : c.ok) : c.cells.length = 21 := by simp [Con.cells, h.1]
theorem Con.one {c : Con} (h : c.ok) : ∀ u ∈ c.cells, u.oneCell' = true := fun u hu => by
  rcases List.mem_cons.1 hu with rfl | hu
  · rfl
  · exact h.2 u hu
def cons (l : List Con) : List Value := l.flatMap Con.cells
def Oks (l : List Con) : Prop := ∀ c ∈ l, c.ok
theorem cons_length {l : List Con} (h : Oks l) : (cons l).length = l.length * 21 := by
  induction l with
  | nil => rfl
  | cons x l ih =>
    have h1 := Con.len (h x (by simp))
    have h2 := ih (fun c hc => h c (by simp [hc]))
    unfold cons at *
    rw [List.flatMap_cons, List.length_append, h1, h2, List.length_cons]
    omega
theorem cons_append (a b : List Con) : cons (a ++ b) = cons a ++ cons b := by simp [cons]
theorem cons_one {l : List Con} (h : Oks l) : ∀ u ∈ cons l, u.oneCell' = true := fun u hu => by
  obtain ⟨x, hx, hu⟩ := List.mem_flatMap.1 hu
  exact Con.one (h x hx) u hu
theorem Oks.append {a b : List Con} (ha : Oks a) (hb : Oks b) : Oks (a ++ b) := fun c hc => by
  rcases List.mem_append.1 hc with h | h
  · exact ha c h
  · exact hb c h
theorem cons_take {l : List Con} (h : Oks l) (k : Nat) (hk : k ≤ l.length) : (cons l).take (k * 21) = cons (l.take k) := by
  have e : cons l = cons (l.take k) ++ cons (l.drop k) := by rw [← cons_append, List.take_append_drop]
  have hl := cons_length (l := l.take k) (fun c hc => h c (List.mem_of_mem_take hc))
  rw [List.length_take, Nat.min_eq_left hk] at hl
  rw [e, ← hl, List.take_left]
theorem cons_drop {l : List Con} (h : Oks l) (k : Nat) (hk : k ≤ l.length) : (cons l).drop (k * 21) = cons (l.drop k) := by
  have e : cons l = cons (l.take k) ++ cons (l.drop k) := by rw [← cons_append, List.take_append_drop]
  have hl := cons_length (l := l.take k) (fun c hc => h c (List.mem_of_mem_take hc))
  rw [List.length_take, Nat.min_eq_left hk] at hl
  rw [e, ← hl, List.drop_left]
theorem cons_get {l : List Con} (h : Oks l) (k : Nat) (hk : k < l.length) (j : Nat) (u : Value) (hu : l[k].cells[j]? = some u) : (cons l)[k * 21 + j]? = some u := by
  have e := cons_drop h k (by omega)
  have h1 : (cons l)[k * 21 + j]? = ((cons l).drop (k * 21))[j]? := by rw [List.getElem?_drop]
  rw [h1, e, List.drop_eq_getElem_cons hk]
  have hj : j < l[k].cells.length := (List.getElem?_eq_some_iff.1 hu).1
  show (l[k].cells ++ cons (l.drop (k + 1)))[j]? = some u
  rw [List.getElem?_append_left hj]
  exact hu
/-- where the first contact of a peer stands -/
def idxP (peer : Int) : List Con → Option Nat
  | [] => none
  | c :: l => if c.peer = peer then some 0 else (idxP peer l).map (· + 1)
def idxI (peer : Int) (l : List Con) : Int := match idxP peer l with
  | none => -1
  | some i => i
theorem info54 : (Try.prog.info? 54).map (·.size) = some 21 := by kernel_rfl
set_option maxHeartbeats 400000 in
theorem plc_any (W : World) (b1 : Nat) (peer : Int) (c : Con) (hc : c.ok) (h1 : W.cell? ⟨b1, 0, none⟩ = some (.int .i64 peer)) :
    Calls Try.prog 48 #[.agg c.cells.toArray, .pointer (some ⟨b1, 0, none⟩)] W fun e W' => e = .returned (.bool (c.peer == peer)) ∧ Below W.heap.size W W' := by
  have l1 := World.block_lt_of_cell? _ _ h1
  dsimp only at l1
  obtain ⟨q, k⟩ := c
  have c0 : (W.alloc (.cells (Con.cells ⟨q, k⟩).toArray 54)).cell? ⟨W.heap.size, 0, none⟩ = some (.int .i64 q) := by rw [World.cell?_alloc_new]; rfl
  generalize (Con.cells ⟨q, k⟩).toArray = arr at c0
  go_enter Try.func48, Try.ntmps48
  go_wp2
  go_ret
  exact ⟨rfl, (Below.refl _ _).alloc (Nat.le_refl _) _⟩
end Go.Proofs.Ytddchhoplomjgaa

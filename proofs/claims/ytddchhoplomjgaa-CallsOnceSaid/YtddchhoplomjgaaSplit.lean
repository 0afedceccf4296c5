/- split's walk, with Take's closure and with Late's. -/
import Derived.Test.YtddchhoplomjgaaClo
import Derived.Deep.LoopGhost
namespace Go.Proofs.Ytddchhoplomjgaa
open Go.RowKit Go.Proofs.YtddchhoplomjgaaW.PrintLast
set_option linter.unusedVariables false
set_option linter.unusedSimpArgs false
theorem cells_length (l : List CallR) : (l.flatMap CallR.cells).length = l.length * 4 := by
  induction l with
  | nil => rfl
  | cons x l ih => rw [List.flatMap_cons, List.length_append, ih, List.length_cons]; simp [CallR.cells]; omega
theorem cells_get (l : List CallR) (k j : Nat) (hk : k < l.length) (hj : j < 4) : (l.flatMap CallR.cells)[k * 4 + j]? = l[k].cells[j]? := by
  induction l generalizing k with
  | nil => simp at hk
  | cons x l ih =>
    rw [List.flatMap_cons]
    cases k with
    | zero =>
      rw [List.getElem?_append_left (by simp [CallR.cells]; omega)]
      simp
    | succ k =>
      rw [List.getElem?_append_right (by simp [CallR.cells]; omega)]
      simp only [List.length_cons] at hk
      have e := ih k (by omega)
      simp only [List.getElem_cons_succ]
      rw [← e]
      congr 1
      simp [CallR.cells]
      omega
theorem CO.get {W : World} {p g cap : Nat} {l : List CallR} {last : Int} (h : CO W p (some ⟨g, 0, none⟩) cap l last) (k j : Nat) (hk : k < l.length) (hj : j < 4) : W.cell? ⟨g, k * 4 + j, none⟩ = l[k].cells[j]? := by
  obtain ⟨u, hu⟩ : ∃ u, l[k].cells[j]? = some u := by
    have : j < l[k].cells.length := by simp [CallR.cells]; exact hj
    exact ⟨_, List.getElem?_eq_getElem this⟩
  have := h.own.cells (g := g) rfl (k * 4 + j) u (by rw [cells_get l k j hk hj]; exact hu)
  rw [Addr.add_lit, Nat.zero_add] at this
  rw [this, hu]
/-- the rounds of split -/
structure SR (W wr : World) (l : List CallR) (is : CallR → Bool) (k : Nat) (o f : Value) : Prop where
  bel : Below W.heap.size W wr
  own1 : wr.ownsRow W.heap.size 30 4 o ((l.take k).filter is).length (((l.take k).filter is).flatMap CallR.cells)
  own2 : wr.ownsRow W.heap.size 30 4 f ((l.take k).filter (fun x => !is x)).length (((l.take k).filter (fun x => !is x)).flatMap CallR.cells)
  ne : ∀ k, o.ownBlock = some k → f.ownBlock ≠ some k
theorem take_one (l : List CallR) (k : Nat) (hk : k < l.length) (q : CallR → Bool) : (l.take (k + 1)).filter q = (l.take k).filter q ++ if q l[k] then [l[k]] else [] := by
  rw [List.take_succ_eq_append_getElem hk, List.filter_append]
  cases h : q l[k] <;> simp [h]
theorem own_lt {w : World} {B : Nat} {e : TypeId} {size n k : Nat} {v : Value} {xs : List Value} (h : w.ownsRow B e size v n xs) (hk : v.ownBlock = some k) : k < w.heap.size := (h.lt k hk).2
theorem SR.take1 {W wr w1 w2 : World} {l : List CallR} {is : CallR → Bool} {k : Nat} {o f o' : Value} (h : SR W wr l is k o f) (hk : k < l.length) (hx : is l[k] = true)
    (T : Turns (fun _ => False) wr w1) (own' : w2.ownsRow W.heap.size 30 4 o' (((l.take k).filter is).length + 1) (((l.take k).filter is).flatMap CallR.cells ++ l[k].cells))
    (T2 : Turns (fun k => o.ownBlock = some k) w1 w2) (F : Fresh w1 o o') : SR W w2 l is (k + 1) o' f := by
  have hs := h.bel.size
  have ow1 := T.own h.own1 (fun _ _ h => h)
  have ow2 := T.own h.own2 (fun _ _ h => h)
  refine ⟨h.bel.trans ((T.below h.bel.size (fun _ _ h => h)).trans (T2.below (Nat.le_trans hs T.size) (fun k hk hF => by have := (ow1.lt k hF).1; omega))), ?_, ?_, ?_⟩
  · rw [take_one l k hk, hx]
    simp only [if_true, List.length_append, List.flatMap_append]
    simpa using own'
  · rw [take_one l k hk, hx]
    simp only [Bool.not_true, Bool.false_eq_true, if_false, List.append_nil]
    exact T2.own ow2 (fun k hk hF => h.ne k hF hk)
  · intro k hk hf
    rcases F with F | ⟨b, F1, F2⟩
    · exact h.ne k (by rw [← F]; exact hk) hf
    · rw [F1] at hk
      injection hk with hk
      have := own_lt ow2 hf
      omega
theorem SR.take2 {W wr w1 w2 : World} {l : List CallR} {is : CallR → Bool} {k : Nat} {o f f' : Value} (h : SR W wr l is k o f) (hk : k < l.length) (hx : is l[k] = false)
    (T : Turns (fun _ => False) wr w1) (own' : w2.ownsRow W.heap.size 30 4 f' (((l.take k).filter (fun x => !is x)).length + 1) (((l.take k).filter (fun x => !is x)).flatMap CallR.cells ++ l[k].cells))
    (T2 : Turns (fun k => f.ownBlock = some k) w1 w2) (F : Fresh w1 f f') : SR W w2 l is (k + 1) o f' := by
  have hs := h.bel.size
  have ow1 := T.own h.own1 (fun _ _ h => h)
  have ow2 := T.own h.own2 (fun _ _ h => h)
  refine ⟨h.bel.trans ((T.below h.bel.size (fun _ _ h => h)).trans (T2.below (Nat.le_trans hs T.size) (fun k hk hF => by have := (ow2.lt k hF).1; omega))), ?_, ?_, ?_⟩
  · rw [take_one l k hk, hx]
    simp only [Bool.false_eq_true, if_false, List.append_nil]
    exact T2.own ow1 (fun k hk hF => h.ne k hk hF)
  · rw [take_one l k hk, hx]
    simp only [Bool.not_false, if_true, List.length_append, List.flatMap_append]
    simpa using own'
  · intro k hk hf
    rcases F with F | ⟨b, F1, F2⟩
    · exact h.ne k hk (by rw [← F]; exact hf)
    · rw [F1] at hf
      injection hf with hf
      have := own_lt ow1 hk
      omega
def SplitPost (W : World) (p : Nat) (is : CallR → Bool) (l : List CallR) (last : Int) (e : Ending) (W' : World) : Prop :=
  ∃ ad1 cap1 ad2 cap2, e = .returned (.slice ad1 (l.filter is).length cap1) ∧ W'.ownsRow W.heap.size 30 4 (.slice ad1 (l.filter is).length cap1) (l.filter is).length ((l.filter is).flatMap CallR.cells) ∧
    CO W' p ad2 cap2 (l.filter (fun x => !is x)) last ∧ (∀ k, (Value.slice ad2 (l.filter (fun x => !is x)).length cap2).ownBlock = some k → W.heap.size ≤ k) ∧ Turns (fun k => k = p) W W'
theorem take1_at (W : World) (b1 b2 : Nat) (tag peer xt xo xp xu : Int) (r : Bool) (hr : isTake tag peer ⟨xt, xo, xp, xu⟩ = r) (h1 : W.cell? ⟨b1, 0, none⟩ = some (.int .i64 tag)) (h2 : W.cell? ⟨b2, 0, none⟩ = some (.int .i64 peer)) :
    Calls Try.prog 36 #[.agg #[.int .i64 xt, .int .i64 xo, .int .i64 xp, .int .i64 xu], .pointer (some ⟨b1, 0, none⟩), .pointer (some ⟨b2, 0, none⟩)] W fun e W' => e = .returned (.bool r) ∧ Below W.heap.size W W' := by
  subst hr
  exact take1_any W b1 b2 tag peer ⟨xt, xo, xp, xu⟩ h1 h2
theorem late1_at (W : World) (b1 : Nat) (now xt xo xp xu : Int) (r : Bool) (hr : isLate now ⟨xt, xo, xp, xu⟩ = r) (h1 : W.cell? ⟨b1, 0, none⟩ = some (.int .i64 now)) :
    Calls Try.prog 38 #[.agg #[.int .i64 xt, .int .i64 xo, .int .i64 xp, .int .i64 xu], .pointer (some ⟨b1, 0, none⟩)] W fun e W' => e = .returned (.bool r) ∧ Below W.heap.size W W' := by
  subst hr
  exact late1_any W b1 now ⟨xt, xo, xp, xu⟩ h1
end Go.Proofs.Ytddchhoplomjgaa

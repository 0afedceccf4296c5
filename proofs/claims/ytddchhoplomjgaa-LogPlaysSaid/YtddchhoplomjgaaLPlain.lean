/- LogCrashes: the plain law of its pieces. -/
import Derived.Test.YtddchhoplomjgaaLCrash
namespace Go.Proofs.Ytddchhoplomjgaa
open Go.RowKit
/-- pieces one behind the other -/
def packs (rows : List (List Int)) : List Int := rows.flatMap packP
theorem packs_append (a b : List (List Int)) : packs (a ++ b) = packs a ++ packs b := by simp [packs]
theorem packs_cons (r : List Int) (a : List (List Int)) : packs (r :: a) = packP r ++ packs a := by simp [packs]
theorem packs_nil : packs [] = [] := rfl
def Short (rows : List (List Int)) : Prop := ∀ r ∈ rows, r.length ≤ 65535
theorem Short.append {a b : List (List Int)} (ha : Short a) (hb : Short b) : Short (a ++ b) := fun r hr => by
  rcases List.mem_append.1 hr with h | h
  · exact ha r h
  · exact hb r h
theorem Short.take {a : List (List Int)} (h : Short a) (k : Nat) : Short (a.take k) := fun r hr => h r (List.mem_of_mem_take hr)
theorem allP_packs : ∀ {rows : List (List Int)}, Short rows → allP (packs rows) = rows
  | [], _ => allP_nil
  | r :: rs, h => by
    rw [packs_cons, allP_pack r _ (h r (by simp)), allP_packs (fun q hq => h q (by simp [hq]))]
/-- a piece cut short is none -/
theorem nextP_cut (r rest : List Int) (m : Nat) (h : r.length ≤ 65535) (hm : m < (packP r).length) : nextP ((packP r ++ rest).take m) = none := by
  have e : packP r ++ rest = ((r.length / 256 : Nat) : Int) :: ((r.length % 256 : Nat) : Int) :: (r ++ rest) := by simp [packP]
  have e1 : (((r.length / 256 : Nat) : Int) * 256 + ((r.length % 256 : Nat) : Int)).toNat = r.length := by omega
  rw [packP_length] at hm
  rw [e]
  match m, hm with
  | 0, _ => rfl
  | 1, _ => rfl
  | m + 2, hm =>
    rw [List.take_succ_cons, List.take_succ_cons, nextP_cons, e1, if_neg]
    rw [List.length_take]
    omega
/-- what is whole of pieces that are cut -/
theorem cut_packs : ∀ (rows : List (List Int)) (m j : Nat), Short rows → j ≤ rows.length → (packs (rows.take j)).length ≤ m → (j < rows.length → m < (packs (rows.take (j + 1))).length) → wholeN ((packs rows).take m) = (packs (rows.take j)).length
  | [], m, j, _, hj, _, _ => by
    have : j = 0 := by simpa using hj
    subst this
    simp only [packs_nil, List.take_nil]
    exact wholeN_none rfl
  | r :: rs, m, 0, h, _, _, hlt => by
    have := hlt (by simp)
    rw [List.take_succ_cons, List.take_zero, packs_cons, packs_nil, List.append_nil] at this
    rw [packs_cons, List.take_zero, packs_nil, wholeN_none (nextP_cut r _ m (h r (by simp)) this)]
    rfl
  | r :: rs, m, j + 1, h, hj, hle, hlt => by
    rw [List.take_succ_cons, packs_cons, List.length_append] at hle
    have hr := h r (by simp)
    have e : (packs (r :: rs)).take m = packP r ++ (packs rs).take (m - (packP r).length) := by
      rw [packs_cons, List.take_append, List.take_of_length_le (by omega)]
    have hn := nextP_pack r ((packs rs).take (m - (packP r).length)) hr
    have hp : r.length + 2 = (packP r).length := by rw [packP_length]; omega
    rw [e, wholeN_some hn, hp, List.drop_left, cut_packs rs (m - (packP r).length) j (fun q hq => h q (by simp [hq])) (by simpa using hj) (by omega) (fun hlt2 => by
      have := hlt (by simp; exact hlt2)
      rw [List.take_succ_cons, packs_cons, List.length_append] at this
      omega), List.take_succ_cons, packs_cons, List.length_append]
/-- how many of the later pieces may be there -/
def jN (keep : Int) (rows : List (List Int)) : Nat := (List.range rows.length).foldl (fun acc i => if ((packs (rows.take (i + 1))).length : Int) ≤ keep then i + 1 else acc) 0
theorem jN_snoc (keep : Int) (rows : List (List Int)) (r : List Int) : jN keep (rows ++ [r]) = if ((packs (rows ++ [r])).length : Int) ≤ keep then rows.length + 1 else jN keep rows := by
  have hc : ∀ (l : List Nat) (acc : Nat), (∀ i ∈ l, i < rows.length) → l.foldl (fun acc i => if ((packs ((rows ++ [r]).take (i + 1))).length : Int) ≤ keep then i + 1 else acc) acc = l.foldl (fun acc i => if ((packs (rows.take (i + 1))).length : Int) ≤ keep then i + 1 else acc) acc := by
    intro l
    induction l with
    | nil => intro acc _; rfl
    | cons x l ih =>
      intro acc h
      have hx := h x (by simp)
      rw [List.foldl_cons, List.foldl_cons, List.take_append_of_le_length (by omega)]
      exact ih _ (fun i hi => h i (by simp [hi]))
  unfold jN
  rw [List.length_append, List.length_singleton, List.range_succ, List.foldl_append, hc _ _ (fun i hi => List.mem_range.1 hi)]
  simp only [List.foldl_cons, List.foldl_nil]
  rw [List.take_of_length_le (by simp)]
theorem packs_mono (rows : List (List Int)) {i j : Nat} (h : i ≤ j) : (packs (rows.take i)).length ≤ (packs (rows.take j)).length := by
  have e : rows.take j = rows.take i ++ (rows.drop i).take (j - i) := by
    rw [← List.take_append_drop i (rows.take j), List.take_take, Nat.min_eq_left h, List.drop_take]
  rw [e, packs_append, List.length_append]
  omega
theorem jN_spec (keep : Int) (rows : List (List Int)) : jN keep rows ≤ rows.length ∧ (jN keep rows = 0 ∨ ((packs (rows.take (jN keep rows))).length : Int) ≤ keep) ∧ ∀ i, jN keep rows < i → i ≤ rows.length → keep < ((packs (rows.take i)).length : Int) := by
  induction h : rows.length generalizing rows with
  | zero =>
    have : rows = [] := List.eq_nil_of_length_eq_zero h
    subst this
    exact ⟨Nat.le_refl _, .inl rfl, fun i h1 h2 => by omega⟩
  | succ n ih =>
    obtain ⟨init, r, rfl⟩ : ∃ init r, rows = init ++ [r] := ⟨rows.dropLast, rows.getLast (by intro e; rw [e] at h; simp at h), (List.dropLast_concat_getLast _).symm⟩
    rw [List.length_append, List.length_singleton] at h
    obtain ⟨h1, h2, h3⟩ := ih init (by omega)
    rw [jN_snoc]
    by_cases hc : ((packs (init ++ [r])).length : Int) ≤ keep
    · rw [if_pos hc]
      refine ⟨by omega, .inr ?_, fun i hi1 hi2 => by omega⟩
      rw [List.take_of_length_le (by simp)]
      exact hc
    · rw [if_neg hc]
      refine ⟨by omega, ?_, fun i hi1 hi2 => ?_⟩
      · rcases h2 with h2 | h2
        · exact .inl h2
        · right
          rw [List.take_append_of_le_length (by omega)]
          exact h2
      · by_cases hi : i ≤ init.length
        · rw [List.take_append_of_le_length hi]
          exact h3 i hi1 (by omega)
        · rw [List.take_of_length_le (by simp; omega)]
          omega
theorem packs_pos (rows : List (List Int)) : 2 * rows.length ≤ (packs rows).length := by
  induction rows with
  | nil => simp
  | cons r rs ih => rw [packs_cons, List.length_append, packP_length, List.length_cons]; omega
/-- what a crash leaves of pieces that were sure and later ones -/
theorem crash_packs (a b : List (List Int)) (keep : Int) (hb : Short b) : crashN (packs a ++ packs b) (packs a).length keep = (packs (a ++ b.take (jN keep b))).length := by
  obtain ⟨h1, h2, h3⟩ := jN_spec keep b
  have hE := crashE_le (keep := keep) (show (packs a).length ≤ (packs a ++ packs b).length by rw [List.length_append]; omega)
  have e : ((packs a ++ packs b).take (crashE (packs a).length (packs a ++ packs b).length keep)).drop (packs a).length = (packs b).take (crashE (packs a).length (packs a ++ packs b).length keep - (packs a).length) := by
    rw [List.drop_take, List.drop_left]
  unfold crashN
  rw [e, show (packs (a ++ b.take (jN keep b))).length = (packs a).length + (packs (b.take (jN keep b))).length from by rw [packs_append, List.length_append]]
  congr 1
  have htot := packs_mono b h1
  rw [List.take_of_length_le (Nat.le_refl b.length)] at htot
  refine cut_packs b _ _ hb h1 ?_ (fun hlt => ?_)
  · unfold crashE
    rw [List.length_append]
    rcases h2 with h2 | h2
    · rw [h2, List.take_zero, packs_nil]; simp
    · omega
  · have := h3 (jN keep b + 1) (by omega) (by omega)
    have hp := packs_pos (b.take (jN keep b + 1))
    rw [List.length_take] at hp
    unfold crashE
    rw [List.length_append]
    omega
theorem crash_again (b : List Int) (again : Int) : crashN b b.length again = b.length := by
  have h := crashN_le (keep := again) (Nat.le_refl b.length)
  omega
theorem take_packs (a b : List (List Int)) (j : Nat) : (packs a ++ packs b).take (packs (a ++ b.take j)).length = packs (a ++ b.take j) := by
  have e : packs a ++ packs b = packs (a ++ b.take j) ++ packs (b.drop j) := by
    have e2 : packs b = packs (b.take j) ++ packs (b.drop j) := by rw [← packs_append, List.take_append_drop]
    rw [packs_append a (b.take j), List.append_assoc, ← e2]
  rw [e, List.take_left]
theorem packs_len_le (rows : List (List Int)) (h : ∀ r ∈ rows, r.length ≤ 100) : (packs rows).length ≤ 102 * rows.length := by
  induction rows with
  | nil => simp [packs_nil]
  | cons r rs ih =>
    have h1 := h r (by simp)
    have h2 := ih (fun q hq => h q (by simp [hq]))
    rw [packs_cons, List.length_append, packP_length, List.length_cons]
    omega
end Go.Proofs.Ytddchhoplomjgaa

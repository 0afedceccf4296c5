/- TupleOther (chapter 6): Params that are of no block, and numbers that can't be, have no parts and no row; no condition. -/
import Derived.Test.YtenokchfabmkfaaTupTupleOther
import Derived.Test.YtenokchfabmkfaaPTupleOtherx5
namespace Go.Proofs.Ytenokchfabmkfaa.Pure
open Go.RowKit Go.Proofs.Ytenokchfabmkfaa.PTupleOther Go.Proofs.Ytenokchfabmkfaa.TupTupleOther Go.Proofs.YtenokchfabmkfaaW.PrintWords Go.Proofs.YtenokchfabmkfaaW.PrintLast Go.Proofs.Ytenokchfabmkfaa.Rand

theorem no_parts (K S H j esi : Int) (h : ¬ Has K S H j esi) (g : Nat → List Int → List Int → Option Bool) (hg : ∀ k, g k [] [] = some true) : Ev (fun k => (tuple_Row.f k K S H j esi).bind fun u => (tuple_Parts.f k K S H j esi).bind fun v => g k u v) true := by
  refine Ev.bind (row_no K S H j esi h) (Ev.bind (parts_no K S H j esi h) (Ev.congr (fun k => ?_) (Ev.now true)))
  exact hg k
theorem no_one (K S H j esi : Int) (h : ¬ Has K S H j esi) : Ev (fun k => (tuple_Row.f k K S H j esi).bind fun u => (tuple_Parts.f k K S H j esi).bind fun v => if (v.length : Int) > 0 then some false else if (u.length : Int) > 0 then some false else some ((strOfNums u).toList == (strOfNums ([] : List Int)).toList)) true :=
  no_parts K S H j esi h _ (fun k => by simp)

theorem j0_other (K S H j esi : Int) (b : Bool) : Ev (fun k => fountainlaw6_TupleOther.j0 k K S H j esi true b) true := by
  cases b with
  | true => exact Ev.step (f := fun _ => some true) (fun k => by rw [fountainlaw6_TupleOther.j0, if_pos rfl]) (Ev.now _)
  | false =>
    obtain ⟨p, q, r, e, hof, hright⟩ : ∃ p q r e, params_Of.f K = some (p, q, r, e) ∧ ((1 ≤ K ∧ K ≤ 40 ∧ S = 2 + K / 8 ∧ H = 2) ↔ (K = p ∧ S = q ∧ H = r) ∧ ¬ (K = 0 ∧ S = 0 ∧ H = 0)) := by
      by_cases hK : 1 ≤ K ∧ K ≤ 40
      · refine ⟨_, _, _, _, of_right K hK, ⟨fun h => ⟨⟨rfl, h.2.2.1, h.2.2.2⟩, by omega⟩, fun h => ⟨hK.1, hK.2, h.1.2.1, h.1.2.2⟩⟩⟩
      · refine ⟨_, _, _, _, of_wrong K (by omega), ⟨fun h => by omega, fun h => by omega⟩⟩
    have hno : ¬ Has K S H j esi → Ev (fun k => (tuple_Row.f k K S H j esi).bind fun u => (tuple_Parts.f k K S H j esi).bind fun v => if (v.length : Int) > 0 then some false else if (u.length : Int) > 0 then some false else some ((strOfNums u).toList == (strOfNums ([] : List Int)).toList)) true := no_one K S H j esi
    by_cases c1 : (K == p && (S == q && H == r)) = true
    · by_cases c2 : (!(K == 0) || (!(S == 0) || !(H == 0))) = true
      · have hr : 1 ≤ K ∧ K ≤ 40 ∧ S = 2 + K / 8 ∧ H = 2 := by
          refine hright.2 ⟨?_, ?_⟩
          · simp only [Bool.and_eq_true, beq_iff_eq] at c1
            exact c1
          · rintro ⟨rfl, rfl, rfl⟩
            simp at c2
        by_cases c3 : j ≥ 0
        · by_cases c4 : j ≤ 255
          · by_cases c5 : esi ≥ 0
            · by_cases c6 : esi < 16777216
              · have h : Has K S H j esi := ⟨hr, c3, c4, c5, c6⟩
                obtain ⟨l, d, hl, hd1, hd2, hev⟩ := parts_yes K S H j esi h
                obtain ⟨row, hrow, hrev, _⟩ := row_yes d K S H j esi h l hl hd2 hev
                have hlen := hl.facts.1
                refine Ev.step (f := fun k => (tuple_Row.f k K S H j esi).bind fun u => (tuple_Parts.f k K S H j esi).bind fun v => if (v.length : Int) > 0 then if esi < 16777216 then if (u.length : Int) > 0 then some true else some false else some false else if esi < 16777216 then some false else if (u.length : Int) > 0 then some false else some ((strOfNums u).toList == (strOfNums ([] : List Int)).toList)) (fun k => ?_) (Ev.bind hrev (Ev.bind hev (Ev.congr (fun k => ?_) (Ev.now true))))
                · rw [fountainlaw6_TupleOther.j0, if_neg (by decide), hof, Option.bind_some, if_pos c1, if_pos c2, if_pos c3, if_pos c4, if_pos c5]
                · rw [if_pos (by omega), if_pos c6, if_pos (by omega)]
              · have h : ¬ Has K S H j esi := fun hc => c6 hc.2.2.2.2
                refine Ev.step (f := fun k => (tuple_Row.f k K S H j esi).bind fun u => (tuple_Parts.f k K S H j esi).bind fun v => if (v.length : Int) > 0 then if esi < 16777216 then if (u.length : Int) > 0 then some true else some false else some false else if esi < 16777216 then some false else if (u.length : Int) > 0 then some false else some ((strOfNums u).toList == (strOfNums ([] : List Int)).toList)) (fun k => ?_) (no_parts K S H j esi h _ (fun k => ?_))
                · rw [fountainlaw6_TupleOther.j0, if_neg (by decide), hof, Option.bind_some, if_pos c1, if_pos c2, if_pos c3, if_pos c4, if_pos c5]
                · rw [if_neg (by decide), if_neg c6, if_neg (by decide)]
                  simp
            · exact Ev.step (fun k => by rw [fountainlaw6_TupleOther.j0, if_neg (by decide), hof, Option.bind_some, if_pos c1, if_pos c2, if_pos c3, if_pos c4, if_neg c5]) (hno fun hc => c5 hc.2.2.2.1)
          · exact Ev.step (fun k => by rw [fountainlaw6_TupleOther.j0, if_neg (by decide), hof, Option.bind_some, if_pos c1, if_pos c2, if_pos c3, if_neg c4]) (hno fun hc => c4 hc.2.2.1)
        · exact Ev.step (fun k => by rw [fountainlaw6_TupleOther.j0, if_neg (by decide), hof, Option.bind_some, if_pos c1, if_pos c2, if_neg c3]) (hno fun hc => c3 hc.2.1)
      · exact Ev.step (fun k => by rw [fountainlaw6_TupleOther.j0, if_neg (by decide), hof, Option.bind_some, if_pos c1, if_neg c2]) (hno fun hc => c2 (by
          have := hc.1.1
          have h0 : ¬ K = 0 := by omega
          simp [h0]))
    · exact Ev.step (fun k => by rw [fountainlaw6_TupleOther.j0, if_neg (by decide), hof, Option.bind_some, if_neg c1]) (hno fun hc => c1 (by
        obtain ⟨⟨h1, h2, h3⟩, _⟩ := hright.1 hc.1
        simp only [Bool.and_eq_true, beq_iff_eq]
        exact ⟨h1, h2, h3⟩))

theorem TupleOther : fountainlaw6_TupleOther.Pure := by
  intro a0 a1 a2 a3 a4 _ _ _ _ _
  refine Ev.rounds ?_
  unfold fountainlaw6_TupleOther.f
  refine Ev.bind alive_ev ?_
  simp only [if_true]
  repeat' split
  all_goals exact j0_other _ _ _ _ _ _

end Go.Proofs.Ytenokchfabmkfaa.Pure

/- TupleTells (chapter 6): of which parts any symbol of any block is made, and its row, are the reference's; no condition. -/
import Derived.Test.YtenokchfabmkfaaTupTupleTells
namespace Go.Proofs.Ytenokchfabmkfaa.Pure
open Go.RowKit Go.Proofs.Ytenokchfabmkfaa.PTupleTells Go.Proofs.Ytenokchfabmkfaa.TupTupleTells Go.Proofs.YtenokchfabmkfaaW.PrintWords Go.Proofs.YtenokchfabmkfaaW.PrintLast Go.Proofs.Ytenokchfabmkfaa.Rand

/-- what the law does behind its guards -/
def body (k : Nat) (K P0 P1 P2 j esi : Int) : Option Bool := (tuple_Parts.f k P0 P1 P2 j esi).bind fun u1 => (fountainref1_Parts.f k K j esi).bind fun u2 => (fountainref1_SameInts.f k u1 u2).bind fun u3 => if u3 = true then (tuple_Row.f k P0 P1 P2 j esi).bind fun u4 => (fountainref1_Row.f k K j esi).bind fun u5 => some ((strOfNums u4).toList == (strOfNums u5).toList) else some false

theorem body_ev (K P0 P1 P2 j esi : Int) (l r : List Int) (hl : l.length ≤ 1000) (h1 : Ev (fun k => tuple_Parts.f k P0 P1 P2 j esi) l) (h2 : Ev (fun k => fountainref1_Parts.f k K j esi) l) (h3 : Ev (fun k => tuple_Row.f k P0 P1 P2 j esi) r) (h4 : Ev (fun k => fountainref1_Row.f k K j esi) r) : Ev (fun k => body k K P0 P1 P2 j esi) true := by
  unfold body
  refine Ev.bind h1 (Ev.bind h2 (Ev.bind (same_ev l hl) ?_))
  simp only [if_true]
  refine Ev.bind h3 (Ev.bind h4 (Ev.congr (fun k => ?_) (Ev.now true)))
  rw [beq_self_eq_true]

theorem j0_tells (K j esi : Int) (b : Bool) : Ev (fun k => fountainlaw6_TupleTells.j0 k K j esi true b) true := by
  cases b with
  | true => exact Ev.step (f := fun _ => some true) (fun k => by rw [fountainlaw6_TupleTells.j0, if_pos rfl]) (Ev.now _)
  | false =>
    by_cases hK : 1 ≤ K ∧ K ≤ 40
    · refine Ev.step (f := fun k => body k K K (2 + K / 8) 2 j esi) (fun k => ?_) ?_
      · rw [fountainlaw6_TupleTells.j0, if_neg (by decide), of_right K hK, Option.bind_some, body]
      · by_cases h : Has K (2 + K / 8) 2 j esi
        · obtain ⟨l, d, hl, hd1, hd2, hev⟩ := parts_yes K (2 + K / 8) 2 j esi h
          obtain ⟨r, hr, hrev, hr0⟩ := row_yes d K (2 + K / 8) 2 j esi h l hl hd2 hev
          have := hl.facts.1
          exact body_ev K K (2 + K / 8) 2 j esi l r (by omega) hev (refparts_yes K j esi h l hev) hrev (refrow_yes d K j esi h l hl hev r hr0)
        · exact body_ev K K (2 + K / 8) 2 j esi [] [] (by decide) (parts_no _ _ _ _ _ h) (refparts_no _ _ _ h) (row_no _ _ _ _ _ h) (refrow_no _ _ _ h)
    · refine Ev.step (f := fun k => body k K 0 0 0 j esi) (fun k => ?_) ?_
      · rw [fountainlaw6_TupleTells.j0, if_neg (by decide), of_wrong K (by omega), Option.bind_some, body]
      · have h : ¬ Has K (2 + K / 8) 2 j esi := fun hc => hK ⟨hc.1.1, hc.1.2.1⟩
        have h0 : ¬ Has 0 0 0 j esi := fun hc => absurd hc.1.1 (by decide)
        exact body_ev K 0 0 0 j esi [] [] (by decide) (parts_no _ _ _ _ _ h0) (refparts_no _ _ _ h) (row_no _ _ _ _ _ h0) (refrow_no _ _ _ h)

theorem TupleTells : fountainlaw6_TupleTells.Pure := by
  intro a0 a1 a2 _ _ _
  refine Ev.rounds ?_
  unfold fountainlaw6_TupleTells.f
  refine Ev.bind alive_ev ?_
  simp only [if_true]
  split
  · exact j0_tells _ _ _ _
  · exact j0_tells _ _ _ _

end Go.Proofs.Ytenokchfabmkfaa.Pure

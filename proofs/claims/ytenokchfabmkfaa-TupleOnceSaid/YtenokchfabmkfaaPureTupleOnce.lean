/- TupleOnce (chapter 6): a symbol's parts are unlike, all but the last are among the first W, and just one is behind these; no condition. -/
import Derived.Test.YtenokchfabmkfaaTupTupleOnce
namespace Go.Proofs.Ytenokchfabmkfaa.Pure
open Go.RowKit Go.Proofs.Ytenokchfabmkfaa.PTupleOnce Go.Proofs.Ytenokchfabmkfaa.TupTupleOnce Go.Proofs.YtenokchfabmkfaaW.PrintWords Go.Proofs.YtenokchfabmkfaaW.PrintLast Go.Proofs.Ytenokchfabmkfaa.Rand

theorem l1_once (l : List Int) (hlen : l.length ≤ 9) (i : Nat) (hi : i < l.length) (hne : ∀ n : Nat, n < i → rd l n ≠ rd l i) (s0 s1 s2 : Int) (hl0 : Ev (fun k => fountainlaw6_TupleOnce.l0 k l ((i + 1 : Nat) : Int) s0 s1 s2) true) :
    ∀ (m n : Nat), i - n = m → n ≤ i → Ev (fun k => fountainlaw6_TupleOnce.l1 k l (i : Int) (n : Int) s0 s1 s2) true := by
  have hwi : wrap64 ((i : Int) + 1) = ((i + 1 : Nat) : Int) := by
    unfold wrap64
    omega
  intro m
  induction m with
  | zero =>
    intro n hm hn
    refine Ev.step (fun k => ?_) hl0
    simp only [fountainlaw6_TupleOnce.l1]
    rw [if_neg (by omega), hwi]
  | succ m ih =>
    intro n hm hn
    have hwn : wrap64 ((n : Int) + 1) = ((n + 1 : Nat) : Int) := by
      unfold wrap64
      omega
    refine Ev.step (fun k => ?_) (ih (n + 1) (by omega) (by omega))
    simp only [fountainlaw6_TupleOnce.l1]
    rw [if_pos (by omega), if_pos (by omega), if_pos (by omega), if_pos (by omega), if_pos (by omega), if_neg (hne n (by omega)), hwn]

theorem l0_once (w h d : Nat) (l : List Int) (hp : PartsOk w h d l) (hd : d ≤ 8) (hw : w ≤ 1000) (hh : h ≤ 1000) (s0 s1 : Int) (hs : s0 + s1 = w) :
    ∀ (m i : Nat), l.length - i = m → i ≤ l.length → Ev (fun k => fountainlaw6_TupleOnce.l0 k l (i : Int) s0 s1 (h : Int)) true := by
  obtain ⟨hlen, hf, hne⟩ := hp.facts
  have hW : wrap64 (w : Int) = (w : Int) := by
    unfold wrap64
    omega
  have hL : wrap64 ((w : Int) + h) = (w : Int) + h := by
    unfold wrap64
    omega
  intro m
  induction m with
  | zero =>
    intro i hm hi
    refine Ev.step (f := fun _ => some true) (fun k => ?_) (Ev.now _)
    simp only [fountainlaw6_TupleOnce.l0]
    rw [if_neg (by omega)]
  | succ m ih =>
    intro i hm hi
    have h1 := hf i (by omega)
    have hl1 := l1_once l (by omega) i (by omega) (fun n hn => hne n i hn (by omega)) s0 s1 h (ih (i + 1) (by omega) (by omega)) i 0 (by omega) (by omega)
    have hj3 : Ev (fun k => fountainlaw6_TupleOnce.j3 k l (i : Int) false s0 s1 h) true := by
      refine Ev.step (fun k => ?_) hl1
      simp only [fountainlaw6_TupleOnce.j3]
      rw [if_neg (by decide)]
      rfl
    refine Ev.step (fun k => ?_) hj3
    simp only [fountainlaw6_TupleOnce.l0, params_Params_L.f, params_Params_W.f, Option.bind_some]
    rw [hs, hW, hL]
    have hlast : wrap64 ((l.length : Int) - 1) = (l.length : Int) - 1 := by
      unfold wrap64
      omega
    rw [if_pos (by omega), if_pos (by omega), if_neg (by omega), if_neg (by omega), hlast]
    have hb : (decide (rd l (i : Int) ≥ (w : Int)) != ((i : Int) == (l.length : Int) - 1)) = false := by
      by_cases e : i = d
      · have e1 : rd l (i : Int) ≥ (w : Int) := h1.2.2.1 e
        have e2 : (i : Int) = (l.length : Int) - 1 := by omega
        rw [decide_eq_true e1, beq_iff_eq.2 e2]
        rfl
      · have e1 : ¬ rd l (i : Int) ≥ (w : Int) := by
          have := h1.2.2.2 (by omega)
          omega
        have e2 : ¬ (i : Int) = (l.length : Int) - 1 := by omega
        rw [decide_eq_false e1, beq_eq_false_iff_ne.2 e2]
        rfl
    rw [hb]

theorem j0_once (a0 a1 a2 : Int) (b : Bool) (hb : b = false → 1 ≤ a0 ∧ a0 ≤ 40 ∧ 0 ≤ a1 ∧ a1 ≤ 255 ∧ 0 ≤ a2 ∧ a2 < 16777216) : Ev (fun k => fountainlaw6_TupleOnce.j0 k a0 a1 a2 true b) true := by
  cases b with
  | true => exact Ev.step (f := fun _ => some true) (fun k => by simp only [fountainlaw6_TupleOnce.j0, if_true]) (Ev.now _)
  | false =>
    obtain ⟨h1, h2, h3, h4, h5, h6⟩ := hb rfl
    obtain ⟨l, d, hl, hd1, hd2, hev⟩ := parts_yes a0 (2 + a0 / 8) 2 a1 a2 ⟨⟨h1, h2, rfl, rfl⟩, h3, h4, h5, h6⟩
    have hlen := hl.facts.1
    have hl0 := l0_once _ 2 d l hl hd2 (by omega) (by decide) a0 (2 + a0 / 8) (by omega) l.length 0 (by omega) (by omega)
    have hj1 : Ev (fun k => fountainlaw6_TupleOnce.j1 k l false a0 (2 + a0 / 8) 2) true := by
      refine Ev.step (fun k => ?_) hl0
      simp only [fountainlaw6_TupleOnce.j1]
      rw [if_neg (by decide)]
      rfl
    refine Ev.step (f := fun k => (tuple_Parts.f k a0 (2 + a0 / 8) 2 a1 a2).bind fun t => if (t.length : Int) < 2 then fountainlaw6_TupleOnce.j1 k t true a0 (2 + a0 / 8) 2 else fountainlaw6_TupleOnce.j1 k t (decide ((t.length : Int) > 9)) a0 (2 + a0 / 8) 2) (fun k => ?_) (Ev.bind hev ?_)
    · simp only [fountainlaw6_TupleOnce.j0]
      rw [of_right a0 ⟨h1, h2⟩, if_neg (by decide)]
      rfl
    · refine Ev.congr (fun k => ?_) hj1
      rw [if_neg (by omega), decide_eq_false (by omega)]

theorem TupleOnce : fountainlaw6_TupleOnce.Pure := by
  intro a0 a1 a2 _ _ _
  refine Ev.rounds ?_
  unfold fountainlaw6_TupleOnce.f
  refine Ev.bind alive_ev ?_
  simp only [if_true]
  repeat' split
  all_goals exact j0_once _ _ _ _ (fun h => by first | cases h | (have := of_decide_eq_false h; omega))

end Go.Proofs.Ytenokchfabmkfaa.Pure

/- DropsTell (chapter 8): which symbol any rows give, and which symbols, are the reference's; no condition. -/
import Derived.Test.YtenokchfabmkfaaTupDropsTell
namespace Go.Proofs.Ytenokchfabmkfaa.Pure
open Go.RowKit Go.Proofs.Ytenokchfabmkfaa.PDropsTell Go.Proofs.Ytenokchfabmkfaa.TupDropsTell Go.Proofs.YtenokchfabmkfaaW.PrintWords Go.Proofs.YtenokchfabmkfaaW.PrintLast Go.Proofs.Ytenokchfabmkfaa.Rand Go.Proofs.Ytenokchfabmkfaa.Sum

theorem bytes_of {c : List (List Int)} (h : ∀ row ∈ c, ∀ x ∈ row, (Lit.int .u8 x).wf = true) : ∀ row ∈ c, Bytes row := fun row hr x hx => by
  have := bounds_u8 (h row hr x hx)
  exact ⟨this.1, this.2⟩
theorem str_same (x : List Int) : ((strOfNums x).toList == (strOfNums x).toList) = true := beq_self_eq_true _

theorem same_ev (l : List (List Int)) (hlen : l.length ≤ 1000) : Ev (fun k => fountainref1_SameRows.f k l l) true := by
  have key : ∀ (d i : Nat), l.length - i = d → i ≤ l.length → Ev (fun k => fountainref1_SameRows.l0 k l l (i : Int)) true := by
    intro d
    induction d with
    | zero =>
      intro i hd hi
      refine Ev.step (f := fun _ => some true) (fun k => ?_) (Ev.now _)
      rw [fountainref1_SameRows.l0, if_neg (by omega)]
    | succ d ih =>
      intro i hd hi
      have hwi : wrap64 ((i : Int) + 1) = ((i + 1 : Nat) : Int) := by
        unfold wrap64
        omega
      refine Ev.step (fun k => ?_) (ih (i + 1) (by omega) (by omega))
      rw [fountainref1_SameRows.l0, if_pos (by omega), if_pos (by omega), if_pos (by omega), if_pos rfl, hwi]
  refine Ev.congr (fun k => ?_) (key l.length 0 (by omega) (by omega))
  rw [fountainref1_SameRows.f, if_pos rfl]
  rfl
theorem from_ev (l : List (List Int)) (hlen : l.length ≤ 1000) : Ev (fun k => fountainlaw2_From.f k l) l := by
  have key : ∀ (d i : Nat), l.length - i = d → i ≤ l.length → Ev (fun k => fountainlaw2_From.l0 k l (l.take i) (i : Int)) l := by
    intro d
    induction d with
    | zero =>
      intro i hd hi
      refine Ev.step (f := fun _ => some l) (fun k => ?_) (Ev.now _)
      rw [fountainlaw2_From.l0, if_neg (by omega), List.take_of_length_le (by omega)]
    | succ d ih =>
      intro i hd hi
      have hlt : i < l.length := by omega
      have hwi : wrap64 ((i : Int) + 1) = ((i + 1 : Nat) : Int) := by
        unfold wrap64
        omega
      refine Ev.step (fun k => ?_) (ih (i + 1) (by omega) (by omega))
      rw [fountainlaw2_From.l0, if_pos (by omega), if_pos (by omega), rdL_mem l i hlt, if_pos (by rw [List.length_take]; omega), hwi, ← List.take_succ_eq_append_getElem hlt]
  exact key l.length 0 (by omega) (by omega)

/-- the symbols of some numbers: all, or nothing -/
def all (D : Int → List Int) : List Int → List (List Int) → List (List Int)
  | [], acc => acc
  | e :: es, acc => if D e = [] then [] else all D es (acc ++ [D e])
theorem all_length (D : Int → List Int) : ∀ (es : List Int) (acc : List (List Int)), (all D es acc).length ≤ acc.length + es.length
  | [], acc => by simp [all]
  | e :: es, acc => by
    rw [all]
    split
    · simp
    · have := all_length D es (acc ++ [D e])
      simp at this ⊢
      omega
theorem rd_at (es : List Int) (i : Nat) (h : i < es.length) : rd es (i : Int) = es[i] := by
  rw [rd_nat, List.getD_eq_getElem?_getD, List.getElem?_eq_getElem h]
  rfl

theorem drops_ev (P0 P1 P2 j size : Int) (c : List (List Int)) (D : Int → List Int) (hD : ∀ e, Ev (fun k => drops_Drop.f k P0 P1 P2 j size c e) (D e)) (es : List Int) (hes : es.length ≤ 20) :
    Ev (fun k => drops_Drops.f k P0 P1 P2 j size c es) (all D es []) := by
  have key : ∀ (d i : Nat) (acc : List (List Int)), es.length - i = d → i ≤ es.length → acc.length = i → Ev (fun k => drops_Drops.l0 k j size c acc es (es.length : Int) (i : Int) P0 P1 P2) (all D (es.drop i) acc) := by
    intro d
    induction d with
    | zero =>
      intro i acc hd hi ha
      rw [List.drop_of_length_le (by omega)]
      refine Ev.step (f := fun _ => some acc) (fun k => ?_) (Ev.now _)
      rw [drops_Drops.l0, if_neg (by omega)]
    | succ d ih =>
      intro i acc hd hi ha
      have hlt : i < es.length := by omega
      have hwi : wrap64 ((i : Int) + 1) = ((i + 1 : Nat) : Int) := by
        unfold wrap64
        omega
      rw [List.drop_eq_getElem_cons hlt, all]
      refine Ev.step (f := fun k => (drops_Drop.f k P0 P1 P2 j size c es[i]).bind fun t => if (t.length : Int) = 0 then some [] else drops_Drops.l0 k j size c (acc ++ [t]) es (es.length : Int) ((i + 1 : Nat) : Int) P0 P1 P2) (fun k => ?_) (Ev.bind (hD es[i]) ?_)
      · have hacc : acc.length < 5864062014805 := by omega
        rw [drops_Drops.l0, if_pos (by omega), if_pos (by omega), if_pos (by omega), rd_at es i hlt, hwi]
        simp only [hacc, if_true]
      · by_cases h0 : D es[i] = []
        · rw [if_pos h0]
          refine Ev.congr (fun k => ?_) (Ev.now [])
          rw [h0, if_pos (by decide)]
        · rw [if_neg h0]
          refine Ev.congr (fun k => ?_) (ih (i + 1) (acc ++ [D es[i]]) (by omega) (by omega) (by simp; omega))
          rw [if_neg (fun h => h0 (List.eq_nil_of_length_eq_zero (by omega)))]
  refine Ev.congr (fun k => ?_) (key es.length 0 [] (by omega) (by omega) rfl)
  rw [drops_Drops.f]
  rfl

theorem l0_ev (K P0 P1 P2 j size : Int) (c : List (List Int)) (D : Int → List Int) (hD : ∀ e, Ev (fun k => drops_Drop.f k P0 P1 P2 j size c e) (D e)) (hR : ∀ e, Ev (fun k => fountainref1_Drop.f k K j size c e) (D e)) (es : List Int) (hes : es.length ≤ 20) :
    Ev (fun k => fountainlaw8_DropsTell.l0 k K j size c es c [] 0 P0 P1 P2) true := by
  have hl := all_length D es []
  simp only [List.length_nil, Nat.zero_add] at hl
  have hdr := drops_ev P0 P1 P2 j size c D hD es hes
  have key : ∀ (d i : Nat) (acc : List (List Int)), es.length - i = d → i ≤ es.length → acc.length = i → all D es [] = all D (es.drop i) acc → Ev (fun k => fountainlaw8_DropsTell.l0 k K j size c es c acc (i : Int) P0 P1 P2) true := by
    intro d
    induction d with
    | zero =>
      intro i acc hd hi ha hall
      rw [List.drop_of_length_le (by omega), all] at hall
      rw [hall] at hdr hl
      refine Ev.step (f := fun k => (drops_Drops.f k P0 P1 P2 j size c es).bind fun u => (fountainlaw2_From.f k u).bind fun v => (fountainref1_SameRows.f k v acc).bind fun r => some r) (fun k => ?_) (Ev.bind hdr (Ev.bind (from_ev acc (by omega)) (Ev.bind (same_ev acc (by omega)) (Ev.now true))))
      rw [fountainlaw8_DropsTell.l0, if_neg (by omega)]
    | succ d ih =>
      intro i acc hd hi ha hall
      have hlt : i < es.length := by omega
      have hwi : wrap64 ((i : Int) + 1) = ((i + 1 : Nat) : Int) := by
        unfold wrap64
        omega
      rw [List.drop_eq_getElem_cons hlt, all] at hall
      refine Ev.step (f := fun k => (fountainref1_Drop.f k K j size c es[i]).bind fun t => if (t.length : Int) = 0 then (drops_Drops.f k P0 P1 P2 j size c es).bind fun u => (fountainlaw2_From.f k u).bind fun v => (fountainref1_SameRows.f k v []).bind fun r => some r else fountainlaw8_DropsTell.l0 k K j size c es c (acc ++ [t]) ((i + 1 : Nat) : Int) P0 P1 P2) (fun k => ?_) (Ev.bind (hR es[i]) ?_)
      · have hacc : acc.length < 5864062014805 := by omega
        rw [fountainlaw8_DropsTell.l0, if_pos (by omega), if_pos (by omega), rd_at es i hlt, hwi]
        simp only [hacc, if_true]
      · by_cases h0 : D es[i] = []
        · rw [if_pos h0] at hall
          rw [hall] at hdr
          refine Ev.congr (f := fun k => (drops_Drops.f k P0 P1 P2 j size c es).bind fun u => (fountainlaw2_From.f k u).bind fun v => (fountainref1_SameRows.f k v []).bind fun r => some r) (fun k => ?_) (Ev.bind hdr (Ev.bind (from_ev [] (by decide)) (Ev.bind (same_ev [] (by decide)) (Ev.now true))))
          rw [h0, if_pos (by decide)]
        · rw [if_neg h0] at hall
          refine Ev.congr (fun k => ?_) (ih (i + 1) (acc ++ [D es[i]]) (by omega) (by omega) (by simp; omega) hall)
          rw [if_neg (fun h => h0 (List.eq_nil_of_length_eq_zero (by omega)))]
  exact key es.length 0 [] (by omega) (by omega) rfl rfl

theorem j0_tell (K j size esi : Int) (c : List (List Int)) (es : List Int) (hc : ∀ row ∈ c, Bytes row) (hr : ∀ row ∈ c, row.length ≤ 140737488351232) (b : Bool) (hb : b = false → c.length ≤ 60 ∧ es.length ≤ 20) : Ev (fun k => fountainlaw8_DropsTell.j0 k K j size c esi es true b) true := by
  cases b with
  | true => exact Ev.step (f := fun _ => some true) (fun k => by rw [fountainlaw8_DropsTell.j0, if_pos rfl]) (Ev.now _)
  | false =>
    obtain ⟨h60, h20⟩ := hb rfl
    obtain ⟨P0, P1, P2, E, hof, D, hD, hR⟩ : ∃ P0 P1 P2 E, params_Of.f K = some (P0, P1, P2, E) ∧ ∃ D : Int → List Int, (∀ e, Ev (fun k => drops_Drop.f k P0 P1 P2 j size c e) (D e)) ∧ ∀ e, Ev (fun k => fountainref1_Drop.f k K j size c e) (D e) := by
      by_cases hK : 1 ≤ K ∧ K ≤ 40
      · refine ⟨_, _, _, _, of_right K hK, ?_⟩
        have each : ∀ e : Int, ∃ r : List Int, Ev (fun k => drops_Drop.f k K (2 + K / 8) 2 j size c e) r ∧ Ev (fun k => fountainref1_Drop.f k K j size c e) r := by
          intro e
          by_cases h : Has K (2 + K / 8) 2 j e
          · obtain ⟨ps, _, _, hps⟩ := drop_yes K j size e h
            by_cases h2 : (c.length : Int) = K + (2 + K / 8) + 2 ∧ 1 ≤ size ∧ size ≤ 64
            · exact ⟨_, (hps c hc).2 h2⟩
            · exact ⟨_, (hps c hc).1 h2⟩
          · exact ⟨[], drop_no _ _ _ _ _ _ _ h, rdrop_no _ _ _ _ _ h⟩
        exact ⟨fun e => Classical.choose (each e), fun e => (Classical.choose_spec (each e)).1, fun e => (Classical.choose_spec (each e)).2⟩
      · refine ⟨_, _, _, _, of_wrong K (by omega), fun _ => [], fun e => drop_no _ _ _ _ _ _ _ (fun h => absurd h.1.1 (by decide)), fun e => rdrop_no _ _ _ _ _ (fun h => hK ⟨h.1.1, h.1.2.1⟩)⟩
    refine Ev.step (f := fun k => (fountainlaw2_To.f k c).bind fun u1 => (drops_Drop.f k P0 P1 P2 j size u1 esi).bind fun u2 => (fountainref1_Drop.f k K j size c esi).bind fun u3 => if (strOfNums u2).toList = (strOfNums u3).toList then fountainlaw8_DropsTell.l0 k K j size c es u1 [] 0 P0 P1 P2 else some false) (fun k => ?_) ?_
    · rw [fountainlaw8_DropsTell.j0, if_neg (by decide), hof, Option.bind_some]
    · refine Ev.bind (to_ev c (by omega) hr) (Ev.bind (hD esi) (Ev.bind (hR esi) ?_))
      refine Ev.congr (fun k => ?_) (l0_ev K P0 P1 P2 j size c D hD hR es h20)
      rw [if_pos rfl]

theorem DropsTell (k j size : Int) (c : List (List Int)) (esi : Int) (esis : List Int) (_ : (Lit.int .i64 k).wf = true) (_ : (Lit.int .i64 j).wf = true) (_ : (Lit.int .i64 size).wf = true) (_ : c.length * 24 ≤ reachBytes) (hy : ∀ row ∈ c, row.length * 1 ≤ reachBytes) (hw : ∀ row ∈ c, ∀ x ∈ row, (Lit.int .u8 x).wf = true) (_ : (Lit.int .i64 esi).wf = true) (_ : esis.length * 8 ≤ reachBytes) (_ : ∀ x ∈ esis, (Lit.int .i64 x).wf = true) : ∃ n, fountainlaw8_DropsTell.f n k j size c esi esis = some true := by
  have hc := bytes_of hw
  have hr : ∀ row ∈ c, row.length ≤ 140737488351232 := fun row h => by
    have := hy row h
    unfold reachBytes at this
    omega
  have no := fun b (hb : b = true) => j0_tell k j size esi c esis hc hr b (fun h => by rw [hb] at h; cases h)
  refine Ev.rounds ?_
  unfold fountainlaw8_DropsTell.f
  refine Ev.bind alive_ev ?_
  simp only [if_true]
  by_cases c1 : k < 0
  · simp only [c1, if_true]; exact no true rfl
  · simp only [c1, if_false]
    by_cases c2 : k > 45
    · simp only [c2, if_true]; exact no true rfl
    · simp only [c2, if_false]
      by_cases c3 : (c.length : Int) > 60
      · simp only [c3, if_true]; exact no true rfl
      · simp only [c3, if_false]
        obtain ⟨b, hb⟩ := few_ev c (by omega) hr
        refine Ev.bind hb ?_
        cases b with
        | true =>
          simp only [if_true]
          exact j0_tell k j size esi c esis hc hr _ (fun h => ⟨by omega, by have := of_decide_eq_false h; omega⟩)
        | false =>
          simp only [Bool.false_eq_true, if_false]
          exact no true rfl

end Go.Proofs.Ytenokchfabmkfaa.Pure

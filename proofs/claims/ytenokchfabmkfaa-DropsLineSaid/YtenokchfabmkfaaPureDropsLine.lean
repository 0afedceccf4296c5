/- DropsLine (chapter 8): the symbol of summed rows is the sum of their symbols; no condition. -/
import Derived.Test.YtenokchfabmkfaaTupDropsLine
namespace Go.Proofs.Ytenokchfabmkfaa.Pure
open Go.RowKit Go.Proofs.Ytenokchfabmkfaa.PDropsLine Go.Proofs.Ytenokchfabmkfaa.TupDropsLine Go.Proofs.YtenokchfabmkfaaW.PrintWords Go.Proofs.YtenokchfabmkfaaW.PrintLast Go.Proofs.Ytenokchfabmkfaa.Rand Go.Proofs.Ytenokchfabmkfaa.Sum

theorem bytes_of {c : List (List Int)} (h : ∀ row ∈ c, ∀ x ∈ row, (Lit.int .u8 x).wf = true) : ∀ row ∈ c, Bytes row := fun row hr x hx => by
  have := bounds_u8 (h row hr x hx)
  exact ⟨this.1, this.2⟩
theorem str_same (x : List Int) : ((strOfNums x).toList == (strOfNums x).toList) = true := beq_self_eq_true _


/-- the summed rows -/
def both (n : Nat) (a b : List (List Int)) : List (List Int) := (List.range a.length).map fun i => sumRows n [a.getD i [], b.getD i []]
theorem both_length (n : Nat) (a b : List (List Int)) : (both n a b).length = a.length := by simp [both]
theorem getL_bytes {a : List (List Int)} (h : ∀ row ∈ a, Bytes row) (i : Nat) : Bytes (a.getD i []) := by
  rw [List.getD_eq_getElem?_getD]
  by_cases hi : i < a.length
  · rw [List.getElem?_eq_getElem hi]
    exact h _ (List.getElem_mem hi)
  · rw [List.getElem?_eq_none (by omega)]
    intro x hx
    cases hx
theorem both_bytes (n : Nat) (a b : List (List Int)) (ha : ∀ row ∈ a, Bytes row) (hb : ∀ row ∈ b, Bytes row) : ∀ row ∈ both n a b, Bytes row := by
  intro row hr
  obtain ⟨i, _, rfl⟩ := List.mem_map.1 hr
  refine sumRows_bytes n _ (fun r hr => ?_)
  rcases List.mem_cons.1 hr with rfl | hr
  · exact getL_bytes ha i
  · rcases List.mem_cons.1 hr with rfl | hr
    · exact getL_bytes hb i
    · cases hr
theorem both_rows (n : Nat) (a b : List (List Int)) : ∀ row ∈ both n a b, row.length = n := by
  intro row hr
  obtain ⟨i, _, rfl⟩ := List.mem_map.1 hr
  exact sumRows_length _ _
theorem rdL_getD (a : List (List Int)) (i : Nat) : rd_L3 a (i : Int) = a.getD i [] := by simp [rd_L3]
theorem rdL_bytes {a : List (List Int)} (h : ∀ row ∈ a, Bytes row) (p : Int) : Bytes (rd_L3 a p) := getL_bytes h p.toNat

theorem l0_line (K j size esi : Int) (a b : List (List Int)) (hK : 1 ≤ K ∧ K ≤ 40) (hs : 1 ≤ size ∧ size ≤ 64) (h : Has K (2 + K / 8) 2 j esi) (ha : ∀ row ∈ a, Bytes row) (hb : ∀ row ∈ b, Bytes row) (hra : ∀ row ∈ a, row.length ≤ 140737488351232) (hrb : ∀ row ∈ b, row.length ≤ 140737488351232)
    (hla : (a.length : Int) = K + (2 + K / 8) + 2) (hlb : b.length = a.length) :
    ∀ (d i : Nat), a.length - i = d → i ≤ a.length → Ev (fun k => fountainlaw8_DropsLine.l0 k j size a b esi ((both size.toNat a b).take i) (i : Int) K (2 + K / 8) 2) true := by
  have hbl := both_length size.toNat a b
  intro d
  induction d with
  | zero =>
    intro i hd hi
    have hi' : i = a.length := by omega
    rw [List.take_of_length_le (by omega)]
    obtain ⟨ps, hps1, hps2, hps⟩ := drop_yes K j size esi h
    have hca := (hps a ha).2 ⟨hla, hs.1, hs.2⟩
    have hcb := (hps b hb).2 ⟨by omega, hs.1, hs.2⟩
    have hcc := (hps _ (both_bytes size.toNat a b ha hb)).2 ⟨by omega, hs.1, hs.2⟩
    have hta := to_ev a (by omega) hra
    have htb := to_ev b (by omega) hrb
    have htc := to_ev (both size.toNat a b) (by omega) (fun row hr => by have := both_rows size.toNat a b row hr; omega)
    have hx : ∀ (f : Int → List Int), (∀ p, Bytes (f p)) → ∀ row ∈ ps.map f, Bytes row := fun f hf row hr => by
      obtain ⟨p, _, rfl⟩ := List.mem_map.1 hr
      exact hf p
    have bx := sumRows_bytes size.toNat (ps.map fun p => rd_L3 a p) (hx _ (rdL_bytes ha))
    have bz := sumRows_bytes size.toNat (ps.map fun p => rd_L3 b p) (hx _ (rdL_bytes hb))
    have hsum := rsum_ev size [sumRows size.toNat (ps.map fun p => rd_L3 a p), sumRows size.toNat (ps.map fun p => rd_L3 b p)] ⟨by omega, by omega⟩ (fun row hr => by
      rcases List.mem_cons.1 hr with rfl | hr
      · exact bx
      · rcases List.mem_cons.1 hr with rfl | hr
        · exact bz
        · cases hr) (by simp)
    have hline : sumRows size.toNat (ps.map fun p => rd_L3 (both size.toNat a b) p) = sumRows size.toNat [sumRows size.toNat (ps.map fun p => rd_L3 a p), sumRows size.toNat (ps.map fun p => rd_L3 b p)] := by
      refine sum_line ps _ _ _ size.toNat (rdL_bytes ha) (rdL_bytes hb) (fun p hp => ?_)
      have hp2 := hps2 p hp
      obtain ⟨q, rfl⟩ := Int.eq_ofNat_of_zero_le hp2.1
      have hq : q < a.length := by omega
      rw [rdL_getD, rdL_getD, rdL_getD]
      simp [both, List.getD_eq_getElem?_getD, List.getElem?_map, List.getElem?_range hq]
    refine Ev.step (f := fun k => (fountainlaw2_To.f k a).bind fun u1 => (drops_Drop.f k K (2 + K / 8) 2 j size u1 esi).bind fun u2 => (fountainlaw2_To.f k b).bind fun u3 => (drops_Drop.f k K (2 + K / 8) 2 j size u3 esi).bind fun u4 => (fountainlaw2_To.f k (both size.toNat a b)).bind fun u5 => (drops_Drop.f k K (2 + K / 8) 2 j size u5 esi).bind fun u6 => if (u6.length : Int) = size then (fountainref1_Sum.f k size [u2, u4]).bind fun u7 => some ((strOfNums u6).toList == (strOfNums u7).toList) else some false) (fun k => ?_) ?_
    · rw [fountainlaw8_DropsLine.l0, if_neg (by omega)]
    · refine Ev.bind hta (Ev.bind hca (Ev.bind htb (Ev.bind hcb (Ev.bind htc (Ev.bind hcc ?_)))))
      refine Ev.congr (f := fun k => (fountainref1_Sum.f k size [sumRows size.toNat (ps.map fun p => rd_L3 a p), sumRows size.toNat (ps.map fun p => rd_L3 b p)]).bind fun u7 => some ((strOfNums (sumRows size.toNat (ps.map fun p => rd_L3 (both size.toNat a b) p))).toList == (strOfNums u7).toList)) (fun k => ?_) (Ev.bind hsum (Ev.congr (fun k => ?_) (Ev.now true)))
      · rw [if_pos (by rw [sumRows_length]; omega)]
      · rw [hline, str_same]
  | succ d ih =>
    intro i hd hi
    have hlt : i < a.length := by omega
    have hwi : wrap64 ((i : Int) + 1) = ((i + 1 : Nat) : Int) := by
      unfold wrap64
      omega
    have hsum := rsum_ev size [rd_L3 a (i : Int), rd_L3 b (i : Int)] ⟨by omega, by omega⟩ (fun row hr => by
      rcases List.mem_cons.1 hr with rfl | hr
      · exact rdL_bytes ha _
      · rcases List.mem_cons.1 hr with rfl | hr
        · exact rdL_bytes hb _
        · cases hr) (by simp)
    have hnext : (both size.toNat a b).take i ++ [sumRows size.toNat [rd_L3 a (i : Int), rd_L3 b (i : Int)]] = (both size.toNat a b).take (i + 1) := by
      rw [List.take_succ_eq_append_getElem (by omega)]
      congr 1
      rw [rdL_getD, rdL_getD]
      simp [both]
    refine Ev.step (f := fun k => (fountainref1_Sum.f k size [rd_L3 a (i : Int), rd_L3 b (i : Int)]).bind fun t => fountainlaw8_DropsLine.l0 k j size a b esi ((both size.toNat a b).take i ++ [t]) ((i + 1 : Nat) : Int) K (2 + K / 8) 2) (fun k => ?_) (Ev.bind hsum (Ev.congr (fun k => ?_) (ih (i + 1) (by omega) (by omega))))
    · have hacc : ((both size.toNat a b).take i).length < 5864062014805 := by
        rw [List.length_take]
        omega
      rw [fountainlaw8_DropsLine.l0, if_pos (by omega), if_pos (by omega), if_pos (by omega), hwi]
      simp only [hacc, if_true]
    · rw [hnext]

theorem j0_line (K j size esi : Int) (x y : List (List Int)) (b : Bool) (hb : b = false → Ev (fun k => fountainlaw8_DropsLine.l0 k j size x y esi [] 0 K (2 + K / 8) 2) true ∧ 1 ≤ K ∧ K ≤ 40) : Ev (fun k => fountainlaw8_DropsLine.j0 k K j size x y esi true b) true := by
  cases b with
  | true => exact Ev.step (f := fun _ => some true) (fun k => by rw [fountainlaw8_DropsLine.j0, if_pos rfl]) (Ev.now _)
  | false =>
    obtain ⟨h, h1⟩ := hb rfl
    refine Ev.step (fun k => ?_) h
    rw [fountainlaw8_DropsLine.j0, if_neg (by decide), of_right K h1, Option.bind_some]

theorem DropsLine (k j size : Int) (a b : List (List Int)) (esi : Int) (_ : (Lit.int .i64 k).wf = true) (_ : (Lit.int .i64 j).wf = true) (_ : (Lit.int .i64 size).wf = true) (_ : a.length * 24 ≤ reachBytes) (hya : ∀ row ∈ a, row.length * 1 ≤ reachBytes) (hwa : ∀ row ∈ a, ∀ x ∈ row, (Lit.int .u8 x).wf = true) (_ : b.length * 24 ≤ reachBytes) (hyb : ∀ row ∈ b, row.length * 1 ≤ reachBytes) (hwb : ∀ row ∈ b, ∀ x ∈ row, (Lit.int .u8 x).wf = true) (_ : (Lit.int .i64 esi).wf = true) : ∃ n, fountainlaw8_DropsLine.f n k j size a b esi = some true := by
  have ha := bytes_of hwa
  have hb := bytes_of hwb
  have reach : ∀ (c : List (List Int)), (∀ row ∈ c, row.length * 1 ≤ reachBytes) → ∀ row ∈ c, row.length ≤ 140737488351232 := fun c hy row h => by
    have := hy row h
    unfold reachBytes at this
    omega
  have no : Ev (fun n => fountainlaw8_DropsLine.j0 n k j size a b esi true true) true := j0_line k j size esi a b true (fun h => by cases h)
  refine Ev.rounds ?_
  unfold fountainlaw8_DropsLine.f
  refine Ev.bind alive_ev ?_
  simp only [if_true]
  by_cases c1 : k < 1
  · simp only [c1, if_true]; exact no
  simp only [c1, if_false]
  by_cases c2 : k > 40
  · simp only [c2, if_true]; exact no
  simp only [c2, if_false]
  by_cases c3 : j < 0
  · simp only [c3, if_true]; exact no
  simp only [c3, if_false]
  by_cases c4 : j > 255
  · simp only [c4, if_true]; exact no
  simp only [c4, if_false]
  by_cases c5 : size < 1
  · simp only [c5, if_true]; exact no
  simp only [c5, if_false]
  by_cases c6 : size > 64
  · simp only [c6, if_true]; exact no
  simp only [c6, if_false]
  rw [(L_is k ⟨by omega, by omega⟩).2]
  simp only [Option.bind_some]
  by_cases c7' : ¬ (a.length : Int) = k + (2 + k / 8) + 2
  · simp only [c7', if_false]; exact no
  have c7 := Classical.not_not.1 c7'
  clear c7'
  simp only [c7, if_true]
  by_cases c8' : ¬ (b.length : Int) = k + (2 + k / 8) + 2
  · simp only [c8', if_false]; exact no
  have c8 := Classical.not_not.1 c8'
  clear c8'
  simp only [c8, if_true]
  obtain ⟨b1, hb1⟩ := few_ev a (by omega) (reach a hya)
  refine Ev.bind hb1 ?_
  cases b1 with
  | false => simp only [Bool.false_eq_true, if_false]; exact no
  | true =>
    simp only [if_true]
    obtain ⟨b2, hb2⟩ := few_ev b (by omega) (reach b hyb)
    refine Ev.bind hb2 ?_
    cases b2 with
    | false => simp only [Bool.false_eq_true, if_false]; exact no
    | true =>
      simp only [if_true]
      by_cases c9 : esi < 0
      · simp only [c9, if_true]; exact no
      simp only [c9, if_false]
      refine j0_line k j size esi a b _ (fun h => ?_)
      have c10 := of_decide_eq_false h
      exact ⟨l0_line k j size esi a b ⟨by omega, by omega⟩ ⟨by omega, by omega⟩ ⟨⟨by omega, by omega, rfl, rfl⟩, by omega, by omega, by omega, by omega⟩ ha hb (reach a hya) (reach b hyb) c7 (by omega) a.length 0 (by omega) (by omega), by omega, by omega⟩

end Go.Proofs.Ytenokchfabmkfaa.Pure

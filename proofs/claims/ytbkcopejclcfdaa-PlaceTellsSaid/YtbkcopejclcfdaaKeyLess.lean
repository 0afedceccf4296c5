/- Less, the reference's Less and Distance: the walks, and what they compute. -/
import Derived.Test.YtbkcopejclcfdaaKeyDist
import Derived.Lib.Bytealg
import Derived.Laws.Externs
namespace Go.Proofs.Ytbkcopejclcfdaa
open Go.RowKit Go.Proofs.Ytbkcopejclcfdaa.Sum

theorem pw_drewN {B : Nat} {w W : World} (h : Below B w W) (n : Nat) : Below B w (W.drewN n) := ⟨h.os, h.tape, h.output, h.size, h.block⟩
/-- filled up to a place -/
def part (t : List Int) (k : Nat) : List Int := t.take k ++ List.replicate (20 - k) 0
theorem part_len (t : List Int) (h : t.length = 20) (k : Nat) (hk : k ≤ 20) : (part t k).length = 20 := by
  simp [part, h]
  omega
theorem part_zero (t : List Int) : kv (part t 0) = zero20 := by
  simp [part]
  rfl
theorem part_all (t : List Int) (h : t.length = 20) : part t 20 = t := by
  simp [part, List.take_of_length_le (show t.length ≤ 20 by omega)]
theorem part_set (t : List Int) (h : t.length = 20) (k : Nat) (hk : k < 20) : (part t k).set k (t.getD k 0) = part t (k + 1) := by
  have h1 : (t.take k).length = k := by simp; omega
  have h2 : t.take (k + 1) = t.take k ++ [t.getD k 0] := by
    rw [List.take_succ_eq_append_getElem (by omega), List.getD_eq_getElem?_getD, List.getElem?_eq_getElem (by omega)]
    rfl
  have h3 : List.replicate (20 - k) (0 : Int) = 0 :: List.replicate (20 - (k + 1)) 0 := by
    rw [show 20 - k = (20 - (k + 1)) + 1 by omega, List.replicate_succ]
  rw [part, part, h2, List.set_append_right _ _ (by omega), h1, Nat.sub_self, h3, List.set_cons_zero, List.append_assoc]
  rfl

set_option maxHeartbeats 1000000 in
theorem rdist_any (a b : List Int) (w : World) (ha : a.length = 20) (hb : b.length = 20) :
    Calls Try.prog 16 #[.agg (kv a), .agg (kv b)] w fun e w' => e = .returned (.agg (kv (addRow a b))) ∧ Below w.heap.size w w' := by
  have HA := Lib.hid ha
  have HB := Lib.hid hb
  clear ha hb
  go_enter Try.func16, Try.ntmps16
  go_wp2
  go_loopw [6] (fun i wr => ∃ k : Nat, k ≤ 20 ∧ i = .int .i64 k ∧ wr.heap[w.heap.size]? = some (.cells (kv a) 23 (0, 0)) ∧ wr.heap[w.heap.size + 1]? = some (.cells (kv b) 23 (0, 0)) ∧ wr.heap[w.heap.size + 1 + 1]? = some (.cells zero20 23 (0, 0)) ∧ wr.heap[w.heap.size + 1 + 1 + 1]? = some (.cells (kv (part (addRow a b) k)) 23 (0, 0)) ∧ Below w.heap.size w wr) (fun i _ => 20 - (intOf i).toNat)
  case atStart =>
    refine ⟨0, by omega, rfl, ?_, ?_, ?_, ?_, ((((Below.refl _ _).alloc (Nat.le_refl _) _).alloc (by simp) _).alloc (by simp; omega) _).alloc (by simp; omega) _⟩
    · rw [heap_alloc_old _ _ (by simp; omega), heap_alloc_old _ _ (by simp; omega), heap_alloc2_old]
    · rw [heap_alloc_old _ _ (by simp), heap_alloc_old _ _ (by simp), heap_alloc2_new]
    · have e := heap_alloc2_old ((w.alloc (.cells (kv a) 23)).alloc (.cells (kv b) 23)) (.cells zero20 23) (.cells zero20 23)
      simp only [World.size_alloc] at e
      exact e
    · have e := heap_alloc2_new ((w.alloc (.cells (kv a) 23)).alloc (.cells (kv b) 23)) (.cells zero20 23) (.cells zero20 23)
      simp only [World.size_alloc] at e
      rw [part_zero]
      exact e
  case round =>
    obtain ⟨k, hk, rfl, hx, hy, hz, hv, hb⟩ := hrel
    by_cases hlt : k < 20
    · have hc1 : wr.cell? ⟨w.heap.size, k, none⟩ = some (.int .u8 (a.getD k 0)) := by
        rw [cell_of_row wr _ k _ _ _ hx, kv_get, List.getD_eq_getElem?_getD, List.getElem?_eq_getElem (by rw [HA.out]; exact hlt)]
        rfl
      have hc2 : wr.cell? ⟨w.heap.size + 1, k, none⟩ = some (.int .u8 (b.getD k 0)) := by
        rw [cell_of_row wr _ k _ _ _ hy, kv_get, List.getD_eq_getElem?_getD, List.getElem?_eq_getElem (by rw [HB.out]; exact hlt)]
        rfl
      have hl : (part (addRow a b) k).length = 20 := part_len _ (by rw [addRow_length, HA.out]) k hk
      have hc3 : wr.cell? ⟨w.heap.size + 1 + 1 + 1, k, none⟩ = some (.int .u8 ((part (addRow a b) k).getD k 0)) := by
        rw [cell_of_row wr _ k _ _ _ hv, kv_get, List.getD_eq_getElem?_getD, List.getElem?_eq_getElem (by omega)]
        rfl
      have hf1 := frozen_of_row wr (w.heap.size + 1 + 1 + 1) k _ _ hv
      have i1 : (k : Int) < 20 := by omega
      have i2 : 0 ≤ (k : Int) := by omega
      have HX := Lib.hid hx
      have HY := Lib.hid hy
      have HZ := Lib.hid hz
      have HV := Lib.hid hv
      have HBel := Lib.hid hb
      clear hx hy hz hb hv hl
      go_wp2
      go_region
      all_goals
        go_wp2
        refine ⟨⟨k + 1, by omega, by go_num, ?_, ?_, ?_, ?_, (HBel.out.setCell (by show w.heap.size ≤ w.heap.size + 1 + 1 + 1; omega) _).drew⟩, by simp [intOf]; omega⟩
        · rw [heap_drew, heap_setCell_other wr _ _ _ (by first | (simp; done) | (simp; omega))]
          exact HX.out
        · rw [heap_drew, heap_setCell_other wr _ _ _ (by first | (simp; done) | (simp; omega))]
          exact HY.out
        · rw [heap_drew, heap_setCell_other wr _ _ _ (by first | (simp; done) | (simp; omega))]
          exact HZ.out
        · rw [heap_drew, heap_setCell_same wr (w.heap.size + 1 + 1 + 1) k _ 23 _ HV.out, kv_set, ← part_set _ (by rw [addRow_length, HA.out]) k hlt, addRow_getD a b k (by rw [HA.out]; exact hlt)]
          unfold xb
          simp only [List.getD_eq_getElem?_getD]
    · obtain rfl : k = 20 := by omega
      have hpl : (part (addRow a b) 20) = addRow a b := part_all _ (by rw [addRow_length, HA.out])
      rw [hpl] at hv
      have HZ := Lib.hid hz
      have HV := Lib.hid hv
      have HBel := Lib.hid hb
      clear hx hy hz hb hv hpl
      have hs1 : (Try.prog.info? 23).map (·.size) = some (kv (addRow a b)).size := by rw [kv_size, addRow_length, HA.out]; exact info23
      go_wp2_with (first | (refine wpList_load_row rfl 23 (.tmp 5) rfl (w.heap.size + 1 + 1 + 1) rfl 23 (kv (addRow a b)) (0, 0) _ HV.out Try.underlying23 rfl hs1 ?_) | (refine wpList_store_row rfl 23 (.tmp 4) (.tmp 20) rfl (w.heap.size + 1 + 1) rfl (kv (addRow a b)) rfl 23 zero20 HZ.out hs1 (by rw [kv_size, addRow_length, HA.out]; rfl) (kv_one _) ?_))
      refine bodyPost_ret (v := .agg (kv (addRow a b))) ?_ rfl ⟨rfl, ?_⟩
      · exact results_cell_row rfl _ _ (w.heap.size + 1 + 1) 23 _ (0, 0) _ rfl (setRow_heap wr _ zero20 _ 23 _ HZ.out) Try.underlying23 rfl hs1
      · exact below_setRow HBel.out (by omega) _

/-- which of two rows is ahead -/
def lessL : List Int → List Int → Bool
  | x :: xs, y :: ys => if x = y then lessL xs ys else decide (x < y)
  | _, _ => false
theorem lessL_drop (a b : List Int) (k : Nat) (ha : k < a.length) (hb : k < b.length) : lessL (a.drop k) (b.drop k) = if a.getD k 0 = b.getD k 0 then lessL (a.drop (k + 1)) (b.drop (k + 1)) else decide (a.getD k 0 < b.getD k 0) := by
  rw [List.drop_eq_getElem_cons ha, List.drop_eq_getElem_cons hb, lessL]
  simp only [List.getD_eq_getElem?_getD, List.getElem?_eq_getElem ha, List.getElem?_eq_getElem hb, Option.getD_some]

set_option maxHeartbeats 1000000 in
theorem rless_any (a b : List Int) (w : World) (ha : a.length = 20) (hb : b.length = 20) :
    Calls Try.prog 18 #[.agg (kv a), .agg (kv b)] w fun e w' => e = .returned (.bool (lessL a b)) ∧ Below w.heap.size w w' := by
  have HA := Lib.hid ha
  have HB := Lib.hid hb
  clear ha hb
  go_enter Try.func18, Try.ntmps18
  go_wp2
  go_loopw [5] (fun i wr => ∃ k : Nat, k ≤ 20 ∧ i = .int .i64 k ∧ wr.heap[w.heap.size]? = some (.cells (kv a) 23 (0, 0)) ∧ wr.heap[w.heap.size + 1]? = some (.cells (kv b) 23 (0, 0)) ∧ Hid (lessL (a.drop k) (b.drop k) = lessL a b) ∧ Below w.heap.size w wr) (fun i _ => 20 - (intOf i).toNat)
  case atStart =>
    refine ⟨0, by omega, rfl, ?_, ?_, Lib.hid rfl, ((Below.refl _ _).alloc (Nat.le_refl _) _).alloc (by simp) _⟩
    · rw [heap_alloc2_old]
    · rw [heap_alloc2_new]
  case round =>
    obtain ⟨k, hk, rfl, hx, hy, HL, hb⟩ := hrel
    by_cases hlt : k < 20
    · have hc1 : wr.cell? ⟨w.heap.size, k, none⟩ = some (.int .u8 (a.getD k 0)) := by
        rw [cell_of_row wr _ k _ _ _ hx, kv_get, List.getD_eq_getElem?_getD, List.getElem?_eq_getElem (by rw [HA.out]; exact hlt)]
        rfl
      have hc2 : wr.cell? ⟨w.heap.size + 1, k, none⟩ = some (.int .u8 (b.getD k 0)) := by
        rw [cell_of_row wr _ k _ _ _ hy, kv_get, List.getD_eq_getElem?_getD, List.getElem?_eq_getElem (by rw [HB.out]; exact hlt)]
        rfl
      have hstep := lessL_drop a b k (by rw [HA.out]; exact hlt) (by rw [HB.out]; exact hlt)
      have i1 : (k : Int) < 20 := by omega
      have i2 : 0 ≤ (k : Int) := by omega
      have HX := Lib.hid hx
      have HY := Lib.hid hy
      have HBel := Lib.hid hb
      have HS := Lib.hid hstep
      clear hx hy hb hstep
      generalize hea : a.getD k 0 = x at *
      generalize heb : b.getD k 0 = y at *
      clear hea heb
      by_cases he : x = y
      · subst he
        go_wp2
        go_quiet (fail)
        go_wp2
        refine ⟨⟨k + 1, by omega, by go_num, HX.out, HY.out, Lib.hid (by rw [← HL.out, HS.out]; simp), pw_drewN HBel.out _⟩, by simp [intOf]; omega⟩
      · have hne : (x == y) = false := beq_eq_false_iff_ne.2 he
        have hne2 : (x != y) = true := by rw [bne_iff_ne]; exact he
        have hres : lessL a b = decide (x < y) := by rw [← HL.out, HS.out, if_neg he]
        have HR := Lib.hid hres
        clear hres
        go_wp2
        go_quiet (fail)
        go_wp2
        go_quiet (fail)
        go_wp2
        go_ret
        exact ⟨by rw [HR.out]; rfl, pw_drewN (pw_drewN HBel.out _) _⟩
    · obtain rfl : k = 20 := by omega
      have hres : lessL a b = false := by
        rw [← HL.out, List.drop_of_length_le (by rw [HA.out]; exact Nat.le_refl _)]
        rfl
      have HR := Lib.hid hres
      have HBel := Lib.hid hb
      clear hres hx hy hb
      go_wp2
      go_ret
      exact ⟨by rw [HR.out]; rfl, HBel.out⟩
end Go.Proofs.Ytbkcopejclcfdaa

/- Distance and the reference's: the walks. -/
import Derived.Test.YtbkcopejclcfdaaKeyLaws
import Derived.Test.YtbkcopejclcfdaaSum
import Derived.Outline
import Derived.RegionTactic
import Derived.ChangeAlike
import Derived.Deep.LoopGhost
import Derived.Deep.QuietTactic
import Derived.BigQuiet
import Derived.WalkSpells
import Derived.Below
import Derived.Lib.Hide
namespace Go.Proofs.Ytbkcopejclcfdaa
open Go.RowKit Go.Proofs.Ytbkcopejclcfdaa.Sum
/-- 20 bytes -/
structure Key20 (a : List Int) : Prop where
  len : a.length = 20
  bytes : Bytes a
theorem mid_getD' (o r : List Int) (i : Nat) (h : i < o.length) : (mid o r i)[i]? = some (o.getD i 0) := by
  have h1 := mid_getD o r i h
  rw [List.getD_eq_getElem?_getD, List.getElem?_eq_getElem (by rw [mid_length]; exact h)] at h1
  rw [List.getElem?_eq_getElem (by rw [mid_length]; exact h)]
  exact congrArg some h1
def zero20 : Array Value := #[.int .u8 0, .int .u8 0, .int .u8 0, .int .u8 0, .int .u8 0, .int .u8 0, .int .u8 0, .int .u8 0, .int .u8 0, .int .u8 0, .int .u8 0, .int .u8 0, .int .u8 0, .int .u8 0, .int .u8 0, .int .u8 0, .int .u8 0, .int .u8 0, .int .u8 0, .int .u8 0]
set_option maxHeartbeats 1000000 in
theorem dist_any (a b : List Int) (w : World) (ha : a.length = 20) (hb : b.length = 20) :
    Calls Try.prog 13 #[.agg (kv a), .agg (kv b)] w fun e w' => e = .returned (.agg (kv (addRow a b))) ∧ Below w.heap.size w w' := by
  have HA := Lib.hid ha
  have HB := Lib.hid hb
  clear ha hb
  go_enter Try.func13, Try.ntmps13
  go_wp2
  go_loopw [6] (fun i wr => ∃ k : Nat, k ≤ 20 ∧ i = .int .i64 k ∧ wr.heap[w.heap.size]? = some (.cells (kv (mid a b k)) 23 (0, 0)) ∧ wr.heap[w.heap.size + 1]? = some (.cells (kv b) 23 (0, 0)) ∧ wr.heap[w.heap.size + 1 + 1]? = some (.cells zero20 23 (0, 0)) ∧ Below w.heap.size w wr) (fun i _ => 20 - (intOf i).toNat)
  case atStart =>
    refine ⟨0, by omega, rfl, ?_, ?_, ?_, (((Below.refl _ _).alloc (Nat.le_refl _) _).alloc (by simp) _).alloc (by simp; omega) _⟩
    · rw [mid_zero, heap_alloc_old _ _ (by simp; omega), heap_alloc2_old]
    · rw [heap_alloc_old _ _ (by simp), heap_alloc2_new]
    · have e := heap_alloc_new ((w.alloc (.cells (kv a) 23)).alloc (.cells (kv b) 23)) (.cells zero20 23)
      simp only [World.size_alloc] at e
      exact e
  case round =>
    obtain ⟨k, hk, rfl, hx, hy, hz, hb⟩ := hrel
    by_cases hlt : k < 20
    · have hc1 : wr.cell? ⟨w.heap.size, k, none⟩ = some (.int .u8 (a.getD k 0)) := by
        rw [cell_of_row wr _ k _ _ _ hx, kv_get, mid_getD' a b k (by rw [HA.out]; exact hlt)]
        rfl
      have hc2 : wr.cell? ⟨w.heap.size + 1, k, none⟩ = some (.int .u8 (b.getD k 0)) := by
        rw [cell_of_row wr _ k _ _ _ hy, kv_get, List.getD_eq_getElem?_getD, List.getElem?_eq_getElem (by rw [HB.out]; exact hlt)]
        rfl
      have hf1 := frozen_of_row wr w.heap.size k _ _ hx
      have i1 : (k : Int) < 20 := by omega
      have i2 : 0 ≤ (k : Int) := by omega
      have HX := Lib.hid hx
      have HY := Lib.hid hy
      have HZ := Lib.hid hz
      have HBel := Lib.hid hb
      clear hx hy hz hb
      go_wp2
      go_region
      all_goals
        go_wp2
        refine ⟨⟨k + 1, by omega, by go_num, ?_, ?_, ?_, (HBel.out.setCell (by simp) _).drew⟩, by simp [intOf]; omega⟩
        · rw [heap_drew, heap_setCell_same wr w.heap.size k _ 23 _ HX.out, kv_set, ← mid_set a b k (by rw [HA.out]; exact hlt)]
          unfold xb
          simp only [List.getD_eq_getElem?_getD]
        · rw [heap_drew, heap_setCell_other wr _ _ _ (by simp)]
          exact HY.out
        · rw [heap_drew, heap_setCell_other wr _ _ _ (by simp; omega)]
          exact HZ.out
    · obtain rfl : k = 20 := by omega
      have HX := Lib.hid hx
      have HY := Lib.hid hy
      have HZ := Lib.hid hz
      have HBel := Lib.hid hb
      clear hx hy hz hb
      have hs1 : (Try.prog.info? 23).map (·.size) = some (kv (mid a b 20)).size := by rw [kv_size, mid_length, HA.out]; exact info23
      go_wp2_with (first | (refine wpList_load_row rfl 23 (.tmp 2) rfl w.heap.size rfl 23 (kv (mid a b 20)) (0, 0) _ HX.out Try.underlying23 rfl hs1 ?_) | (refine wpList_store_row rfl 23 (.tmp 4) (.tmp 18) rfl (w.heap.size + 1 + 1) rfl (kv (mid a b 20)) rfl 23 zero20 HZ.out hs1 (by rw [kv_size, mid_length, HA.out]; rfl) (kv_one _) ?_))
      have hm : mid a b 20 = addRow a b := by
        have := mid_all a b
        rw [HA.out] at this
        exact this
      refine bodyPost_ret (v := .agg (kv (addRow a b))) ?_ rfl ⟨rfl, ?_⟩
      · rw [← hm]
        exact results_cell_row rfl _ _ (w.heap.size + 1 + 1) 23 _ (0, 0) _ rfl (setRow_heap wr _ zero20 _ 23 _ HZ.out) Try.underlying23 rfl hs1
      · exact below_setRow HBel.out (by omega) _
end Go.Proofs.Ytbkcopejclcfdaa

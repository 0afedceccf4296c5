/- Of: the walk. -/
import Derived.Test.YtbkcopejclcfdaaKeyRPre
namespace Go.Proofs.Ytbkcopejclcfdaa
open Go.RowKit Go.Proofs.Ytbkcopejclcfdaa.Sum Go.Proofs.Ytbkcopejclcfdaa.Rand

/-- one number more -/
def addI (y x : Int) : Int := stirI ((y + x) % 4294967296)
/-- the seed of these numbers -/
def seedI (xs : List Int) : Int := xs.foldl addI 0
/-- the key of these numbers -/
def ofL (xs : List Int) : List Int := (List.range 20).map fun i : Nat => randI (seedI xs) (i : Int) 256
theorem ofL_length (xs : List Int) : (ofL xs).length = 20 := by simp [ofL]
theorem ofL_bytes (xs : List Int) : Bytes (ofL xs) := by
  intro x hx
  obtain ⟨i, _, rfl⟩ := List.mem_map.1 hx
  have h := randI_bd (seedI xs) i 256 (by omega)
  exact ⟨h.1, by omega⟩
theorem ofL_getD (xs : List Int) (k : Nat) (hk : k < 20) : (ofL xs).getD k 0 = randI (seedI xs) k 256 := by
  unfold ofL
  simp [List.getD_eq_getElem?_getD, hk]

set_option maxHeartbeats 1000000 in
theorem of_any (A : Option Addr) (cap : Nat) (xs : List Int) (w : World) (hm : xs.length ≤ 9223372036854775807)
    (hr : ∀ j, j < xs.length → ∃ b off, A = some ⟨b, off, none⟩ ∧ b < w.heap.size ∧ w.cell? ⟨b, off + j, none⟩ = some (.int .i64 (xs.getD j 0))) :
    Calls Try.prog 14 #[.slice A xs.length cap] w fun e w' => e = .returned (.agg (kv (ofL xs))) ∧ Below w.heap.size w w' := by
  have HR := Lib.hid hr
  have HM := Lib.hid hm
  clear hr hm
  go_enter Try.func14, Try.ntmps14
  go_wp2
  go_loopw [3, 10] (fun y i wr => ∃ k : Nat, k ≤ xs.length ∧ i = .int .i64 k ∧ y = .int .u32 (seedI (xs.take k)) ∧ wr = w.alloc (.cells zero20 23)) (fun _ i _ => xs.length - (intOf i).toNat)
  case atStart => 
    exact ⟨0, by omega, rfl, rfl, rfl⟩
  case round =>
    obtain ⟨k, hk, rfl, rfl, rfl⟩ := hrel
    by_cases hlt : k < xs.length
    · obtain ⟨b, off, rfl, hb, hc⟩ := HR.out k hlt
      have hn : seedI (xs.take (k + 1)) = addI (seedI (xs.take k)) (xs.getD k 0) := by
        unfold seedI
        rw [List.take_succ_eq_append_getElem hlt, List.foldl_append, List.getD_eq_getElem?_getD, List.getElem?_eq_getElem hlt]
        rfl
      have HN := Lib.hid hn
      clear hn
      generalize xs.getD k 0 = x at *
      generalize seedI (xs.take k) = y at *
      have hm := HM.out
      have i1 : (k : Int) < xs.length := by omega
      have i2 : 0 ≤ (k : Int) := by omega
      go_wp2_with (go_at_call 47; refine (stir_any _ _).mono ?_; rintro e w' ⟨rfl, rfl⟩)
      refine ⟨⟨k + 1, by omega, by go_num, ?_, by first | trivial | rfl⟩, ?_⟩
      · rw [HN.out]
        unfold addI
        rfl
      · simp [intOf]
        omega
    · obtain rfl : k = xs.length := by omega
      rw [List.take_length]
      have HB := ofL_length xs
      go_wp2
      go_loopw [20] (fun i wr => ∃ k : Nat, k ≤ 20 ∧ i = .int .i64 k ∧ wr.heap[w.heap.size]? = some (.cells zero20 23 (0, 0)) ∧ wr.heap[w.heap.size + 1]? = some (.cells (kv (part (ofL xs) k)) 23 (0, 0)) ∧ Below w.heap.size w wr) (fun i _ => 20 - (intOf i).toNat)
      case atStart =>
        refine ⟨0, by omega, rfl, ?_, ?_, ((Below.refl _ _).alloc (Nat.le_refl _) _).alloc (by simp) _⟩
        · rw [heap_alloc2_old]
          first | done | rfl
        · rw [part_zero, heap_alloc2_new]
          first | done | rfl
      case round =>
        obtain ⟨k, hk, rfl, hx, hv, hb⟩ := hrel
        by_cases hlt : k < 20
        · have hpl : (part (ofL xs) k).length = 20 := part_len _ (ofL_length xs) k hk
          have hf1 := frozen_of_row wr (w.heap.size + 1) k _ _ hv
          have i1 : (k : Int) < 20 := by omega
          have i2 : 0 ≤ (k : Int) := by omega
          have HX := Lib.hid hx
          have HV := Lib.hid hv
          have HBel := Lib.hid hb
          clear hx hv hb
          have hwd := randI_bd (seedI xs) k 256 (by omega)
          have hr1 := hwd.1
          have hr2 := hwd.2
          clear hwd
          have hcl : ∃ z, wr.cell? ⟨w.heap.size + 1, k, none⟩ = some (.int .u8 z) := by
            refine ⟨(part (ofL xs) k).getD k 0, ?_⟩
            rw [cell_of_row wr _ k _ _ _ HV.out, kv_get, List.getD_eq_getElem?_getD, List.getElem?_eq_getElem (by omega)]
            rfl
          obtain ⟨z, hcl⟩ := hcl
          clear hpl
          go_wp2_with (go_at_call 48; refine (rand_any _ _ _ _ (by omega)).mono ?_; rintro e w' ⟨rfl, rfl⟩)
          refine ⟨⟨k + 1, by omega, by go_num, ?_, ?_, HBel.out.setCell (by show w.heap.size ≤ w.heap.size + 1; omega) _⟩, by simp [intOf]; omega⟩
          · rw [heap_setCell_other wr _ _ _ (by first | (simp; done) | (simp; omega))]
            exact HX.out
          · rw [heap_setCell_same wr (w.heap.size + 1) k _ 23 _ HV.out, kv_set, ← part_set _ (ofL_length xs) k hlt, ofL_getD xs k hlt]
        · obtain rfl : k = 20 := by omega
          rw [part_all _ (ofL_length xs)] at hv
          have HX := Lib.hid hx
          have HV := Lib.hid hv
          have HBel := Lib.hid hb
          clear hx hv hb
          have hs1 : (Try.prog.info? 23).map (·.size) = some (kv (ofL xs)).size := by rw [kv_size, ofL_length]; exact info23
          go_wp2_with (first | (refine wpList_load_row rfl 23 (.tmp 6) rfl (w.heap.size + 1) rfl 23 (kv (ofL xs)) (0, 0) _ HV.out Try.underlying23 rfl hs1 ?_) | (refine wpList_store_row rfl 23 (.tmp 2) (.tmp 31) rfl w.heap.size rfl (kv (ofL xs)) rfl 23 zero20 HX.out hs1 (by rw [kv_size, ofL_length]; rfl) (kv_one _) ?_))
          refine bodyPost_ret (v := .agg (kv (ofL xs))) ?_ rfl ⟨rfl, ?_⟩
          · exact results_cell_row rfl _ _ w.heap.size 23 _ (0, 0) _ rfl (setRow_heap wr _ zero20 _ 23 _ HX.out) Try.underlying23 rfl hs1
          · exact below_setRow HBel.out (Nat.le_refl _) _
end Go.Proofs.Ytbkcopejclcfdaa

/- The clean machine: the parts of all symbols that are wanted, reckoned. -/
import Derived.Test.YtkimkgbppegkhaaGreatCk
namespace Go.Proofs.YtkimkgbppegkhaaGreat.Cm
open Go Go.RowKit Go.Proofs.YtkimkgbppegkhaaGreat.Gf
set_option maxRecDepth 1000000
/-- the numbers that are drawn, generation by generation -/
abbrev esiN (g n : Nat) : Nat := 40 + randN (g + 2) n 16777176
def esiT : List Nat := [5703797, 14697824, 10720633, 1591042, 12144029, 11595111, 12253126, 9094420, 15741748, 3886431, 14609667, 10711386, 8122228, 8784530, 11162875, 15638141, 9545121, 1580109, 12141733, 9681915, 395606, 12894670, 4473916, 13902911, 8238697, 16354237, 14253444, 13310189, 267002, 3112891, 8167847, 12671852, 6365711, 16397097, 8143321, 458180, 8055287, 284724, 6900030, 12223496, 8322402, 10057490, 13637546, 5430616, 1511283, 1321689, 183156, 2096818, 10777648, 1573848, 16088689, 6151803]
theorem esiT_ok : (List.range 52).all (fun i => Nat.beq ((esiT[i]?).getD 0) (esiN (i / 13) (i % 13)) && Nat.ble (esiN (i / 13) (i % 13)) 16777215) = true := by kernel_rfl
def esiS : List Nat := [0, 1, 2, 3, 4, 5, 6, 7, 8, 9, 10, 11]
theorem parts_s1 : esiS.all (partsB 1) = true := by kernel_rfl
theorem parts_t1 : esiT.all (partsB 1) = true := by kernel_rfl
theorem parts_s2 : esiS.all (partsB 2) = true := by kernel_rfl
theorem parts_t2 : esiT.all (partsB 2) = true := by kernel_rfl
theorem parts_s3 : esiS.all (partsB 3) = true := by kernel_rfl
theorem parts_t3 : esiT.all (partsB 3) = true := by kernel_rfl
theorem parts_s4 : esiS.all (partsB 4) = true := by kernel_rfl
theorem parts_t4 : esiT.all (partsB 4) = true := by kernel_rfl
theorem parts_s5 : esiS.all (partsB 5) = true := by kernel_rfl
theorem parts_t5 : esiT.all (partsB 5) = true := by kernel_rfl
theorem parts_s6 : esiS.all (partsB 6) = true := by kernel_rfl
theorem parts_t6 : esiT.all (partsB 6) = true := by kernel_rfl
theorem parts_s7 : esiS.all (partsB 7) = true := by kernel_rfl
theorem parts_t7 : esiT.all (partsB 7) = true := by kernel_rfl
theorem parts_s8 : esiS.all (partsB 8) = true := by kernel_rfl
theorem parts_t8 : esiT.all (partsB 8) = true := by kernel_rfl
theorem parts_s {k esi : Nat} (h1 : 1 ≤ k) (h8 : k ≤ 8) (he : esi < 12) : PartsOk k esi := by
  have hm : esi ∈ esiS := by unfold esiS; simp; omega
  have : k = 1 ∨ k = 2 ∨ k = 3 ∨ k = 4 ∨ k = 5 ∨ k = 6 ∨ k = 7 ∨ k = 8 := by omega
  rcases this with rfl | rfl | rfl | rfl | rfl | rfl | rfl | rfl
  · exact partsB_spec (List.all_eq_true.1 parts_s1 _ hm)
  · exact partsB_spec (List.all_eq_true.1 parts_s2 _ hm)
  · exact partsB_spec (List.all_eq_true.1 parts_s3 _ hm)
  · exact partsB_spec (List.all_eq_true.1 parts_s4 _ hm)
  · exact partsB_spec (List.all_eq_true.1 parts_s5 _ hm)
  · exact partsB_spec (List.all_eq_true.1 parts_s6 _ hm)
  · exact partsB_spec (List.all_eq_true.1 parts_s7 _ hm)
  · exact partsB_spec (List.all_eq_true.1 parts_s8 _ hm)
theorem esi_mem {g n : Nat} (hg : g < 4) (hn : n < 13) : esiN g n ∈ esiT ∧ esiN g n < 16777216 := by
  have h := esiT_ok
  rw [List.all_eq_true] at h
  have h := h (g * 13 + n) (List.mem_range.2 (by omega))
  rw [show (g * 13 + n) / 13 = g by omega, show (g * 13 + n) % 13 = n by omega, Bool.and_eq_true] at h
  have h1 := Nat.eq_of_beq_eq_true h.1
  have h2 := Nat.le_of_ble_eq_true h.2
  refine ⟨?_, by omega⟩
  rw [← h1]
  have hl : g * 13 + n < esiT.length := by show _ < 52; omega
  rw [List.getElem?_eq_getElem hl]
  exact List.getElem_mem hl
theorem parts_t {k g n : Nat} (h1 : 1 ≤ k) (h8 : k ≤ 8) (hg : g < 4) (hn : n < 13) : PartsOk k (esiN g n) := by
  have hm := (esi_mem hg hn).1
  have : k = 1 ∨ k = 2 ∨ k = 3 ∨ k = 4 ∨ k = 5 ∨ k = 6 ∨ k = 7 ∨ k = 8 := by omega
  rcases this with rfl | rfl | rfl | rfl | rfl | rfl | rfl | rfl
  · exact partsB_spec (List.all_eq_true.1 parts_t1 _ hm)
  · exact partsB_spec (List.all_eq_true.1 parts_t2 _ hm)
  · exact partsB_spec (List.all_eq_true.1 parts_t3 _ hm)
  · exact partsB_spec (List.all_eq_true.1 parts_t4 _ hm)
  · exact partsB_spec (List.all_eq_true.1 parts_t5 _ hm)
  · exact partsB_spec (List.all_eq_true.1 parts_t6 _ hm)
  · exact partsB_spec (List.all_eq_true.1 parts_t7 _ hm)
  · exact partsB_spec (List.all_eq_true.1 parts_t8 _ hm)
end Go.Proofs.YtkimkgbppegkhaaGreat.Cm

/- The reference's Prefix: the walk. -/
import Derived.Test.YtbkcopejclcfdaaKeyPre
namespace Go.Proofs.Ytbkcopejclcfdaa
open Go.RowKit Go.Proofs.Ytbkcopejclcfdaa.Sum

theorem byte_bits : ∀ (z : Fin 256) (t : Fin 8), Go.bits .and .u8 (((z.val : Nat) : Int) / 2 ^ t.val) 1 = if z.val.testBit t.val then 1 else 0 := by decide +kernel
theorem bits_of {x : Int} (hx : Byte x) (t : Nat) (ht : t < 8) : Go.bits .and .u8 (x / 2 ^ t) 1 = if x.toNat.testBit t then 1 else 0 := by
  have h0 := hx.1
  have h1 := hx.2
  have h := byte_bits ⟨x.toNat, by omega⟩ ⟨t, ht⟩
  have e : ((x.toNat : Nat) : Int) = x := Int.toNat_of_nonneg h0
  simp only at h
  rw [e] at h
  exact h
theorem bits_same {x y : Int} (hx : Byte x) (hy : Byte y) (t : Nat) (ht : t < 8) : (Go.bits .and .u8 (x / 2 ^ t) 1 == Go.bits .and .u8 (y / 2 ^ t) 1) = !((xb x y).toNat.testBit t) := by
  rw [bits_of hx t ht, bits_of hy t ht, xb_toNat hx hy, Nat.testBit_xor]
  cases x.toNat.testBit t <;> cases y.toNat.testBit t <;> rfl
theorem byte_lead : ∀ (z : Fin 256) (t : Fin 8), z.val ≠ 0 → 1 ≤ Lib.bitLen z.val ∧ (t.val < 8 - Lib.bitLen z.val → z.val.testBit (7 - t.val) = false) ∧ (t.val = 8 - Lib.bitLen z.val → z.val.testBit (7 - t.val) = true) := by decide +kernel
theorem pz_spec : ∀ (d : List Int) (j : Nat), Bytes d → j + d.length = 20 →
    (8 * j : Int) ≤ pz d j ∧ pz d j ≤ 160 ∧ ∀ q t : Nat, q < d.length → t < 8 → (((8 * (j + q) + t : Nat) : Int) < pz d j → (d.getD q 0).toNat.testBit (7 - t) = false) ∧ (((8 * (j + q) + t : Nat) : Int) = pz d j → (d.getD q 0).toNat.testBit (7 - t) = true) := by
  intro d
  induction d with
  | nil =>
    intro j _ hj
    simp only [List.length_nil] at hj
    simp only [pz]
    exact ⟨by omega, by omega, fun q t hq _ => absurd hq (Nat.not_lt_zero _)⟩
  | cons x d ih =>
    intro j hb hj
    simp only [List.length_cons] at hj
    have hx := hb x List.mem_cons_self
    obtain ⟨r1, r2, r3⟩ := ih (j + 1) (fun y hy => hb y (List.mem_cons_of_mem _ hy)) (by omega)
    have ec : ((j + 1 : Nat) : Int) = (j : Int) + 1 := by omega
    rw [ec] at r1 r2 r3
    have h0 := hx.1
    have h1 := hx.2
    unfold pz
    by_cases he : x = 0
    · rw [if_pos he]
      refine ⟨by omega, r2, fun q t hq ht => ?_⟩
      cases q with
      | zero =>
        rw [List.getD_cons_zero, he]
        refine ⟨fun _ => by simp, fun h => ?_⟩
        omega
      | succ q =>
        rw [List.getD_cons_succ]
        have r := r3 q t (by simpa using hq) ht
        have e2 : j + 1 + q = j + (q + 1) := by omega
        rw [e2] at r
        exact r
    · rw [if_neg he]
      have hn : x.toNat ≠ 0 := by omega
      have hbl := Lib.bitLen_le8 ⟨x.toNat, by omega⟩
      simp only at hbl
      refine ⟨by omega, by omega, fun q t hq ht => ?_⟩
      have l := byte_lead ⟨x.toNat, by omega⟩ ⟨t, ht⟩ hn
      simp only at l
      obtain ⟨l1, l2, l3⟩ := l
      cases q with
      | zero =>
        rw [List.getD_cons_zero]
        exact ⟨fun h => l2 (by omega), fun h => l3 (by omega)⟩
      | succ q => exact ⟨fun h => by omega, fun h => by omega⟩
theorem addRow_bytes {a b : List Int} (ha : Bytes a) (hb : Bytes b) : Bytes (addRow a b) := by
  intro x hx
  unfold addRow at hx
  obtain ⟨i, _, rfl⟩ := List.mem_map.1 hx
  exact xb_byte (getD_byte ha i) (getD_byte hb i)
/-- what the reference reads at bit k -/
theorem bit_step {a b : List Int} (ha : a.length = 20) (hba : Bytes a) (hbb : Bytes b) (k : Nat) (hk : k < 160) (hle : (k : Int) ≤ pz (addRow a b) 0) :
    (Go.bits .and .u8 (a.getD (k / 8) 0 / 2 ^ (7 - k % 8)) 1 == Go.bits .and .u8 (b.getD (k / 8) 0 / 2 ^ (7 - k % 8)) 1) = decide ((k : Int) < pz (addRow a b) 0) := by
  have h := (pz_spec (addRow a b) 0 (addRow_bytes hba hbb) (by rw [addRow_length, ha])).2.2 (k / 8) (k % 8) (by rw [addRow_length, ha]; omega) (by omega)
  have e : 8 * (0 + k / 8) + k % 8 = k := by omega
  rw [e, addRow_getD a b _ (by rw [ha]; omega)] at h
  rw [bits_same (getD_byte hba _) (getD_byte hbb _) _ (by omega)]
  obtain ⟨h1, h2⟩ := h
  by_cases hlt : (k : Int) < pz (addRow a b) 0
  · rw [h1 hlt, decide_eq_true hlt]; rfl
  · rw [h2 (Int.le_antisymm hle (Int.not_lt.1 hlt)), decide_eq_false hlt]; rfl

set_option maxHeartbeats 1000000 in
theorem rprefix_any (a b : List Int) (w : World) (ha : a.length = 20) (hb : b.length = 20) (hba : Bytes a) (hbb : Bytes b) :
    Calls Try.prog 20 #[.agg (kv a), .agg (kv b)] w fun e w' => e = .returned (.int .i64 (pz (addRow a b) 0)) ∧ Below w.heap.size w w' := by
  have HA := Lib.hid ha
  have HB := Lib.hid hb
  have HBA := Lib.hid hba
  have HBB := Lib.hid hbb
  clear ha hb hba hbb
  go_enter Try.func20, Try.ntmps20
  go_wp2
  go_loopw [5] (fun i wr => ∃ k : Nat, k ≤ 160 ∧ i = .int .i64 k ∧ wr.heap[w.heap.size]? = some (.cells (kv a) 23 (0, 0)) ∧ wr.heap[w.heap.size + 1]? = some (.cells (kv b) 23 (0, 0)) ∧ Hid ((k : Int) ≤ pz (addRow a b) 0) ∧ Below w.heap.size w wr) (fun i _ => 160 - (intOf i).toNat)
  case atStart =>
    refine ⟨0, by omega, rfl, ?_, ?_, Lib.hid (pz_spec (addRow a b) 0 (addRow_bytes HBA.out HBB.out) (by rw [addRow_length, HA.out])).1, ((Below.refl _ _).alloc (Nat.le_refl _) _).alloc (by simp) _⟩
    · rw [heap_alloc2_old]
    · rw [heap_alloc2_new]
  case round =>
    obtain ⟨k, hk, rfl, hx, hy, HL, hb⟩ := hrel
    by_cases hlt : k < 160
    · have hq : k / 8 < 20 := by omega
      have hc1 : wr.cell? ⟨w.heap.size, k / 8, none⟩ = some (.int .u8 (a.getD (k / 8) 0)) := by
        rw [cell_of_row wr _ (k / 8) _ _ _ hx, kv_get, List.getD_eq_getElem?_getD, List.getElem?_eq_getElem (by rw [HA.out]; exact hq)]
        rfl
      have hc2 : wr.cell? ⟨w.heap.size + 1, k / 8, none⟩ = some (.int .u8 (b.getD (k / 8) 0)) := by
        rw [cell_of_row wr _ (k / 8) _ _ _ hy, kv_get, List.getD_eq_getElem?_getD, List.getElem?_eq_getElem (by rw [HB.out]; exact hq)]
        rfl
      have hstep := bit_step HA.out HBA.out HBB.out k hlt HL.out
      have i1 : (k : Int) < 160 := by omega
      have i2 : 0 ≤ (k : Int) := by omega
      have ht1 : Int.tdiv (k : Int) 8 = ((k / 8 : Nat) : Int) := by rw [Int.tdiv_eq_ediv_of_nonneg i2]; omega
      have ht2 : Int.tmod (k : Int) 8 = ((k % 8 : Nat) : Int) := by rw [Int.tmod_eq_emod_of_nonneg i2]; omega
      have hq0 : 0 ≤ ((k / 8 : Nat) : Int) := by omega
      have hq1 : ((k / 8 : Nat) : Int) < 20 := by omega
      have HX := Lib.hid hx
      have HY := Lib.hid hy
      have HBel := Lib.hid hb
      clear hx hy hb
      generalize hea : a.getD (k / 8) 0 = x at *
      generalize heb : b.getD (k / 8) 0 = y at *
      clear hea heb
      by_cases he : (k : Int) < pz (addRow a b) 0
      · rw [decide_eq_true he] at hstep
        have HE : Hid (((k + 1 : Nat) : Int) ≤ pz (addRow a b) 0) := Lib.hid (by omega)
        clear he
        go_wp2
        go_quiet (fail)
        go_wp2
        refine ⟨⟨k + 1, by omega, by go_num, HX.out, HY.out, HE, pw_drewN HBel.out _⟩, by simp [intOf]; omega⟩
      · rw [decide_eq_false he] at hstep
        have HE : Hid ((k : Int) = pz (addRow a b) 0) := Lib.hid (Int.le_antisymm HL.out (Int.not_lt.1 he))
        clear he
        go_wp2
        go_quiet (fail)
        go_wp2
        go_ret
        exact ⟨by rw [← HE.out]; rfl, pw_drewN HBel.out _⟩
    · obtain rfl : k = 160 := by omega
      have HE : Hid (160 = pz (addRow a b) 0) := Lib.hid (Int.le_antisymm HL.out (pz_spec (addRow a b) 0 (addRow_bytes HBA.out HBB.out) (by rw [addRow_length, HA.out])).2.1)
      have HBel := Lib.hid hb
      clear hx hy hb
      go_wp2
      go_quiet (fail)
      go_wp2
      go_ret
      exact ⟨by rw [← HE.out]; rfl, pw_drewN HBel.out _⟩
end Go.Proofs.Ytbkcopejclcfdaa

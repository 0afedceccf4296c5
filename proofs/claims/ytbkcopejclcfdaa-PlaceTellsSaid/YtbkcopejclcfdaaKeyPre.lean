/- Prefix: the walk. -/
import Derived.Test.YtbkcopejclcfdaaKeyLen
namespace Go.Proofs.Ytbkcopejclcfdaa
open Go.RowKit Go.Proofs.Ytbkcopejclcfdaa.Sum

/-- the number of bits 0 ahead of the first bit 1, k bytes ahead -/
def pz : List Int → Int → Int
  | x :: xs, k => if x = 0 then pz xs (k + 1) else 8 * k + (8 - (Lib.bitLen x.toNat : Int))
  | [], _ => 160
theorem pz_drop (d : List Int) (k : Nat) (hd : k < d.length) (i : Int) : pz (d.drop k) i = if d.getD k 0 = 0 then pz (d.drop (k + 1)) (i + 1) else 8 * i + (8 - (Lib.bitLen (d.getD k 0).toNat : Int)) := by
  rw [List.drop_eq_getElem_cons hd, pz]
  simp only [List.getD_eq_getElem?_getD, List.getElem?_eq_getElem hd, Option.getD_some]

set_option maxHeartbeats 1000000 in
theorem prefix_any (a b : List Int) (w : World) (ha : a.length = 20) (hb : b.length = 20) (hba : Bytes a) (hbb : Bytes b) :
    Calls Try.prog 19 #[.agg (kv a), .agg (kv b)] w fun e w' => e = .returned (.int .i64 (pz (addRow a b) 0)) ∧ Below w.heap.size w w' := by
  have HA := Lib.hid ha
  have HB := Lib.hid hb
  have HD : Hid ((addRow a b).length = 20) := Lib.hid (by rw [addRow_length, ha])
  have HBA := Lib.hid hba
  have HBB := Lib.hid hbb
  clear ha hb hba hbb
  go_enter Try.func19, Try.ntmps19
  go_wp2
  go_loopw [7] (fun i wr => ∃ k : Nat, k ≤ 20 ∧ i = .int .i64 k ∧ wr.heap[w.heap.size]? = some (.cells (kv a) 23 (0, 0)) ∧ wr.heap[w.heap.size + 1]? = some (.cells (kv b) 23 (0, 0)) ∧ Hid (pz ((addRow a b).drop k) k = pz (addRow a b) 0) ∧ Below w.heap.size w wr) (fun i _ => 20 - (intOf i).toNat)
  case atStart =>
    refine ⟨0, by omega, rfl, ?_, ?_, Lib.hid rfl, ((Below.refl _ _).alloc (Nat.le_refl _) _).alloc (by simp) _⟩
    · rw [heap_alloc2_old]
    · rw [heap_alloc2_new]
  case round =>
    obtain ⟨k, hk, rfl, hx, hy, HL, hb⟩ := hrel
    by_cases hlt : k < 20
    · have hc1 : wr.cell? ⟨w.heap.size, k, none⟩ = some (.int .u8 (a.getD k 0)) := by
        rw [cell_of_row wr _ k _ _ _ hx, kv_get, List.getD_eq_getElem?_getD, List.getElem?_eq_getElem (by rw [HA.out]; exact hlt)]
        rfl
      have hc2 : wr.cell? ⟨w.heap.size + 1, k, none⟩ = some (.int .u8 (b.getD k 0)) := by
        rw [cell_of_row wr _ k _ _ _ hy, kv_get, List.getD_eq_getElem?_getD, List.getElem?_eq_getElem (by rw [HB.out]; exact hlt)]
        rfl
      have hstep := pz_drop (addRow a b) k (by rw [HD.out]; exact hlt) k
      rw [addRow_getD a b k (by rw [HA.out]; exact hlt)] at hstep
      have hz := xb_byte (getD_byte HBA.out k) (getD_byte HBB.out k)
      have hz0 := hz.1
      have hz1 := hz.2
      have i1 : (k : Int) < 20 := by omega
      have i2 : 0 ≤ (k : Int) := by omega
      have HX := Lib.hid hx
      have HY := Lib.hid hy
      have HBel := Lib.hid hb
      have HS := Lib.hid hstep
      clear hx hy hb hstep hz
      have hxb : xb (a.getD k 0) (b.getD k 0) = Go.bits .xor .u8 (a.getD k 0) (b.getD k 0) := by unfold xb; rfl
      generalize hea : a.getD k 0 = x at *
      generalize heb : b.getD k 0 = y at *
      clear hea heb
      generalize hez : xb x y = z at *
      clear hez
      have hxb' : Go.bits .xor .u8 x y = z := hxb.symm
      clear hxb
      by_cases he : z = 0
      · subst he
        go_wp2
        go_quiet (fail)
        go_wp2
        refine ⟨⟨k + 1, by omega, by go_num, HX.out, HY.out, Lib.hid (by rw [← HL.out, HS.out]; simp), pw_drewN HBel.out _⟩, by simp [intOf]; omega⟩
      · have hne2 : (z != 0) = true := by rw [bne_iff_ne]; exact he
        have hres : pz (addRow a b) 0 = 8 * k + (8 - (Lib.bitLen z.toNat : Int)) := by rw [← HL.out, HS.out, if_neg he]
        have hbl := Lib.bitLen_le8 ⟨z.toNat, by omega⟩
        simp only at hbl
        have hwr : wrap64 (8 * (k : Int) + (8 - (Lib.bitLen z.toNat : Int))) = pz (addRow a b) 0 := by rw [hres]; unfold wrap64; omega
        have HR := Lib.hid hwr
        clear hres hwr hbl
        go_wp2
        go_quiet (fail)
        go_wp2_with (go_at_call 52; refine (lz8_any _ _ hz0 hz1).mono ?_; rintro e w' ⟨rfl, rfl⟩)
        go_ret
        exact ⟨by rw [← HR.out]; rfl, pw_drewN HBel.out _⟩
    · obtain rfl : k = 20 := by omega
      have hres : pz (addRow a b) 0 = 160 := by
        rw [← HL.out, List.drop_of_length_le (by rw [HD.out]; exact Nat.le_refl _)]
        rfl
      have HR := Lib.hid hres
      have HBel := Lib.hid hb
      clear hres hx hy hb
      go_wp2
      go_ret
      exact ⟨by rw [HR.out]; rfl, HBel.out⟩
end Go.Proofs.Ytbkcopejclcfdaa

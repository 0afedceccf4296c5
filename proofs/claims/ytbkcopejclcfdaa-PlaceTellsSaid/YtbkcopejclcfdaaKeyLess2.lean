/- key.Less: the walk. -/
import Derived.Test.YtbkcopejclcfdaaKeyLess
import Derived.Lib.BytesEntry
namespace Go.Proofs.Ytbkcopejclcfdaa
open Go.RowKit Go.Proofs.Ytbkcopejclcfdaa.Sum

theorem run_loadKey (w : World) (g : Nat) (a : List Int) (ha : a.length = 20) (hg : w.heap[g]? = some (.cells (kv a) 23 (0, 0))) : (Extern.Bytes.loadBytes ⟨g, 0, none⟩ 20 .empty).run Try.prog w = .ok ⟨(Lib.bytesOf a).toArray⟩ w := by
  have hl := Lib.run_loadBytesX (P := Try.prog) w a ⟨g, 0, none⟩ .empty (fun j x hj => by
    have e : (⟨g, 0, none⟩ : Addr).add j = ⟨g, j, none⟩ := by unfold Addr.add; split <;> simp_all
    rw [e, cell_of_row w g j _ _ _ hg, kv_get, hj]
    rfl)
  rw [ha] at hl
  rw [hl]
  congr 1
  apply ByteArray.ext
  simp
theorem run_compareKeys (w : World) (g h : Nat) (a b : List Int) (ha : a.length = 20) (hb : b.length = 20) (hg : w.heap[g]? = some (.cells (kv a) 23 (0, 0))) (hh : w.heap[h]? = some (.cells (kv b) 23 (0, 0))) :
    (Extern.BytealgCompare.compare #[.slice (some ⟨g, 0, none⟩) 20 20, .slice (some ⟨h, 0, none⟩) 20 20]).run Try.prog w = .ok (.int .i64 (Lib.compareBytes (Lib.bytesOf a) (Lib.bytesOf b))) w := by
  change Sem.run Try.prog (do pure (goInt (Extern.BytealgCompare.cmp (← Extern.Bytes.bytesOf (.slice (some ⟨g, 0, none⟩) 20 20)) (← Extern.Bytes.bytesOf (.slice (some ⟨h, 0, none⟩) 20 20))))) w = _
  simp only [Extern.Bytes.bytesOf, Sem.run_bind, Sem.run_pure, run_loadKey w g a ha hg, run_loadKey w h b hb hh, Result.andThen]
  rw [Lib.cmp_eq]
  rfl
set_option maxHeartbeats 1000000 in
theorem compare_any (g h : Nat) (a b : List Int) (w : World) (ha : a.length = 20) (hb : b.length = 20) (hg : w.heap[g]? = some (.cells (kv a) 23 (0, 0))) (hh : w.heap[h]? = some (.cells (kv b) 23 (0, 0))) :
    Calls Try.prog 51 #[.slice (some ⟨g, 0, none⟩) 20 20, .slice (some ⟨h, 0, none⟩) 20 20] w fun e w' => e = .returned (.int .i64 (Lib.compareBytes (Lib.bytesOf a) (Lib.bytesOf b))) ∧ w' = w := by
  have hr := run_compareKeys w g h a b ha hb hg hh
  have HR := Lib.hid hr
  clear hr ha hb hg hh
  go_enter Try.func51, Try.ntmps51
  go_wp2
  rw [run_callFunc_extern Try.func71 (by kernel_rfl) (by kernel_rfl) (by kernel_rfl) (e := Extern.BytealgCompare.compare) (by kernel_rfl), HR.out]
  simp only [Result.andThen]
  rw [Oper.upon_value]
  go_wp2
  go_ret
  exact ⟨rfl, rfl⟩
theorem compare_less : ∀ (a b : List Int), Bytes a → Bytes b → a.length = b.length → decide (Lib.compareBytes (Lib.bytesOf a) (Lib.bytesOf b) < 0) = lessL a b
  | [], [], _, _, _ => rfl
  | x :: a, y :: b, ha, hb, hl => by
    have hx := ha x List.mem_cons_self
    have hy := hb y List.mem_cons_self
    have ih := compare_less a b (fun z hz => ha z (List.mem_cons_of_mem _ hz)) (fun z hz => hb z (List.mem_cons_of_mem _ hz)) (by simpa using hl)
    have hlt : ∀ u v : Int, Byte u → Byte v → (u.toNat.toUInt8 < v.toNat.toUInt8 ↔ u < v) := by
      intro u v hu hv
      have h1 := hu.1
      have h2 := hu.2
      have h3 := hv.1
      have h4 := hv.2
      rw [UInt8.lt_iff_toNat_lt]
      simp only [Nat.toUInt8, UInt8.toNat_ofNat']
      omega
    have hc : Lib.compareBytes (Lib.bytesOf (x :: a)) (Lib.bytesOf (y :: b)) = if x < y then -1 else if y < x then 1 else Lib.compareBytes (Lib.bytesOf a) (Lib.bytesOf b) := by
      simp only [Lib.bytesOf, List.map_cons, Lib.compareBytes]
      by_cases h1 : x < y
      · rw [if_pos h1, if_pos ((hlt x y hx hy).2 h1)]
      · rw [if_neg h1, if_neg (fun h => h1 ((hlt x y hx hy).1 h))]
        by_cases h2 : y < x
        · rw [if_pos h2, if_pos ((hlt y x hy hx).2 h2)]
        · rw [if_neg h2, if_neg (fun h => h2 ((hlt y x hy hx).1 h))]
    rw [hc, lessL]
    by_cases he : x = y
    · subst he
      rw [if_neg (by omega), if_neg (by omega), if_pos rfl, ih]
    · rw [if_neg he]
      by_cases h1 : x < y
      · rw [if_pos h1]
        simp [h1]
      · rw [if_neg h1, if_pos (by omega)]
        simp [h1]
  | [], _ :: _, _, _, hl => by simp at hl
  | _ :: _, [], _, _, hl => by simp at hl
set_option maxHeartbeats 1000000 in
theorem less_any (a b : List Int) (w : World) (ha : Key20 a) (hb : Key20 b) :
    Calls Try.prog 17 #[.agg (kv a), .agg (kv b)] w fun e w' => e = .returned (.bool (lessL a b)) ∧ Below w.heap.size w w' := by
  have HA := Lib.hid ha.len
  have HB := Lib.hid hb.len
  have HL := Lib.hid (compare_less a b ha.bytes hb.bytes (by rw [ha.len, hb.len]))
  clear ha hb
  go_enter Try.func17, Try.ntmps17
  go_wp2
  go_outline
  go_quiet ((go_at_call 51; exact Calls.quiet_of_same (compare_any _ _ a b _ HA.out HB.out (heap_alloc2_old _ _ _) (heap_alloc2_new _ _ _))))
  go_wp2
  go_ret
  exact ⟨by rw [← HL.out]; rfl, pw_drewN (((Below.refl _ _).alloc (Nat.le_refl _) _).alloc (by simp) _) _⟩
end Go.Proofs.Ytbkcopejclcfdaa

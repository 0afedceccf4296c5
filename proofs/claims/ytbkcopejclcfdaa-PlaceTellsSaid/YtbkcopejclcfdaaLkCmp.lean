/- cmp.Compare, slices.Compare of two keys. -/
import Derived.Test.YtbkcopejclcfdaaKeyPlain
import Derived.Test.YtbkcopejclcfdaaLkBase
namespace Go.Proofs.Ytbkcopejclcfdaa
open Go.RowKit Go.Proofs.YtbkcopejclcfdaaW.PrintLast Go.Proofs.Ytbkcopejclcfdaa.Sum
set_option linter.unusedVariables false
set_option linter.unusedSimpArgs false
def cmpB (x y : Int) : Int := if x < y then -1 else if y < x then 1 else 0
def cmpL : List Int → List Int → Int
  | x :: xs, y :: ys => if x = y then cmpL xs ys else cmpB x y
  | _, _ => 0
theorem cmpL_neg : ∀ a b : List Int, decide (cmpL a b < 0) = lessL a b
  | [], _ => by simp [cmpL, lessL]
  | _ :: _, [] => by simp [cmpL, lessL]
  | x :: xs, y :: ys => by
    unfold cmpL lessL
    split
    · exact cmpL_neg xs ys
    · rename_i h
      unfold cmpB
      by_cases h1 : x < y
      · simp [h1]
      · have h2 : y < x := by omega
        simp [h1, h2]
theorem cmpL_drop (a b : List Int) (k : Nat) (ha : k < a.length) (hb : k < b.length) : cmpL (a.drop k) (b.drop k) = if a[k] = b[k] then cmpL (a.drop (k + 1)) (b.drop (k + 1)) else cmpB a[k] b[k] := by
  rw [List.drop_eq_getElem_cons ha, List.drop_eq_getElem_cons hb, cmpL]
theorem nan_any (x : Int) (W : World) : Calls Try.prog 77 #[.int .u8 x] W fun e W' => e = .returned (.bool false) ∧ W = W' := by
  go_enter Try.func77, Try.ntmps77
  go_wp2
  go_ret
  exact ⟨by simp, rfl⟩
theorem cmp_any (x y : Int) (W : World) : Calls Try.prog 76 #[.int .u8 x, .int .u8 y] W fun e W' => e = .returned (.int .i64 (cmpB x y)) ∧ W = W' := by
  have h1 := Lib.hid (nan_any x W)
  have h2 := Lib.hid (nan_any y W)
  unfold cmpB
  by_cases hx : x < y
  · rw [if_pos hx]
    go_enter Try.func76, Try.ntmps76
    go_wp2_with (go_at_call 77; refine (nan_any _ _).mono ?_; rintro e w' ⟨rfl, rfl⟩)
    go_ret
    exact ⟨rfl, rfl⟩
  · rw [if_neg hx]
    by_cases hy : y < x
    · rw [if_pos hy]
      go_enter Try.func76, Try.ntmps76
      go_wp2_with (go_at_call 77; refine (nan_any _ _).mono ?_; rintro e w' ⟨rfl, rfl⟩)
      go_ret
      exact ⟨rfl, rfl⟩
    · rw [if_neg hy]
      go_enter Try.func76, Try.ntmps76
      go_wp2_with (go_at_call 77; refine (nan_any _ _).mono ?_; rintro e w' ⟨rfl, rfl⟩)
      go_ret
      exact ⟨rfl, rfl⟩
theorem key_cell {W : World} {g : Nat} {a : List Int} (h : W.heap[g]? = some (.cells (kv a) 23 (0, 0))) (k : Nat) (hk : k < a.length) : W.cell? ⟨g, k, none⟩ = some (.int .u8 a[k]) := by
  rw [cell_of_row W g k _ _ _ h, kv_get, List.getElem?_eq_getElem hk]
  rfl
set_option maxHeartbeats 1000000 in
theorem scompare_any (g h : Nat) (a b : List Int) (W : World) (ha : a.length = 20) (hb : b.length = 20) (hg : W.heap[g]? = some (.cells (kv a) 23 (0, 0))) (hh : W.heap[h]? = some (.cells (kv b) 23 (0, 0))) :
    Calls Try.prog 73 #[.slice (some ⟨g, 0, none⟩) 20 20, .slice (some ⟨h, 0, none⟩) 20 20] W fun e W' => e = .returned (.int .i64 (cmpL a b)) ∧ W = W' := by
  have HA := Lib.hid ha
  have HB := Lib.hid hb
  have HG := Lib.hid hg
  have HH := Lib.hid hh
  clear ha hb hg hh
  go_enter Try.func73, Try.ntmps73
  go_wp2
  go_loopw [11] (fun i wr => ∃ k : Nat, k ≤ 20 ∧ i = .int .i64 k ∧ Hid (cmpL (a.drop k) (b.drop k) = cmpL a b) ∧ W = wr) (fun i _ => 20 - (intOf i).toNat)
  case atStart => exact ⟨0, by omega, rfl, Lib.hid (by rw [List.drop_zero, List.drop_zero]), rfl⟩
  case round =>
    obtain ⟨k, hk, rfl, HD, rfl⟩ := hrel
    by_cases hlt : k < 20
    · have hka : k < a.length := by rw [HA.out]; exact hlt
      have hkb : k < b.length := by rw [HB.out]; exact hlt
      have c1 := key_cell HG.out k hka
      have c2 := key_cell HH.out k hkb
      have HS := Lib.hid (cmpL_drop a b k hka hkb)
      rw [HD.out] at HS
      generalize a[k] = x at *
      generalize b[k] = y at *
      have i1 : (k : Int) < 20 := by omega
      by_cases he : x = y
      · subst he
        have e0 : cmpB x x = 0 := by unfold cmpB; rw [if_neg (by omega), if_neg (by omega)]
        go_wp2_with (go_at_call 76; refine (cmp_any _ _ _).mono ?_; rintro e w' ⟨rfl, rfl⟩; rw [e0])
        exact ⟨⟨k + 1, by omega, by go_num, Lib.hid (by rw [HS.out]; simp), by first | trivial | rfl⟩, by simp [intOf]; omega⟩
      · have e0 : cmpL a b = cmpB x y := by rw [HS.out, if_neg he]
        have e1 : (cmpB x y != 0) = true := by
          have h0 : cmpB x y ≠ 0 := by
            unfold cmpB
            split
            · omega
            · split <;> omega
          simpa using h0
        have E0 := Lib.hid e0
        generalize hcm : cmpB x y = z at *
        clear e0
        go_wp2_with (go_at_call 76; refine (cmp_any _ _ _).mono ?_; rintro e w' ⟨rfl, rfl⟩; rw [hcm])
        go_ret
        rw [E0.out]
        exact ⟨rfl, rfl⟩
    · obtain rfl : k = 20 := by omega
      have e0 : cmpL a b = 0 := by
        rw [← HD.out, List.drop_of_length_le (by rw [HA.out]; exact Nat.le_refl _)]
        rfl
      have E0 := Lib.hid e0
      clear e0
      go_wp2
      go_ret
      rw [E0.out]
      exact ⟨rfl, rfl⟩
end Go.Proofs.Ytbkcopejclcfdaa

/- Keys: the plain laws (no program in sight). -/
import Derived.Test.YtbkcopejclcfdaaKeyHeld
namespace Go.Proofs.Ytbkcopejclcfdaa
open Go.Proofs.Ytbkcopejclcfdaa.Sum

theorem lessL_irrefl : ∀ a : List Int, lessL a a = false
  | [] => rfl
  | x :: a => by rw [lessL, if_pos rfl]; exact lessL_irrefl a
theorem lessL_total : ∀ a b : List Int, a.length = b.length → a ≠ b → lessL a b = !lessL b a
  | [], [], _, h => absurd rfl h
  | x :: a, y :: b, hl, h => by
    simp only [lessL]
    by_cases he : x = y
    · subst he
      rw [if_pos rfl, if_pos rfl]
      exact lessL_total a b (by simpa using hl) (fun e => h (by rw [e]))
    · rw [if_neg he, if_neg (fun e => he e.symm)]
      by_cases hlt : x < y
      · rw [decide_eq_true hlt, decide_eq_false (by omega)]; rfl
      · rw [decide_eq_false hlt, decide_eq_true (by omega)]; rfl
  | [], _ :: _, hl, _ => by simp at hl
  | _ :: _, [], hl, _ => by simp at hl
theorem lessL_trans : ∀ a b c : List Int, lessL a b = true → lessL b c = true → lessL a c = true
  | x :: a, y :: b, z :: c, h1, h2 => by
    simp only [lessL] at h1 h2 ⊢
    by_cases e1 : x = y
    · subst e1
      rw [if_pos rfl] at h1
      by_cases e2 : x = z
      · subst e2
        rw [if_pos rfl] at h2 ⊢
        exact lessL_trans a b c h1 h2
      · rw [if_neg e2] at h2 ⊢
        exact h2
    · rw [if_neg e1] at h1
      have h1' := of_decide_eq_true h1
      by_cases e2 : y = z
      · subst e2
        rw [if_neg e1]
        exact h1
      · rw [if_neg e2] at h2
        have h2' := of_decide_eq_true h2
        rw [if_neg (by omega)]
        exact decide_eq_true (by omega)
  | [], _, _, h1, _ => by simp [lessL] at h1
  | _ :: _, [], _, h1, _ => by simp [lessL] at h1
  | _ :: _, _ :: _, [], _, h2 => by simp [lessL] at h2
theorem bitLen_mono_lt (x y : Nat) (hx : x ≤ 255) (hy : y ≤ 255) (h : Lib.bitLen x < Lib.bitLen y) : x < y := by
  have hb : ∀ (x y : Fin 256), Lib.bitLen x.val < Lib.bitLen y.val → x.val < y.val := by decide +kernel
  exact hb ⟨x, by omega⟩ ⟨y, by omega⟩ h
theorem pz_less : ∀ (d e : List Int) (j : Nat), Bytes d → Bytes e → d.length = e.length → j + d.length = 20 → pz e j < pz d j → lessL d e = true
  | [], [], j, _, _, _, _, h => by simp [pz] at h
  | x :: d, y :: e, j, hd, he, hl, hj, h => by
    simp only [List.length_cons] at hl hj
    have hx := hd x List.mem_cons_self
    have hy := he y List.mem_cons_self
    have hx0 := hx.1
    have hx1 := hx.2
    have hy0 := hy.1
    have hy1 := hy.2
    have hd' : Bytes d := fun z hz => hd z (List.mem_cons_of_mem _ hz)
    have he' : Bytes e := fun z hz => he z (List.mem_cons_of_mem _ hz)
    have ec : ((j + 1 : Nat) : Int) = (j : Int) + 1 := by omega
    have sd := pz_spec d (j + 1) hd' (by omega)
    have se := pz_spec e (j + 1) he' (by omega)
    rw [ec] at sd se
    simp only [pz] at h
    simp only [lessL]
    by_cases ex : x = 0
    · rw [if_pos ex] at h
      by_cases ey : y = 0
      · rw [if_pos ey] at h
        rw [if_pos (by rw [ex, ey])]
        exact pz_less d e (j + 1) hd' he' (by omega) (by omega) (by rw [ec]; exact h)
      · rw [if_neg (fun q => ey (by rw [← q, ex]))]
        exact decide_eq_true (by omega)
    · rw [if_neg ex] at h
      by_cases ey : y = 0
      · rw [if_pos ey] at h
        have l := byte_lead ⟨x.toNat, by omega⟩ 0 (by show x.toNat ≠ 0; omega)
        have l1 := l.1
        simp only at l1
        have := se.1
        omega
      · rw [if_neg ey] at h
        have hlt := bitLen_mono_lt x.toNat y.toNat (by omega) (by omega) (by omega)
        rw [if_neg (by omega)]
        exact decide_eq_true (by omega)
  | [], _ :: _, _, _, _, hl, _, _ => by simp at hl
  | _ :: _, [], _, _, _, hl, _, _ => by simp at hl
end Go.Proofs.Ytbkcopejclcfdaa

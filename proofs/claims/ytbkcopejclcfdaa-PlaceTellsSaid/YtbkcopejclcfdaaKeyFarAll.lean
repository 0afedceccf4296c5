/- KeyFar: whatever the keys. -/
import Derived.Test.YtbkcopejclcfdaaKeyFar
namespace Go.Proofs.Ytbkcopejclcfdaa
open Go.RowKit Go.Proofs.Ytbkcopejclcfdaa.Sum

theorem key_ext {a b : List Int} (ha : a.length = 20) (hb : b.length = 20) (h : ∀ i, i < 20 → a.getD i 0 = b.getD i 0) : a = b := by
  apply List.ext_getElem (by omega)
  intro i h1 h2
  have := h i (by omega)
  rw [List.getD_eq_getElem?_getD, List.getD_eq_getElem?_getD, List.getElem?_eq_getElem h1, List.getElem?_eq_getElem h2] at this
  exact this
theorem xb_self {a : Int} (ha : Byte a) : xb a a = 0 := by rw [xb_nat ha ha, Nat.xor_self]; rfl
theorem z20_getD (i : Nat) (hi : i < 20) : z20.getD i 0 = 0 := by
  have h : ∀ i : Fin 20, z20.getD i.val 0 = 0 := by decide
  exact h ⟨i, hi⟩
theorem addRow_comm {a b : List Int} (ha : Key20 a) (hb : Key20 b) : addRow b a = addRow a b :=
  key_ext (key_addRow hb ha).len (key_addRow ha hb).len fun i hi => by
    rw [addRow_getD b a i (by rw [hb.len]; exact hi), addRow_getD a b i (by rw [ha.len]; exact hi)]
    exact xb_comm (getD_byte hb.bytes i) (getD_byte ha.bytes i)
theorem addRow_self {a : List Int} (ha : Key20 a) : addRow a a = z20 :=
  key_ext (key_addRow ha ha).len z20_len fun i hi => by
    rw [addRow_getD a a i (by rw [ha.len]; exact hi), z20_getD i hi]
    exact xb_self (getD_byte ha.bytes i)
theorem xb_mid {a b c : Int} (ha : Byte a) (hb : Byte b) (hc : Byte c) : xb (xb a b) (xb b c) = xb a c := by
  rw [xb_assoc ha hb (xb_byte hb hc), ← xb_assoc hb hb hc, xb_self hb, zero_xb hc]
theorem addRow_mid {a b c : List Int} (ha : Key20 a) (hb : Key20 b) (hc : Key20 c) : addRow (addRow a b) (addRow b c) = addRow a c :=
  key_ext (key_addRow (key_addRow ha hb) (key_addRow hb hc)).len (key_addRow ha hc).len fun i hi => by
    rw [addRow_getD (addRow a b) _ i (by rw [(key_addRow ha hb).len]; exact hi), addRow_getD a b i (by rw [ha.len]; exact hi), addRow_getD b c i (by rw [hb.len]; exact hi), addRow_getD a c i (by rw [ha.len]; exact hi)]
    exact xb_mid (getD_byte ha.bytes i) (getD_byte hb.bytes i) (getD_byte hc.bytes i)
theorem xb_eq_zero {a b : Int} (ha : Byte a) (hb : Byte b) (h : xb a b = 0) : a = b := by
  have e : xb a (xb a b) = b := by rw [← xb_assoc ha ha hb, xb_self ha, zero_xb hb]
  rw [h, xb_zero ha] at e
  exact e
theorem addRow_zero {a b : List Int} (ha : Key20 a) (hb : Key20 b) : addRow a b = z20 ↔ a = b := by
  constructor
  · intro h
    refine key_ext ha.len hb.len fun i hi => xb_eq_zero (getD_byte ha.bytes i) (getD_byte hb.bytes i) ?_
    rw [← addRow_getD a b i (by rw [ha.len]; exact hi), h, z20_getD i hi]
  · rintro rfl
    exact addRow_self ha
theorem far_all (a b c : List Int) (w : World) (ha : Key20 a) (hb : Key20 b) (hc : Key20 c) :
    Calls Try.prog 3 #[.agg (kv a), .agg (kv b), .agg (kv c)] w fun e w' => e = .returned (.bool true) ∧ Below w.heap.size w w' :=
  far_any a b c w ha hb hc (decide (a = b)) (addRow_comm ha hb) (addRow_self ha) (addRow_mid ha hb hc) (decide_eq_decide.2 (addRow_zero ha hb)) rfl
end Go.Proofs.Ytbkcopejclcfdaa

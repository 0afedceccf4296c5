/- KeyOrder: whatever the keys. -/
import Derived.Test.YtbkcopejclcfdaaKeyOrder
import Derived.Test.YtbkcopejclcfdaaKeyPlain
namespace Go.Proofs.Ytbkcopejclcfdaa
open Go.RowKit Go.Proofs.Ytbkcopejclcfdaa.Sum

theorem order_any (a b c : List Int) (w : World) (ha : Key20 a) (hb : Key20 b) (hc : Key20 c) :
    Calls Try.prog 5 #[.agg (kv a), .agg (kv b), .agg (kv c)] w fun e w' => e = .returned (.bool true) ∧ Below w.heap.size w w' := by
  have la := lessL_irrefl a
  have hp : pz (addRow b c) 0 < pz (addRow a c) 0 → lessL (addRow a c) (addRow b c) = true := fun h =>
    pz_less (addRow a c) (addRow b c) 0 (key_addRow ha hc).bytes (key_addRow hb hc).bytes (by rw [(key_addRow ha hc).len, (key_addRow hb hc).len]) (by rw [(key_addRow ha hc).len]) h
  by_cases he : a = b
  · subst he
    exact order_c1 a a c w ha ha hc la (decide_eq_true rfl) la la hp
  · have ne := decide_eq_false he
    have ht := lessL_total a b (by rw [ha.len, hb.len]) he
    cases hab : lessL a b with
    | false => exact order_c2 a b c w ha hb hc la ne hab (by rw [hab] at ht; simpa using ht) hp
    | true =>
      have hba : lessL b a = false := by rw [hab] at ht; simpa using ht
      cases hbc : lessL b c with
      | false => exact order_c3 a b c w ha hb hc la ne hab hba hbc hp
      | true => exact order_c4 a b c w ha hb hc la ne hab hba hbc (lessL_trans a b c hab hbc) hp
end Go.Proofs.Ytbkcopejclcfdaa

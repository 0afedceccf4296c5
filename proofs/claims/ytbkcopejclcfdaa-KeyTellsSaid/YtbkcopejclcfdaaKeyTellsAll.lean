/- KeyTells over what came in. -/
import Derived.Test.YtbkcopejclcfdaaKeyTells
import Derived.Test.YtbkcopejclcfdaaBytes
namespace Go.Proofs.Ytbkcopejclcfdaa
open Go.RowKit Go.Proofs.YtbkcopejclcfdaaW.PrintWords Go.Proofs.Ytbkcopejclcfdaa.Sum
/-- what came in lies at an address without a spot -/
theorem spot_none {w : World} {a : Addr} {v : Value} (h : w.cell? a = some v) : a = ⟨a.block, a.off, none⟩ := by
  obtain ⟨b, o, sp⟩ := a
  cases sp with
  | none => rfl
  | some s =>
    unfold World.cell? at h
    split at h
    · simp at h
    · cases h
theorem reads_at {w : World} {k : IntKind} {A : Option Addr} {xs : List Int} (h : Kd.C (Kd.int k) w A xs.length xs) (h0 : 0 < xs.length) :
    ∃ b off, A = some ⟨b, off, none⟩ ∧ b < w.heap.size ∧ ∀ j, j < xs.length → w.cell? ⟨b, off + j, none⟩ = some (.int k (xs.getD j 0)) := by
  obtain ⟨_, _, hr⟩ := Kd.reads_of_C (enc := Value.int k) (d := (0 : Int)) (h1 := fun _ => rfl) h
  obtain ⟨ad, e, hc⟩ := hr h0
  have h1 := hc 0 h0
  have e1 : ad.add 0 = ad := by simp [Addr.add]
  rw [e1] at h1
  have hs := spot_none h1
  refine ⟨ad.block, ad.off, by rw [← hs]; exact e, World.block_lt_of_cell? _ _ h1, fun j hj => ?_⟩
  have h2 := hc j hj
  rw [hs, Addr.add_lit] at h2
  exact h2
theorem nums_of_C {w : World} {A : Option Addr} {xs : List Int} (h : Kd.C (Kd.int .i64) w A xs.length xs) : Nums w A xs := fun j hj => by
  obtain ⟨b, off, h1, h2, h3⟩ := reads_at h (by omega)
  exact ⟨b, off, h1, h2, h3 j hj⟩
theorem tells_all (W : World) (A : Option Addr) (cap : Nat) (xs a b : List Int) (h : Kd.C (Kd.int .i64) W A xs.length xs) (hz : xs.length * 8 ≤ reachBytes) (ha : Key20 a) (hb : Key20 b) :
    Calls Try.prog 4 #[.slice A xs.length cap, .agg (kv a), .agg (kv b)] W fun e W' => e = .returned (.bool true) ∧ Below W.heap.size W W' :=
  tells_any A cap xs a b W (by unfold reachBytes at hz; omega) (nums_of_C h) ha hb
end Go.Proofs.Ytbkcopejclcfdaa

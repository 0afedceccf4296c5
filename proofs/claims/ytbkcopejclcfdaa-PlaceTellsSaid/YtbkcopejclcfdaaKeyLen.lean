/- LeadingZeros8: the library's own contract, laid. -/
import Derived.Test.YtbkcopejclcfdaaKeyRand
import Derived.Shelf.Small.Bits
namespace Go.Proofs.Ytbkcopejclcfdaa
open Go.RowKit Go.Proofs.Ytbkcopejclcfdaa.Rand Go.Shelf

def renL : Ren := ⟨fun n => if n = 126 then 72 else 52, fun n => n, fun n => n⟩
theorem laysL : Lays.n131 Try.prog renL where
  mixed := by kernel_rfl
  f126 := by kernel_rfl
  f131 := by kernel_rfl
  t3 := by kernel_rfl
  a3 := fun w => by kernel_rfl
  z3 := fun w => by kernel_rfl
  v3 := fun w => by kernel_rfl
  t5 := by kernel_rfl
  a5 := fun w => by kernel_rfl
  z5 := fun w => by kernel_rfl
  v5 := fun w => by kernel_rfl
  t9 := by kernel_rfl
  a9 := fun w => by kernel_rfl
  z9 := fun w => by kernel_rfl
  v9 := fun w => by kernel_rfl

/-- LeadingZeros8 -/
theorem lz8_any (x : Int) (w : World) (h0 : 0 ≤ x) (h1 : x ≤ 255) : Calls Try.prog 52 #[.int .u8 x] w fun e w' => e = .returned (.int .i64 (8 - (Lib.bitLen x.toNat : Int))) ∧ w' = w :=
  Any.bits_LeadingZeros8 laysL x w h0 h1
end Go.Proofs.Ytbkcopejclcfdaa

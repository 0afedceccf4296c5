/- CallsOnce over numbers that came in. -/
import Derived.Test.YtddchhoplomjgaaCOnce
import Derived.Test.YtddchhoplomjgaaNums
namespace Go.Proofs.Ytddchhoplomjgaa
open Go.RowKit Go.Proofs.YtddchhoplomjgaaW.PrintWords
theorem nums_of_C {w : World} {A : Option Addr} {xs : List Int} (h : Kd.C (Kd.int .i64) w A xs.length xs) : Nums w A xs := fun j hj => by
  obtain ⟨b, off, h1, h2, h3⟩ := reads_at h (by omega)
  exact ⟨b, off, h1, h2, h3 j hj⟩
theorem conce_all (W : World) (n : Int) (A : Option Addr) (cap : Nat) (xs : List Int) (h : Kd.C (Kd.int .i64) W A xs.length xs) (hz : xs.length * 8 ≤ reachBytes) :
    Calls Try.prog 3 #[.int .i64 n, .slice A xs.length cap] W fun e W' => e = .returned (.bool true) ∧ Below W.heap.size W W' :=
  conce_any W n A cap xs (by unfold reachBytes at hz; omega) (nums_of_C h)
end Go.Proofs.Ytddchhoplomjgaa

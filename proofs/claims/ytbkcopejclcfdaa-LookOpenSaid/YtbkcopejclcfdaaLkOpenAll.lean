/- LookOpen over what came in. -/
import Derived.Test.YtbkcopejclcfdaaLkOpen
namespace Go.Proofs.Ytbkcopejclcfdaa
open Go.RowKit
theorem lookOpen_all (W : World) (k : List Int) (n early : Int) (hk : Key20 k) : Calls Try.prog 11 #[.agg (kv k), .int .i64 n, .int .i64 early] W fun e W' => e = .returned (.bool true) ∧ Below W.heap.size W W' := lookOpen_any W k hk n early
end Go.Proofs.Ytbkcopejclcfdaa

/- A parameter of the type Id: opened; PlaceTells over what came in. -/
import Derived.Test.YtbkcopejclcfdaaPlTells
import Derived.Test.YtbkcopejclcfdaaKeyOpen
namespace Go.Proofs.Ytbkcopejclcfdaa
open Go.RowKit Go.ChangeShapes Go.Proofs.YtbkcopejclcfdaaW.PrintWords
theorem open_id {H : Type} {enc : TypeId × Value → H} {r : Reach} {b0 : Nat} {w : World} {base : Nat} {held : Bool} {v : Value} {d : DataW H} {ps : List MemPlace} (hval : Value.okWide Try.prog w r b0 34 v) (hd : DataW.Trod enc Try.prog w base (fun _ => true) held 34 v d ps) :
    ∃ a b : Int, v = .agg #[.int .i64 a, .int .i64 b] := by
  obtain ⟨cs, rfl, hsz⟩ : ∃ cs, v = .agg cs ∧ cs.size = Try.prog.cellsOf 34 := by
    have := hval
    simp [Value.okWide, Try.underlying34] at this
    obtain ⟨cs, h1, h2, _⟩ := this
    exact ⟨cs, h1, h2⟩
  obtain ⟨fuel, hf⟩ := hd
  have hf' : DataW.trod enc Try.prog w base (fun _ => true) held fuel 34 cs.toList = some (d, ps) := hf
  obtain ⟨a, b, e⟩ := trod_id hf'
  exact ⟨a, b, by congr 1; exact Array.ext' e⟩
theorem placeTells_all (W : World) (peer number block esi : Int) (k : List Int) (hk : Key20 k) (A1 A2 : Option Addr) (n1 cap1 cap2 : Nat) (l : List Int) (xs : List Rc) (h2 : Kd.C (Kd.int .i64) W A2 l.length l) (hcap : l.length ≤ cap2) (hn1 : n1 = xs.length) (hl : n1 ≤ 9223372036854775807) (hr1 : Recs W A1 xs) :
    Calls Try.prog 6 #[.agg #[.int .i64 peer, .int .i64 number], .int .i64 block, .int .i64 esi, .agg (kv k), .slice A2 l.length cap2, .slice A1 n1 cap1] W fun e W' => e = .returned (.bool true) ∧ Below W.heap.size W W' :=
  placeTells_any W peer number block esi k hk A1 A2 n1 l.length cap1 cap2 l xs hn1 rfl hcap hl hr1 (Reads.of_nums (nums_of_C h2))
end Go.Proofs.Ytbkcopejclcfdaa

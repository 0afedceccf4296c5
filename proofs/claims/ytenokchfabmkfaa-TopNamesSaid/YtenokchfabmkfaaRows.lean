/-
  No cell of these rows narrows 'for every input' (looked for: loops, veiled, ifaces, maps, wideKeys, modest, calm, conditions, laid).
  DERIVED. THE GIVEN ROWS OF THIS SEAT. 11 by the template 'for every input the law returns true; each argument reads behind the call as it read before'; 0 by the template 'total and deterministic' (their statements: YtenokchfabmkfaaTotals.lean).
  GIVEN WITH THE SEED: the statements are not yours to turn. If you find one false, say at which input.
  Laid BY PROGRAM, IN A SANDBOX (cutbox-rows.mjs): the forced cells as the released guide's own fill.sh prints them over the translation aac35607ebd67122… (all of the seat's roots in one cut). By AI agents, Wed Nov 11 2026. No macro, syntax, notation, axiom, sorry.
-/
import Derived.Test.YtenokchfabmkfaaChecked
import GoSem.Claim
import GoSem.ClaimJoined
import GoSem.ClaimMapViews
import Derived.JoinedTies
import Derived.KernelRfl
namespace Go.Proofs.Ytenokchfabmkfaa
/- THE CELL 'sum', in the pinned program and in every row, IS THE sha256 OF THE DUMP (.gsa) THAT YtenokchfabmkfaaProg.lean LOADS. Nothing in Lean hashes anything: it is a label: what it is worth is what the hold of that sum in a sandbox is worth. -/
noncomputable def Try.pinned : Pinned := { name := "ytenokchfabmkfaa", sum := "aac35607ebd671221889565b564709daa0605a135c0da4188f277547bfbb29d7", checked := Try.checked }
namespace Rows
def none {H : Type} : Left H := { results := [], args := [] }

/-- 'fountainlaw5.ParamsTell': WHATEVER THE INPUT: true; the input reads as it did. -/
def paramsTellSpec : ChangeSpec := { name := "paramsTell", fn := fun _ => fun
  | [d1, d2, d3] => { results := [.lit (.bool true)], args := [d1, d2, d3] }
  | _ => none }
def paramsTellRow : OpenClaim := { program := "ytenokchfabmkfaa", sum := "aac35607ebd671221889565b564709daa0605a135c0da4188f277547bfbb29d7", func := "fountain/fountainlaw5.ParamsTell", spec := "paramsTell", apart := false }
def ParamsTellSaid : Prop := paramsTellRow.holds Try.pinned (OpenSpec.ofChange paramsTellSpec)

/-- ITS FALSE NEIGHBOUR: 'it returns false'. Refute it at one input. -/
def paramsTellWrong : ChangeSpec := { name := "paramsTell", fn := fun _ => fun
  | [d1, d2, d3] => { results := [.lit (.bool false)], args := [d1, d2, d3] }
  | _ => none }
def ParamsTellWrongFalsely : Prop := paramsTellRow.holds Try.pinned (OpenSpec.ofChange paramsTellWrong)

/-- 'fountainlaw4.RandomStirs': WHATEVER THE INPUT: true; the input reads as it did. -/
def randomStirsSpec : ChangeSpec := { name := "randomStirs", fn := fun _ => fun
  | [d1, d2] => { results := [.lit (.bool true)], args := [d1, d2] }
  | _ => none }
def randomStirsRow : OpenClaim := { program := "ytenokchfabmkfaa", sum := "aac35607ebd671221889565b564709daa0605a135c0da4188f277547bfbb29d7", func := "fountain/fountainlaw4.RandomStirs", spec := "randomStirs", apart := false }
def RandomStirsSaid : Prop := randomStirsRow.holds Try.pinned (OpenSpec.ofChange randomStirsSpec)

/-- ITS FALSE NEIGHBOUR: 'it returns false'. Refute it at one input. -/
def randomStirsWrong : ChangeSpec := { name := "randomStirs", fn := fun _ => fun
  | [d1, d2] => { results := [.lit (.bool false)], args := [d1, d2] }
  | _ => none }
def RandomStirsWrongFalsely : Prop := randomStirsRow.holds Try.pinned (OpenSpec.ofChange randomStirsWrong)

/-- 'fountainlaw4.RandomDegrees': WHATEVER THE INPUT: true; the input reads as it did. -/
def randomDegreesSpec : ChangeSpec := { name := "randomDegrees", fn := fun _ => fun
  | [d1, d2] => { results := [.lit (.bool true)], args := [d1, d2] }
  | _ => none }
def randomDegreesRow : OpenClaim := { program := "ytenokchfabmkfaa", sum := "aac35607ebd671221889565b564709daa0605a135c0da4188f277547bfbb29d7", func := "fountain/fountainlaw4.RandomDegrees", spec := "randomDegrees", apart := false }
def RandomDegreesSaid : Prop := randomDegreesRow.holds Try.pinned (OpenSpec.ofChange randomDegreesSpec)

/-- ITS FALSE NEIGHBOUR: 'it returns false'. Refute it at one input. -/
def randomDegreesWrong : ChangeSpec := { name := "randomDegrees", fn := fun _ => fun
  | [d1, d2] => { results := [.lit (.bool false)], args := [d1, d2] }
  | _ => none }
def RandomDegreesWrongFalsely : Prop := randomDegreesRow.holds Try.pinned (OpenSpec.ofChange randomDegreesWrong)

/-- 'fountainlaw4.RandomTells': WHATEVER THE INPUT: true; the input reads as it did. -/
def randomTellsSpec : ChangeSpec := { name := "randomTells", fn := fun _ => fun
  | [d1, d2, d3, d4, d5] => { results := [.lit (.bool true)], args := [d1, d2, d3, d4, d5] }
  | _ => none }
def randomTellsRow : OpenClaim := { program := "ytenokchfabmkfaa", sum := "aac35607ebd671221889565b564709daa0605a135c0da4188f277547bfbb29d7", func := "fountain/fountainlaw4.RandomTells", spec := "randomTells", apart := false }
def RandomTellsSaid : Prop := randomTellsRow.holds Try.pinned (OpenSpec.ofChange randomTellsSpec)

/-- ITS FALSE NEIGHBOUR: 'it returns false'. Refute it at one input. -/
def randomTellsWrong : ChangeSpec := { name := "randomTells", fn := fun _ => fun
  | [d1, d2, d3, d4, d5] => { results := [.lit (.bool false)], args := [d1, d2, d3, d4, d5] }
  | _ => none }
def RandomTellsWrongFalsely : Prop := randomTellsRow.holds Try.pinned (OpenSpec.ofChange randomTellsWrong)

/-- 'fountainlaw4.RandomBelow': WHATEVER THE INPUT: true; the input reads as it did. -/
def randomBelowSpec : ChangeSpec := { name := "randomBelow", fn := fun _ => fun
  | [d1, d2, d3] => { results := [.lit (.bool true)], args := [d1, d2, d3] }
  | _ => none }
def randomBelowRow : OpenClaim := { program := "ytenokchfabmkfaa", sum := "aac35607ebd671221889565b564709daa0605a135c0da4188f277547bfbb29d7", func := "fountain/fountainlaw4.RandomBelow", spec := "randomBelow", apart := false }
def RandomBelowSaid : Prop := randomBelowRow.holds Try.pinned (OpenSpec.ofChange randomBelowSpec)

/-- ITS FALSE NEIGHBOUR: 'it returns false'. Refute it at one input. -/
def randomBelowWrong : ChangeSpec := { name := "randomBelow", fn := fun _ => fun
  | [d1, d2, d3] => { results := [.lit (.bool false)], args := [d1, d2, d3] }
  | _ => none }
def RandomBelowWrongFalsely : Prop := randomBelowRow.holds Try.pinned (OpenSpec.ofChange randomBelowWrong)

/-- 'fountaintop.TopNames': WHATEVER THE INPUT: true; the input reads as it did. -/
def topNamesSpec : ChangeSpec := { name := "topNames", fn := fun _ => fun
  | [] => { results := [.lit (.bool true)], args := [] }
  | _ => none }
def topNamesRow : OpenClaim := { program := "ytenokchfabmkfaa", sum := "aac35607ebd671221889565b564709daa0605a135c0da4188f277547bfbb29d7", func := "fountain/fountaintop.TopNames", spec := "topNames", apart := false }
def TopNamesSaid : Prop := topNamesRow.holds Try.pinned (OpenSpec.ofChange topNamesSpec)

/-- ITS FALSE NEIGHBOUR: 'it returns false'. Refute it at one input. -/
def topNamesWrong : ChangeSpec := { name := "topNames", fn := fun _ => fun
  | [] => { results := [.lit (.bool false)], args := [] }
  | _ => none }
def TopNamesWrongFalsely : Prop := topNamesRow.holds Try.pinned (OpenSpec.ofChange topNamesWrong)

/-- 'fountainlaw6.TupleOnce': WHATEVER THE INPUT: true; the input reads as it did. -/
def tupleOnceSpec : ChangeSpec := { name := "tupleOnce", fn := fun _ => fun
  | [d1, d2, d3] => { results := [.lit (.bool true)], args := [d1, d2, d3] }
  | _ => none }
def tupleOnceRow : OpenClaim := { program := "ytenokchfabmkfaa", sum := "aac35607ebd671221889565b564709daa0605a135c0da4188f277547bfbb29d7", func := "fountain/fountainlaw6.TupleOnce", spec := "tupleOnce", apart := false }
def TupleOnceSaid : Prop := tupleOnceRow.holds Try.pinned (OpenSpec.ofChange tupleOnceSpec)

/-- ITS FALSE NEIGHBOUR: 'it returns false'. Refute it at one input. -/
def tupleOnceWrong : ChangeSpec := { name := "tupleOnce", fn := fun _ => fun
  | [d1, d2, d3] => { results := [.lit (.bool false)], args := [d1, d2, d3] }
  | _ => none }
def TupleOnceWrongFalsely : Prop := tupleOnceRow.holds Try.pinned (OpenSpec.ofChange tupleOnceWrong)

/-- 'fountainlaw6.TupleTells': WHATEVER THE INPUT: true; the input reads as it did. -/
def tupleTellsSpec : ChangeSpec := { name := "tupleTells", fn := fun _ => fun
  | [d1, d2, d3] => { results := [.lit (.bool true)], args := [d1, d2, d3] }
  | _ => none }
def tupleTellsRow : OpenClaim := { program := "ytenokchfabmkfaa", sum := "aac35607ebd671221889565b564709daa0605a135c0da4188f277547bfbb29d7", func := "fountain/fountainlaw6.TupleTells", spec := "tupleTells", apart := false }
def TupleTellsSaid : Prop := tupleTellsRow.holds Try.pinned (OpenSpec.ofChange tupleTellsSpec)

/-- ITS FALSE NEIGHBOUR: 'it returns false'. Refute it at one input. -/
def tupleTellsWrong : ChangeSpec := { name := "tupleTells", fn := fun _ => fun
  | [d1, d2, d3] => { results := [.lit (.bool false)], args := [d1, d2, d3] }
  | _ => none }
def TupleTellsWrongFalsely : Prop := tupleTellsRow.holds Try.pinned (OpenSpec.ofChange tupleTellsWrong)

/-- 'fountainlaw6.TupleOther': WHATEVER THE INPUT: true; the input reads as it did. -/
def tupleOtherSpec : ChangeSpec := { name := "tupleOther", fn := fun _ => fun
  | [d1, d2, d3, d4, d5] => { results := [.lit (.bool true)], args := [d1, d2, d3, d4, d5] }
  | _ => none }
def tupleOtherRow : OpenClaim := { program := "ytenokchfabmkfaa", sum := "aac35607ebd671221889565b564709daa0605a135c0da4188f277547bfbb29d7", func := "fountain/fountainlaw6.TupleOther", spec := "tupleOther", apart := false }
def TupleOtherSaid : Prop := tupleOtherRow.holds Try.pinned (OpenSpec.ofChange tupleOtherSpec)

/-- ITS FALSE NEIGHBOUR: 'it returns false'. Refute it at one input. -/
def tupleOtherWrong : ChangeSpec := { name := "tupleOther", fn := fun _ => fun
  | [d1, d2, d3, d4, d5] => { results := [.lit (.bool false)], args := [d1, d2, d3, d4, d5] }
  | _ => none }
def TupleOtherWrongFalsely : Prop := tupleOtherRow.holds Try.pinned (OpenSpec.ofChange tupleOtherWrong)

/-- 'fountainlaw8.DropsLine': WHATEVER THE INPUT: true; the input reads as it did. -/
def dropsLineSpec : ChangeSpec := { name := "dropsLine", fn := fun _ => fun
  | [d1, d2, d3, d4, d5, d6] => { results := [.lit (.bool true)], args := [d1, d2, d3, d4, d5, d6] }
  | _ => none }
def dropsLineRow : OpenClaim := { program := "ytenokchfabmkfaa", sum := "aac35607ebd671221889565b564709daa0605a135c0da4188f277547bfbb29d7", func := "fountain/fountainlaw8.DropsLine", spec := "dropsLine", apart := false }
def DropsLineSaid : Prop := dropsLineRow.holds Try.pinned (OpenSpec.ofChange dropsLineSpec)

/-- ITS FALSE NEIGHBOUR: 'it returns false'. Refute it at one input. -/
def dropsLineWrong : ChangeSpec := { name := "dropsLine", fn := fun _ => fun
  | [d1, d2, d3, d4, d5, d6] => { results := [.lit (.bool false)], args := [d1, d2, d3, d4, d5, d6] }
  | _ => none }
def DropsLineWrongFalsely : Prop := dropsLineRow.holds Try.pinned (OpenSpec.ofChange dropsLineWrong)

/-- 'fountainlaw8.DropsTell': WHATEVER THE INPUT: true; the input reads as it did. -/
def dropsTellSpec : ChangeSpec := { name := "dropsTell", fn := fun _ => fun
  | [d1, d2, d3, d4, d5, d6] => { results := [.lit (.bool true)], args := [d1, d2, d3, d4, d5, d6] }
  | _ => none }
def dropsTellRow : OpenClaim := { program := "ytenokchfabmkfaa", sum := "aac35607ebd671221889565b564709daa0605a135c0da4188f277547bfbb29d7", func := "fountain/fountainlaw8.DropsTell", spec := "dropsTell", apart := false }
def DropsTellSaid : Prop := dropsTellRow.holds Try.pinned (OpenSpec.ofChange dropsTellSpec)

/-- ITS FALSE NEIGHBOUR: 'it returns false'. Refute it at one input. -/
def dropsTellWrong : ChangeSpec := { name := "dropsTell", fn := fun _ => fun
  | [d1, d2, d3, d4, d5, d6] => { results := [.lit (.bool false)], args := [d1, d2, d3, d4, d5, d6] }
  | _ => none }
def DropsTellWrongFalsely : Prop := dropsTellRow.holds Try.pinned (OpenSpec.ofChange dropsTellWrong)

/- THE SECOND FORM. 'bulk': how many values and letters a reading holds, each counted each time it is reached (what is shared counts as often as it is met; a slice's spare places count too). A statement '..UptoSaid' is the law's where the arguments, and the package variables that the reading takes, are together of bulk at most 1048576: NARROWER than '..Said'. Prove '..Said' where nothing that the law and all that it calls make is longer than what came in: it says more and counts as full. Else prove '..UptoSaid'. A law counts once. -/
mutual
def uptoBulk {H : Type} : DataW H → Nat
  | .lit (.string bytes) => bytes.length + 1
  | .lit _ => 1
  | .nil => 1
  | .ptr d => uptoBulk d + 1
  | .slice elems spare => uptoBulkAll elems + uptoBulkAll spare + 1
  | .agg parts => uptoBulkAll parts + 1
  | .iface _ d => uptoBulk d + 1
  | .map entries => uptoBulkEntries entries + 1
  | .held _ => 1
def uptoBulkAll {H : Type} : List (DataW H) → Nat
  | [] => 0
  | d :: r => uptoBulk d + uptoBulkAll r
def uptoBulkEntries {H : Type} : List (Lit × DataW H) → Nat
  | [] => 0
  | x :: r => uptoBulkEntry x + uptoBulkEntries r
def uptoBulkEntry {H : Type} : Lit × DataW H → Nat
  | (.string bytes, d) => bytes.length + uptoBulk d + 1
  | (_, d) => uptoBulk d + 1
 end
def uptoSmall : (H : Type) → List (DataW H) → Bool := fun _ ds => decide (uptoBulkAll ds ≤ 1048576)
def OpenSpec.upto (s : _root_.Go.ChangeSpec) : _root_.Go.OpenSpec := { _root_.Go.OpenSpec.ofChange s with cond := some uptoSmall }

/-- 'fountainlaw5.ParamsTell', WHERE WHAT IT READS IS OF BULK AT MOST 1048576: true; the input reads as it did. -/
def paramsTellUptoRow : OpenClaim := { program := "ytenokchfabmkfaa", sum := "aac35607ebd671221889565b564709daa0605a135c0da4188f277547bfbb29d7", func := "fountain/fountainlaw5.ParamsTell", spec := "paramsTell", apart := false, narrowed := true }
def ParamsTellUptoSaid : Prop := paramsTellUptoRow.holds Try.pinned (OpenSpec.upto paramsTellSpec)

/-- 'fountainlaw4.RandomStirs', WHERE WHAT IT READS IS OF BULK AT MOST 1048576: true; the input reads as it did. -/
def randomStirsUptoRow : OpenClaim := { program := "ytenokchfabmkfaa", sum := "aac35607ebd671221889565b564709daa0605a135c0da4188f277547bfbb29d7", func := "fountain/fountainlaw4.RandomStirs", spec := "randomStirs", apart := false, narrowed := true }
def RandomStirsUptoSaid : Prop := randomStirsUptoRow.holds Try.pinned (OpenSpec.upto randomStirsSpec)

/-- 'fountainlaw4.RandomDegrees', WHERE WHAT IT READS IS OF BULK AT MOST 1048576: true; the input reads as it did. -/
def randomDegreesUptoRow : OpenClaim := { program := "ytenokchfabmkfaa", sum := "aac35607ebd671221889565b564709daa0605a135c0da4188f277547bfbb29d7", func := "fountain/fountainlaw4.RandomDegrees", spec := "randomDegrees", apart := false, narrowed := true }
def RandomDegreesUptoSaid : Prop := randomDegreesUptoRow.holds Try.pinned (OpenSpec.upto randomDegreesSpec)

/-- 'fountainlaw4.RandomTells', WHERE WHAT IT READS IS OF BULK AT MOST 1048576: true; the input reads as it did. -/
def randomTellsUptoRow : OpenClaim := { program := "ytenokchfabmkfaa", sum := "aac35607ebd671221889565b564709daa0605a135c0da4188f277547bfbb29d7", func := "fountain/fountainlaw4.RandomTells", spec := "randomTells", apart := false, narrowed := true }
def RandomTellsUptoSaid : Prop := randomTellsUptoRow.holds Try.pinned (OpenSpec.upto randomTellsSpec)

/-- 'fountainlaw4.RandomBelow', WHERE WHAT IT READS IS OF BULK AT MOST 1048576: true; the input reads as it did. -/
def randomBelowUptoRow : OpenClaim := { program := "ytenokchfabmkfaa", sum := "aac35607ebd671221889565b564709daa0605a135c0da4188f277547bfbb29d7", func := "fountain/fountainlaw4.RandomBelow", spec := "randomBelow", apart := false, narrowed := true }
def RandomBelowUptoSaid : Prop := randomBelowUptoRow.holds Try.pinned (OpenSpec.upto randomBelowSpec)

/-- 'fountaintop.TopNames', WHERE WHAT IT READS IS OF BULK AT MOST 1048576: true; the input reads as it did. -/
def topNamesUptoRow : OpenClaim := { program := "ytenokchfabmkfaa", sum := "aac35607ebd671221889565b564709daa0605a135c0da4188f277547bfbb29d7", func := "fountain/fountaintop.TopNames", spec := "topNames", apart := false, narrowed := true }
def TopNamesUptoSaid : Prop := topNamesUptoRow.holds Try.pinned (OpenSpec.upto topNamesSpec)

/-- 'fountainlaw6.TupleOnce', WHERE WHAT IT READS IS OF BULK AT MOST 1048576: true; the input reads as it did. -/
def tupleOnceUptoRow : OpenClaim := { program := "ytenokchfabmkfaa", sum := "aac35607ebd671221889565b564709daa0605a135c0da4188f277547bfbb29d7", func := "fountain/fountainlaw6.TupleOnce", spec := "tupleOnce", apart := false, narrowed := true }
def TupleOnceUptoSaid : Prop := tupleOnceUptoRow.holds Try.pinned (OpenSpec.upto tupleOnceSpec)

/-- 'fountainlaw6.TupleTells', WHERE WHAT IT READS IS OF BULK AT MOST 1048576: true; the input reads as it did. -/
def tupleTellsUptoRow : OpenClaim := { program := "ytenokchfabmkfaa", sum := "aac35607ebd671221889565b564709daa0605a135c0da4188f277547bfbb29d7", func := "fountain/fountainlaw6.TupleTells", spec := "tupleTells", apart := false, narrowed := true }
def TupleTellsUptoSaid : Prop := tupleTellsUptoRow.holds Try.pinned (OpenSpec.upto tupleTellsSpec)

/-- 'fountainlaw6.TupleOther', WHERE WHAT IT READS IS OF BULK AT MOST 1048576: true; the input reads as it did. -/
def tupleOtherUptoRow : OpenClaim := { program := "ytenokchfabmkfaa", sum := "aac35607ebd671221889565b564709daa0605a135c0da4188f277547bfbb29d7", func := "fountain/fountainlaw6.TupleOther", spec := "tupleOther", apart := false, narrowed := true }
def TupleOtherUptoSaid : Prop := tupleOtherUptoRow.holds Try.pinned (OpenSpec.upto tupleOtherSpec)

/-- 'fountainlaw8.DropsLine', WHERE WHAT IT READS IS OF BULK AT MOST 1048576: true; the input reads as it did. -/
def dropsLineUptoRow : OpenClaim := { program := "ytenokchfabmkfaa", sum := "aac35607ebd671221889565b564709daa0605a135c0da4188f277547bfbb29d7", func := "fountain/fountainlaw8.DropsLine", spec := "dropsLine", apart := false, narrowed := true }
def DropsLineUptoSaid : Prop := dropsLineUptoRow.holds Try.pinned (OpenSpec.upto dropsLineSpec)

/-- 'fountainlaw8.DropsTell', WHERE WHAT IT READS IS OF BULK AT MOST 1048576: true; the input reads as it did. -/
def dropsTellUptoRow : OpenClaim := { program := "ytenokchfabmkfaa", sum := "aac35607ebd671221889565b564709daa0605a135c0da4188f277547bfbb29d7", func := "fountain/fountainlaw8.DropsTell", spec := "dropsTell", apart := false, narrowed := true }
def DropsTellUptoSaid : Prop := dropsTellUptoRow.holds Try.pinned (OpenSpec.upto dropsTellSpec)

end Rows
end Go.Proofs.Ytenokchfabmkfaa

/-
  No cell of these rows narrows 'for every input' (looked for: loops, veiled, ifaces, maps, wideKeys, modest, calm, conditions, laid).
  DERIVED. THE GIVEN ROWS OF THIS SEAT. 8 by the template 'for every input the law returns true; each argument reads behind the call as it read before'; 0 by the template 'total and deterministic' (their statements: YtddchhoplomjgaaTotals.lean).
  GIVEN WITH THE SEED: the statements are not yours to turn. If you find one false, say at which input.
  Laid BY PROGRAM, IN A SANDBOX (cutbox-rows.mjs): the forced cells as the released guide's own fill.sh prints them over the translation 7aec95a773a8438d… (all of the seat's roots in one cut). By AI agents, Wed Nov 11 2026. No macro, syntax, notation, axiom, sorry.
-/
import Derived.Test.YtddchhoplomjgaaChecked
import GoSem.Claim
import GoSem.ClaimJoined
import GoSem.ClaimMapViews
import Derived.JoinedTies
import Derived.KernelRfl
namespace Go.Proofs.Ytddchhoplomjgaa
/- THE CELL 'sum', in the pinned program and in every row, IS THE sha256 OF THE DUMP (.gsa) THAT YtddchhoplomjgaaProg.lean LOADS. Nothing in Lean hashes anything: it is a label: what it is worth is what the hold of that sum in a sandbox is worth. -/
noncomputable def Try.pinned : Pinned := { name := "ytddchhoplomjgaa", sum := "7aec95a773a8438d2c03cb760c3d8bd1ba7877230835d66c4718733f1f3bbf9b", checked := Try.checked }
namespace Rows
def none {H : Type} : Left H := { results := [], args := [] }

/-- 'fountainlaw21.CallsOnce': WHATEVER THE INPUT: true; the input reads as it did. -/
def callsOnceSpec : ChangeSpec := { name := "callsOnce", fn := fun _ => fun
  | [d1, d2] => { results := [.lit (.bool true)], args := [d1, d2] }
  | _ => none }
def callsOnceRow : OpenClaim := { program := "ytddchhoplomjgaa", sum := "7aec95a773a8438d2c03cb760c3d8bd1ba7877230835d66c4718733f1f3bbf9b", func := "fountain/fountainlaw21.CallsOnce", spec := "callsOnce", unfollowed := true, recurses := true, apart := false }
def CallsOnceSaid : Prop := callsOnceRow.holds Try.pinned (OpenSpec.ofChange callsOnceSpec)

/-- ITS FALSE NEIGHBOUR: 'it returns false'. Refute it at one input. -/
def callsOnceWrong : ChangeSpec := { name := "callsOnce", fn := fun _ => fun
  | [d1, d2] => { results := [.lit (.bool false)], args := [d1, d2] }
  | _ => none }
def CallsOnceWrongFalsely : Prop := callsOnceRow.holds Try.pinned (OpenSpec.ofChange callsOnceWrong)

/-- 'fountainlaw21.CallsLate': WHATEVER THE INPUT: true; the input reads as it did. -/
def callsLateSpec : ChangeSpec := { name := "callsLate", fn := fun _ => fun
  | [d1, d2] => { results := [.lit (.bool true)], args := [d1, d2] }
  | _ => none }
def callsLateRow : OpenClaim := { program := "ytddchhoplomjgaa", sum := "7aec95a773a8438d2c03cb760c3d8bd1ba7877230835d66c4718733f1f3bbf9b", func := "fountain/fountainlaw21.CallsLate", spec := "callsLate", unfollowed := true, recurses := true, apart := false }
def CallsLateSaid : Prop := callsLateRow.holds Try.pinned (OpenSpec.ofChange callsLateSpec)

/-- ITS FALSE NEIGHBOUR: 'it returns false'. Refute it at one input. -/
def callsLateWrong : ChangeSpec := { name := "callsLate", fn := fun _ => fun
  | [d1, d2] => { results := [.lit (.bool false)], args := [d1, d2] }
  | _ => none }
def CallsLateWrongFalsely : Prop := callsLateRow.holds Try.pinned (OpenSpec.ofChange callsLateWrong)

/-- 'fountainlaw15.LogLong': WHATEVER THE INPUT: true; the input reads as it did. -/
def logLongSpec : ChangeSpec := { name := "logLong", fn := fun _ => fun
  | [d] => { results := [.lit (.bool true)], args := [d] }
  | _ => none }
def logLongRow : OpenClaim := { program := "ytddchhoplomjgaa", sum := "7aec95a773a8438d2c03cb760c3d8bd1ba7877230835d66c4718733f1f3bbf9b", func := "fountain/fountainlaw15.LogLong", spec := "logLong", apart := false }
def LogLongSaid : Prop := logLongRow.holds Try.pinned (OpenSpec.ofChange logLongSpec)

/-- ITS FALSE NEIGHBOUR: 'it returns false'. Refute it at one input. -/
def logLongWrong : ChangeSpec := { name := "logLong", fn := fun _ => fun
  | [d] => { results := [.lit (.bool false)], args := [d] }
  | _ => none }
def LogLongWrongFalsely : Prop := logLongRow.holds Try.pinned (OpenSpec.ofChange logLongWrong)

/-- 'fountainlaw18.BucketKeeps': WHATEVER THE INPUT: true; the input reads as it did. -/
def bucketKeepsSpec : ChangeSpec := { name := "bucketKeeps", fn := fun _ => fun
  | [d1, d2] => { results := [.lit (.bool true)], args := [d1, d2] }
  | _ => none }
def bucketKeepsRow : OpenClaim := { program := "ytddchhoplomjgaa", sum := "7aec95a773a8438d2c03cb760c3d8bd1ba7877230835d66c4718733f1f3bbf9b", func := "fountain/fountainlaw18.BucketKeeps", spec := "bucketKeeps", unfollowed := true, recurses := true, apart := false }
def BucketKeepsSaid : Prop := bucketKeepsRow.holds Try.pinned (OpenSpec.ofChange bucketKeepsSpec)

/-- ITS FALSE NEIGHBOUR: 'it returns false'. Refute it at one input. -/
def bucketKeepsWrong : ChangeSpec := { name := "bucketKeeps", fn := fun _ => fun
  | [d1, d2] => { results := [.lit (.bool false)], args := [d1, d2] }
  | _ => none }
def BucketKeepsWrongFalsely : Prop := bucketKeepsRow.holds Try.pinned (OpenSpec.ofChange bucketKeepsWrong)

/-- 'fountainlaw18.BucketPlays': WHATEVER THE INPUT: true; the input reads as it did. -/
def bucketPlaysSpec : ChangeSpec := { name := "bucketPlays", fn := fun _ => fun
  | [d] => { results := [.lit (.bool true)], args := [d] }
  | _ => none }
def bucketPlaysRow : OpenClaim := { program := "ytddchhoplomjgaa", sum := "7aec95a773a8438d2c03cb760c3d8bd1ba7877230835d66c4718733f1f3bbf9b", func := "fountain/fountainlaw18.BucketPlays", spec := "bucketPlays", unfollowed := true, recurses := true, apart := false }
def BucketPlaysSaid : Prop := bucketPlaysRow.holds Try.pinned (OpenSpec.ofChange bucketPlaysSpec)

/-- ITS FALSE NEIGHBOUR: 'it returns false'. Refute it at one input. -/
def bucketPlaysWrong : ChangeSpec := { name := "bucketPlays", fn := fun _ => fun
  | [d] => { results := [.lit (.bool false)], args := [d] }
  | _ => none }
def BucketPlaysWrongFalsely : Prop := bucketPlaysRow.holds Try.pinned (OpenSpec.ofChange bucketPlaysWrong)

/-- 'fountainlaw18.BucketDrops': WHATEVER THE INPUT: true; the input reads as it did. -/
def bucketDropsSpec : ChangeSpec := { name := "bucketDrops", fn := fun _ => fun
  | [d1, d2] => { results := [.lit (.bool true)], args := [d1, d2] }
  | _ => none }
def bucketDropsRow : OpenClaim := { program := "ytddchhoplomjgaa", sum := "7aec95a773a8438d2c03cb760c3d8bd1ba7877230835d66c4718733f1f3bbf9b", func := "fountain/fountainlaw18.BucketDrops", spec := "bucketDrops", unfollowed := true, recurses := true, apart := false }
def BucketDropsSaid : Prop := bucketDropsRow.holds Try.pinned (OpenSpec.ofChange bucketDropsSpec)

/-- ITS FALSE NEIGHBOUR: 'it returns false'. Refute it at one input. -/
def bucketDropsWrong : ChangeSpec := { name := "bucketDrops", fn := fun _ => fun
  | [d1, d2] => { results := [.lit (.bool false)], args := [d1, d2] }
  | _ => none }
def BucketDropsWrongFalsely : Prop := bucketDropsRow.holds Try.pinned (OpenSpec.ofChange bucketDropsWrong)

/-- 'fountainlaw15.LogPlays': WHATEVER THE INPUT: true; the input reads as it did. -/
def logPlaysSpec : ChangeSpec := { name := "logPlays", fn := fun _ => fun
  | [d] => { results := [.lit (.bool true)], args := [d] }
  | _ => none }
def logPlaysRow : OpenClaim := { program := "ytddchhoplomjgaa", sum := "7aec95a773a8438d2c03cb760c3d8bd1ba7877230835d66c4718733f1f3bbf9b", func := "fountain/fountainlaw15.LogPlays", spec := "logPlays", apart := false }
def LogPlaysSaid : Prop := logPlaysRow.holds Try.pinned (OpenSpec.ofChange logPlaysSpec)

/-- ITS FALSE NEIGHBOUR: 'it returns false'. Refute it at one input. -/
def logPlaysWrong : ChangeSpec := { name := "logPlays", fn := fun _ => fun
  | [d] => { results := [.lit (.bool false)], args := [d] }
  | _ => none }
def LogPlaysWrongFalsely : Prop := logPlaysRow.holds Try.pinned (OpenSpec.ofChange logPlaysWrong)

/-- 'fountainlaw15.LogCrashes': WHATEVER THE INPUT: true; the input reads as it did. -/
def logCrashesSpec : ChangeSpec := { name := "logCrashes", fn := fun _ => fun
  | [d1, d2, d3, d4] => { results := [.lit (.bool true)], args := [d1, d2, d3, d4] }
  | _ => none }
def logCrashesRow : OpenClaim := { program := "ytddchhoplomjgaa", sum := "7aec95a773a8438d2c03cb760c3d8bd1ba7877230835d66c4718733f1f3bbf9b", func := "fountain/fountainlaw15.LogCrashes", spec := "logCrashes", apart := false }
def LogCrashesSaid : Prop := logCrashesRow.holds Try.pinned (OpenSpec.ofChange logCrashesSpec)

/-- ITS FALSE NEIGHBOUR: 'it returns false'. Refute it at one input. -/
def logCrashesWrong : ChangeSpec := { name := "logCrashes", fn := fun _ => fun
  | [d1, d2, d3, d4] => { results := [.lit (.bool false)], args := [d1, d2, d3, d4] }
  | _ => none }
def LogCrashesWrongFalsely : Prop := logCrashesRow.holds Try.pinned (OpenSpec.ofChange logCrashesWrong)

/- THE SECOND FORM. 'bulk': how many values and letters a reading holds, each counted each time it is reached (what is shared counts as often as it is met; a slice's spare places count too). A statement '..UptoSaid' is the law's where the arguments, and the package variables that the reading takes, are together of bulk at most 1048576: NARROWER than '..Said'. Prove '..Said' where nothing that the law and all that it calls make is longer than what came in: it says more and counts as full. Else prove '..UptoSaid'. A law counts once. -/
mutual
def uptoBulk {H : Type} : DataW H → Nat
  | .lit (.string bytes) => bytes.length + 1
  | .lit _ => 1
  | .nil => 1
  | .ptr d => uptoBulk d + 1
  | .slice elems spare => uptoBulkAll elems + uptoBulkAll spare + 1
  | .agg parts => uptoBulkAll parts + 1
  | .iface _ d => uptoBulk d + 1
  | .map entries => uptoBulkEntries entries + 1
  | .held _ => 1
def uptoBulkAll {H : Type} : List (DataW H) → Nat
  | [] => 0
  | d :: r => uptoBulk d + uptoBulkAll r
def uptoBulkEntries {H : Type} : List (Lit × DataW H) → Nat
  | [] => 0
  | x :: r => uptoBulkEntry x + uptoBulkEntries r
def uptoBulkEntry {H : Type} : Lit × DataW H → Nat
  | (.string bytes, d) => bytes.length + uptoBulk d + 1
  | (_, d) => uptoBulk d + 1
 end
def uptoSmall : (H : Type) → List (DataW H) → Bool := fun _ ds => decide (uptoBulkAll ds ≤ 1048576)
def OpenSpec.upto (s : _root_.Go.ChangeSpec) : _root_.Go.OpenSpec := { _root_.Go.OpenSpec.ofChange s with cond := some uptoSmall }

/-- 'fountainlaw21.CallsOnce', WHERE WHAT IT READS IS OF BULK AT MOST 1048576: true; the input reads as it did. -/
def callsOnceUptoRow : OpenClaim := { program := "ytddchhoplomjgaa", sum := "7aec95a773a8438d2c03cb760c3d8bd1ba7877230835d66c4718733f1f3bbf9b", func := "fountain/fountainlaw21.CallsOnce", spec := "callsOnce", unfollowed := true, recurses := true, apart := false, narrowed := true }
def CallsOnceUptoSaid : Prop := callsOnceUptoRow.holds Try.pinned (OpenSpec.upto callsOnceSpec)

/-- 'fountainlaw21.CallsLate', WHERE WHAT IT READS IS OF BULK AT MOST 1048576: true; the input reads as it did. -/
def callsLateUptoRow : OpenClaim := { program := "ytddchhoplomjgaa", sum := "7aec95a773a8438d2c03cb760c3d8bd1ba7877230835d66c4718733f1f3bbf9b", func := "fountain/fountainlaw21.CallsLate", spec := "callsLate", unfollowed := true, recurses := true, apart := false, narrowed := true }
def CallsLateUptoSaid : Prop := callsLateUptoRow.holds Try.pinned (OpenSpec.upto callsLateSpec)

/-- 'fountainlaw15.LogLong', WHERE WHAT IT READS IS OF BULK AT MOST 1048576: true; the input reads as it did. -/
def logLongUptoRow : OpenClaim := { program := "ytddchhoplomjgaa", sum := "7aec95a773a8438d2c03cb760c3d8bd1ba7877230835d66c4718733f1f3bbf9b", func := "fountain/fountainlaw15.LogLong", spec := "logLong", apart := false, narrowed := true }
def LogLongUptoSaid : Prop := logLongUptoRow.holds Try.pinned (OpenSpec.upto logLongSpec)

/-- 'fountainlaw18.BucketKeeps', WHERE WHAT IT READS IS OF BULK AT MOST 1048576: true; the input reads as it did. -/
def bucketKeepsUptoRow : OpenClaim := { program := "ytddchhoplomjgaa", sum := "7aec95a773a8438d2c03cb760c3d8bd1ba7877230835d66c4718733f1f3bbf9b", func := "fountain/fountainlaw18.BucketKeeps", spec := "bucketKeeps", unfollowed := true, recurses := true, apart := false, narrowed := true }
def BucketKeepsUptoSaid : Prop := bucketKeepsUptoRow.holds Try.pinned (OpenSpec.upto bucketKeepsSpec)

/-- 'fountainlaw18.BucketPlays', WHERE WHAT IT READS IS OF BULK AT MOST 1048576: true; the input reads as it did. -/
def bucketPlaysUptoRow : OpenClaim := { program := "ytddchhoplomjgaa", sum := "7aec95a773a8438d2c03cb760c3d8bd1ba7877230835d66c4718733f1f3bbf9b", func := "fountain/fountainlaw18.BucketPlays", spec := "bucketPlays", unfollowed := true, recurses := true, apart := false, narrowed := true }
def BucketPlaysUptoSaid : Prop := bucketPlaysUptoRow.holds Try.pinned (OpenSpec.upto bucketPlaysSpec)

/-- 'fountainlaw18.BucketDrops', WHERE WHAT IT READS IS OF BULK AT MOST 1048576: true; the input reads as it did. -/
def bucketDropsUptoRow : OpenClaim := { program := "ytddchhoplomjgaa", sum := "7aec95a773a8438d2c03cb760c3d8bd1ba7877230835d66c4718733f1f3bbf9b", func := "fountain/fountainlaw18.BucketDrops", spec := "bucketDrops", unfollowed := true, recurses := true, apart := false, narrowed := true }
def BucketDropsUptoSaid : Prop := bucketDropsUptoRow.holds Try.pinned (OpenSpec.upto bucketDropsSpec)

/-- 'fountainlaw15.LogPlays', WHERE WHAT IT READS IS OF BULK AT MOST 1048576: true; the input reads as it did. -/
def logPlaysUptoRow : OpenClaim := { program := "ytddchhoplomjgaa", sum := "7aec95a773a8438d2c03cb760c3d8bd1ba7877230835d66c4718733f1f3bbf9b", func := "fountain/fountainlaw15.LogPlays", spec := "logPlays", apart := false, narrowed := true }
def LogPlaysUptoSaid : Prop := logPlaysUptoRow.holds Try.pinned (OpenSpec.upto logPlaysSpec)

/-- 'fountainlaw15.LogCrashes', WHERE WHAT IT READS IS OF BULK AT MOST 1048576: true; the input reads as it did. -/
def logCrashesUptoRow : OpenClaim := { program := "ytddchhoplomjgaa", sum := "7aec95a773a8438d2c03cb760c3d8bd1ba7877230835d66c4718733f1f3bbf9b", func := "fountain/fountainlaw15.LogCrashes", spec := "logCrashes", apart := false, narrowed := true }
def LogCrashesUptoSaid : Prop := logCrashesUptoRow.holds Try.pinned (OpenSpec.upto logCrashesSpec)

end Rows
end Go.Proofs.Ytddchhoplomjgaa

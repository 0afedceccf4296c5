/-
  No cell of these rows narrows 'for every input' (looked for: loops, veiled, ifaces, maps, wideKeys, modest, calm, conditions, laid).
  DERIVED. THE GIVEN ROWS OF THIS SEAT. 3 by the template 'for every input the law returns true; each argument reads behind the call as it read before'; 0 by the template 'total and deterministic' (their statements: YtkimkgbppegkhaaGreatTotals.lean).
  GIVEN WITH THE SEED: the statements are not yours to turn. If you find one false, say at which input.
  Laid BY PROGRAM, IN A SANDBOX (cutbox-rows.mjs): the forced cells as the released guide's own fill.sh prints them over the translation 47e8122559dbce58… (all of the seat's roots in one cut). By AI agents, Wed Nov 11 2026. No macro, syntax, notation, axiom, sorry.
-/
import Derived.Test.YtkimkgbppegkhaaGreatChecked
import GoSem.Claim
import GoSem.ClaimJoined
import GoSem.ClaimMapViews
import Derived.JoinedTies
import Derived.KernelRfl
namespace Go.Proofs.YtkimkgbppegkhaaGreat
/- THE CELL 'sum', in the pinned program and in every row, IS THE sha256 OF THE DUMP (.gsa) THAT YtkimkgbppegkhaaGreatProg.lean LOADS. Nothing in Lean hashes anything: it is a label: what it is worth is what the hold of that sum in a sandbox is worth. -/
noncomputable def Tryz.pinned : Pinned := { name := "ytkimkgbppegkhaagreat", sum := "47e8122559dbce5829f03c24bb996342a5ed3bdefc6b08880e7bab752b01813d", checked := Tryz.checked }
namespace Rows
def none {H : Type} : Left H := { results := [], args := [] }

/-- 'fountaintop.TopRebirth': WHATEVER THE INPUT: true; the input reads as it did. -/
def topRebirthSpec : ChangeSpec := { name := "topRebirth", fn := fun _ => fun
  | [d1, d2, d3, d4] => { results := [.lit (.bool true)], args := [d1, d2, d3, d4] }
  | _ => none }
def topRebirthRow : OpenClaim := { program := "ytkimkgbppegkhaagreat", sum := "47e8122559dbce5829f03c24bb996342a5ed3bdefc6b08880e7bab752b01813d", func := "fountain/fountaintop.TopRebirth", spec := "topRebirth", inPlace := ["slices.overlaps[fountain/api.Record]"], unfollowed := true, recurses := true, plainKeys := false, apart := false }
def TopRebirthSaid : Prop := topRebirthRow.holds Tryz.pinned (OpenSpec.ofChange topRebirthSpec)

/-- ITS FALSE NEIGHBOUR: 'it returns false'. Refute it at one input. -/
def topRebirthWrong : ChangeSpec := { name := "topRebirth", fn := fun _ => fun
  | [d1, d2, d3, d4] => { results := [.lit (.bool false)], args := [d1, d2, d3, d4] }
  | _ => none }
def TopRebirthWrongFalsely : Prop := topRebirthRow.holds Tryz.pinned (OpenSpec.ofChange topRebirthWrong)

/-- 'fountaintop.TopMore': WHATEVER THE INPUT: true; the input reads as it did. -/
def topMoreSpec : ChangeSpec := { name := "topMore", fn := fun _ => fun
  | [d1, d2, d3, d4, d5] => { results := [.lit (.bool true)], args := [d1, d2, d3, d4, d5] }
  | _ => none }
def topMoreRow : OpenClaim := { program := "ytkimkgbppegkhaagreat", sum := "47e8122559dbce5829f03c24bb996342a5ed3bdefc6b08880e7bab752b01813d", func := "fountain/fountaintop.TopMore", spec := "topMore", inPlace := ["slices.overlaps[fountain/api.Record]"], unfollowed := true, recurses := true, plainKeys := false, apart := false }
def TopMoreSaid : Prop := topMoreRow.holds Tryz.pinned (OpenSpec.ofChange topMoreSpec)

/-- ITS FALSE NEIGHBOUR: 'it returns false'. Refute it at one input. -/
def topMoreWrong : ChangeSpec := { name := "topMore", fn := fun _ => fun
  | [d1, d2, d3, d4, d5] => { results := [.lit (.bool false)], args := [d1, d2, d3, d4, d5] }
  | _ => none }
def TopMoreWrongFalsely : Prop := topMoreRow.holds Tryz.pinned (OpenSpec.ofChange topMoreWrong)

/-- 'fountaintop.TopApart': WHATEVER THE INPUT: true; the input reads as it did. -/
def topApartSpec : ChangeSpec := { name := "topApart", fn := fun _ => fun
  | [d1, d2, d3, d4, d5, d6, d7] => { results := [.lit (.bool true)], args := [d1, d2, d3, d4, d5, d6, d7] }
  | _ => none }
def topApartRow : OpenClaim := { program := "ytkimkgbppegkhaagreat", sum := "47e8122559dbce5829f03c24bb996342a5ed3bdefc6b08880e7bab752b01813d", func := "fountain/fountaintop.TopApart", spec := "topApart", inPlace := ["slices.overlaps[fountain/api.Record]"], unfollowed := true, recurses := true, plainKeys := false, apart := false }
def TopApartSaid : Prop := topApartRow.holds Tryz.pinned (OpenSpec.ofChange topApartSpec)

/-- ITS FALSE NEIGHBOUR: 'it returns false'. Refute it at one input. -/
def topApartWrong : ChangeSpec := { name := "topApart", fn := fun _ => fun
  | [d1, d2, d3, d4, d5, d6, d7] => { results := [.lit (.bool false)], args := [d1, d2, d3, d4, d5, d6, d7] }
  | _ => none }
def TopApartWrongFalsely : Prop := topApartRow.holds Tryz.pinned (OpenSpec.ofChange topApartWrong)

/- THE SECOND FORM. 'bulk': how many values and letters a reading holds, each counted each time it is reached (what is shared counts as often as it is met; a slice's spare places count too). A statement '..UptoSaid' is the law's where the arguments, and the package variables that the reading takes, are together of bulk at most 1048576: NARROWER than '..Said'. Prove '..Said' where nothing that the law and all that it calls make is longer than what came in: it says more and counts as full. Else prove '..UptoSaid'. A law counts once. -/
mutual
def uptoBulk {H : Type} : DataW H → Nat
  | .lit (.string bytes) => bytes.length + 1
  | .lit _ => 1
  | .nil => 1
  | .ptr d => uptoBulk d + 1
  | .slice elems spare => uptoBulkAll elems + uptoBulkAll spare + 1
  | .agg parts => uptoBulkAll parts + 1
  | .iface _ d => uptoBulk d + 1
  | .map entries => uptoBulkEntries entries + 1
  | .held _ => 1
def uptoBulkAll {H : Type} : List (DataW H) → Nat
  | [] => 0
  | d :: r => uptoBulk d + uptoBulkAll r
def uptoBulkEntries {H : Type} : List (Lit × DataW H) → Nat
  | [] => 0
  | x :: r => uptoBulkEntry x + uptoBulkEntries r
def uptoBulkEntry {H : Type} : Lit × DataW H → Nat
  | (.string bytes, d) => bytes.length + uptoBulk d + 1
  | (_, d) => uptoBulk d + 1
 end
def uptoSmall : (H : Type) → List (DataW H) → Bool := fun _ ds => decide (uptoBulkAll ds ≤ 1048576)
def OpenSpec.upto (s : _root_.Go.ChangeSpec) : _root_.Go.OpenSpec := { _root_.Go.OpenSpec.ofChange s with cond := some uptoSmall }

/-- 'fountaintop.TopRebirth', WHERE WHAT IT READS IS OF BULK AT MOST 1048576: true; the input reads as it did. -/
def topRebirthUptoRow : OpenClaim := { program := "ytkimkgbppegkhaagreat", sum := "47e8122559dbce5829f03c24bb996342a5ed3bdefc6b08880e7bab752b01813d", func := "fountain/fountaintop.TopRebirth", spec := "topRebirth", inPlace := ["slices.overlaps[fountain/api.Record]"], unfollowed := true, recurses := true, plainKeys := false, apart := false, narrowed := true }
def TopRebirthUptoSaid : Prop := topRebirthUptoRow.holds Tryz.pinned (OpenSpec.upto topRebirthSpec)

/-- 'fountaintop.TopMore', WHERE WHAT IT READS IS OF BULK AT MOST 1048576: true; the input reads as it did. -/
def topMoreUptoRow : OpenClaim := { program := "ytkimkgbppegkhaagreat", sum := "47e8122559dbce5829f03c24bb996342a5ed3bdefc6b08880e7bab752b01813d", func := "fountain/fountaintop.TopMore", spec := "topMore", inPlace := ["slices.overlaps[fountain/api.Record]"], unfollowed := true, recurses := true, plainKeys := false, apart := false, narrowed := true }
def TopMoreUptoSaid : Prop := topMoreUptoRow.holds Tryz.pinned (OpenSpec.upto topMoreSpec)

/-- 'fountaintop.TopApart', WHERE WHAT IT READS IS OF BULK AT MOST 1048576: true; the input reads as it did. -/
def topApartUptoRow : OpenClaim := { program := "ytkimkgbppegkhaagreat", sum := "47e8122559dbce5829f03c24bb996342a5ed3bdefc6b08880e7bab752b01813d", func := "fountain/fountaintop.TopApart", spec := "topApart", inPlace := ["slices.overlaps[fountain/api.Record]"], unfollowed := true, recurses := true, plainKeys := false, apart := false, narrowed := true }
def TopApartUptoSaid : Prop := topApartUptoRow.holds Tryz.pinned (OpenSpec.upto topApartSpec)

end Rows
end Go.Proofs.YtkimkgbppegkhaaGreat

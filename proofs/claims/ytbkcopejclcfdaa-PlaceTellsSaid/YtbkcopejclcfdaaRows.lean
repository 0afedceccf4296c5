/-
  No cell of these rows narrows 'for every input' (looked for: loops, veiled, ifaces, maps, wideKeys, modest, calm, conditions, laid).
  DERIVED. THE GIVEN ROWS OF THIS SEAT. 9 by the template 'for every input the law returns true; each argument reads behind the call as it read before'; 0 by the template 'total and deterministic' (their statements: YtbkcopejclcfdaaTotals.lean).
  GIVEN WITH THE SEED: the statements are not yours to turn. If you find one false, say at which input.
  Laid BY PROGRAM, IN A SANDBOX (cutbox-rows.mjs): the forced cells as the released guide's own fill.sh prints them over the translation ece40bed6609b078… (all of the seat's roots in one cut). By AI agents, Wed Nov 11 2026. No macro, syntax, notation, axiom, sorry.
-/
import Derived.Test.YtbkcopejclcfdaaChecked
import GoSem.Claim
import GoSem.ClaimJoined
import GoSem.ClaimMapViews
import Derived.JoinedTies
import Derived.KernelRfl
namespace Go.Proofs.Ytbkcopejclcfdaa
/- THE CELL 'sum', in the pinned program and in every row, IS THE sha256 OF THE DUMP (.gsa) THAT YtbkcopejclcfdaaProg.lean LOADS. Nothing in Lean hashes anything: it is a label: what it is worth is what the hold of that sum in a sandbox is worth. -/
noncomputable def Try.pinned : Pinned := { name := "ytbkcopejclcfdaa", sum := "ece40bed6609b07856bd6aad79a9fae8f7dc4532548c3d072f85a225c7f6acaa", checked := Try.checked }
namespace Rows
def none {H : Type} : Left H := { results := [], args := [] }

/-- 'fountainlaw17.KeyFar': WHATEVER THE INPUT: true; the input reads as it did. -/
def keyFarSpec : ChangeSpec := { name := "keyFar", fn := fun _ => fun
  | [d1, d2, d3] => { results := [.lit (.bool true)], args := [d1, d2, d3] }
  | _ => none }
def keyFarRow : OpenClaim := { program := "ytbkcopejclcfdaa", sum := "ece40bed6609b07856bd6aad79a9fae8f7dc4532548c3d072f85a225c7f6acaa", func := "fountain/fountainlaw17.KeyFar", spec := "keyFar", apart := false }
def KeyFarSaid : Prop := keyFarRow.holds Try.pinned (OpenSpec.ofChange keyFarSpec)

/-- ITS FALSE NEIGHBOUR: 'it returns false'. Refute it at one input. -/
def keyFarWrong : ChangeSpec := { name := "keyFar", fn := fun _ => fun
  | [d1, d2, d3] => { results := [.lit (.bool false)], args := [d1, d2, d3] }
  | _ => none }
def KeyFarWrongFalsely : Prop := keyFarRow.holds Try.pinned (OpenSpec.ofChange keyFarWrong)

/-- 'fountainlaw17.KeyTells': WHATEVER THE INPUT: true; the input reads as it did. -/
def keyTellsSpec : ChangeSpec := { name := "keyTells", fn := fun _ => fun
  | [d1, d2, d3] => { results := [.lit (.bool true)], args := [d1, d2, d3] }
  | _ => none }
def keyTellsRow : OpenClaim := { program := "ytbkcopejclcfdaa", sum := "ece40bed6609b07856bd6aad79a9fae8f7dc4532548c3d072f85a225c7f6acaa", func := "fountain/fountainlaw17.KeyTells", spec := "keyTells", inPlace := ["internal/bytealg.Compare"], apart := false }
def KeyTellsSaid : Prop := keyTellsRow.holds Try.pinned (OpenSpec.ofChange keyTellsSpec)

/-- ITS FALSE NEIGHBOUR: 'it returns false'. Refute it at one input. -/
def keyTellsWrong : ChangeSpec := { name := "keyTells", fn := fun _ => fun
  | [d1, d2, d3] => { results := [.lit (.bool false)], args := [d1, d2, d3] }
  | _ => none }
def KeyTellsWrongFalsely : Prop := keyTellsRow.holds Try.pinned (OpenSpec.ofChange keyTellsWrong)

/-- 'fountainlaw17.KeyOrder': WHATEVER THE INPUT: true; the input reads as it did. -/
def keyOrderSpec : ChangeSpec := { name := "keyOrder", fn := fun _ => fun
  | [d1, d2, d3] => { results := [.lit (.bool true)], args := [d1, d2, d3] }
  | _ => none }
def keyOrderRow : OpenClaim := { program := "ytbkcopejclcfdaa", sum := "ece40bed6609b07856bd6aad79a9fae8f7dc4532548c3d072f85a225c7f6acaa", func := "fountain/fountainlaw17.KeyOrder", spec := "keyOrder", inPlace := ["internal/bytealg.Compare"], apart := false }
def KeyOrderSaid : Prop := keyOrderRow.holds Try.pinned (OpenSpec.ofChange keyOrderSpec)

/-- ITS FALSE NEIGHBOUR: 'it returns false'. Refute it at one input. -/
def keyOrderWrong : ChangeSpec := { name := "keyOrder", fn := fun _ => fun
  | [d1, d2, d3] => { results := [.lit (.bool false)], args := [d1, d2, d3] }
  | _ => none }
def KeyOrderWrongFalsely : Prop := keyOrderRow.holds Try.pinned (OpenSpec.ofChange keyOrderWrong)

/-- 'fountainlaw23.PlaceTells': WHATEVER THE INPUT: true; the input reads as it did. -/
def placeTellsSpec : ChangeSpec := { name := "placeTells", fn := fun _ => fun
  | [d1, d2, d3, d4, d5, d6] => { results := [.lit (.bool true)], args := [d1, d2, d3, d4, d5, d6] }
  | _ => none }
def placeTellsRow : OpenClaim := { program := "ytbkcopejclcfdaa", sum := "ece40bed6609b07856bd6aad79a9fae8f7dc4532548c3d072f85a225c7f6acaa", func := "fountain/fountainlaw23.PlaceTells", spec := "placeTells", unfollowed := true, recurses := true, apart := false }
def PlaceTellsSaid : Prop := placeTellsRow.holds Try.pinned (OpenSpec.ofChange placeTellsSpec)

/-- ITS FALSE NEIGHBOUR: 'it returns false'. Refute it at one input. -/
def placeTellsWrong : ChangeSpec := { name := "placeTells", fn := fun _ => fun
  | [d1, d2, d3, d4, d5, d6] => { results := [.lit (.bool false)], args := [d1, d2, d3, d4, d5, d6] }
  | _ => none }
def PlaceTellsWrongFalsely : Prop := placeTellsRow.holds Try.pinned (OpenSpec.ofChange placeTellsWrong)

/-- 'fountainlaw23.PlaceAll': WHATEVER THE INPUT: true; the input reads as it did. -/
def placeAllSpec : ChangeSpec := { name := "placeAll", fn := fun _ => fun
  | [d1, d2] => { results := [.lit (.bool true)], args := [d1, d2] }
  | _ => none }
def placeAllRow : OpenClaim := { program := "ytbkcopejclcfdaa", sum := "ece40bed6609b07856bd6aad79a9fae8f7dc4532548c3d072f85a225c7f6acaa", func := "fountain/fountainlaw23.PlaceAll", spec := "placeAll", unfollowed := true, recurses := true, apart := false }
def PlaceAllSaid : Prop := placeAllRow.holds Try.pinned (OpenSpec.ofChange placeAllSpec)

/-- ITS FALSE NEIGHBOUR: 'it returns false'. Refute it at one input. -/
def placeAllWrong : ChangeSpec := { name := "placeAll", fn := fun _ => fun
  | [d1, d2] => { results := [.lit (.bool false)], args := [d1, d2] }
  | _ => none }
def PlaceAllWrongFalsely : Prop := placeAllRow.holds Try.pinned (OpenSpec.ofChange placeAllWrong)

/-- 'fountainlaw23.PlaceOne': WHATEVER THE INPUT: true; the input reads as it did. -/
def placeOneSpec : ChangeSpec := { name := "placeOne", fn := fun _ => fun
  | [d1, d2, d3] => { results := [.lit (.bool true)], args := [d1, d2, d3] }
  | _ => none }
def placeOneRow : OpenClaim := { program := "ytbkcopejclcfdaa", sum := "ece40bed6609b07856bd6aad79a9fae8f7dc4532548c3d072f85a225c7f6acaa", func := "fountain/fountainlaw23.PlaceOne", spec := "placeOne", unfollowed := true, recurses := true, apart := false }
def PlaceOneSaid : Prop := placeOneRow.holds Try.pinned (OpenSpec.ofChange placeOneSpec)

/-- ITS FALSE NEIGHBOUR: 'it returns false'. Refute it at one input. -/
def placeOneWrong : ChangeSpec := { name := "placeOne", fn := fun _ => fun
  | [d1, d2, d3] => { results := [.lit (.bool false)], args := [d1, d2, d3] }
  | _ => none }
def PlaceOneWrongFalsely : Prop := placeOneRow.holds Try.pinned (OpenSpec.ofChange placeOneWrong)

/-- 'fountainlaw20.LookPlays': WHATEVER THE INPUT: true; the input reads as it did. -/
def lookPlaysSpec : ChangeSpec := { name := "lookPlays", fn := fun _ => fun
  | [d1, d2, d3, d4] => { results := [.lit (.bool true)], args := [d1, d2, d3, d4] }
  | _ => none }
def lookPlaysRow : OpenClaim := { program := "ytbkcopejclcfdaa", sum := "ece40bed6609b07856bd6aad79a9fae8f7dc4532548c3d072f85a225c7f6acaa", func := "fountain/fountainlaw20.LookPlays", spec := "lookPlays", unfollowed := true, recurses := true, apart := false }
def LookPlaysSaid : Prop := lookPlaysRow.holds Try.pinned (OpenSpec.ofChange lookPlaysSpec)

/-- ITS FALSE NEIGHBOUR: 'it returns false'. Refute it at one input. -/
def lookPlaysWrong : ChangeSpec := { name := "lookPlays", fn := fun _ => fun
  | [d1, d2, d3, d4] => { results := [.lit (.bool false)], args := [d1, d2, d3, d4] }
  | _ => none }
def LookPlaysWrongFalsely : Prop := lookPlaysRow.holds Try.pinned (OpenSpec.ofChange lookPlaysWrong)

/-- 'fountainlaw20.LookAll': WHATEVER THE INPUT: true; the input reads as it did. -/
def lookAllSpec : ChangeSpec := { name := "lookAll", fn := fun _ => fun
  | [d1, d2, d3] => { results := [.lit (.bool true)], args := [d1, d2, d3] }
  | _ => none }
def lookAllRow : OpenClaim := { program := "ytbkcopejclcfdaa", sum := "ece40bed6609b07856bd6aad79a9fae8f7dc4532548c3d072f85a225c7f6acaa", func := "fountain/fountainlaw20.LookAll", spec := "lookAll", unfollowed := true, recurses := true, apart := false }
def LookAllSaid : Prop := lookAllRow.holds Try.pinned (OpenSpec.ofChange lookAllSpec)

/-- ITS FALSE NEIGHBOUR: 'it returns false'. Refute it at one input. -/
def lookAllWrong : ChangeSpec := { name := "lookAll", fn := fun _ => fun
  | [d1, d2, d3] => { results := [.lit (.bool false)], args := [d1, d2, d3] }
  | _ => none }
def LookAllWrongFalsely : Prop := lookAllRow.holds Try.pinned (OpenSpec.ofChange lookAllWrong)

/-- 'fountainlaw20.LookOpen': WHATEVER THE INPUT: true; the input reads as it did. -/
def lookOpenSpec : ChangeSpec := { name := "lookOpen", fn := fun _ => fun
  | [d1, d2, d3] => { results := [.lit (.bool true)], args := [d1, d2, d3] }
  | _ => none }
def lookOpenRow : OpenClaim := { program := "ytbkcopejclcfdaa", sum := "ece40bed6609b07856bd6aad79a9fae8f7dc4532548c3d072f85a225c7f6acaa", func := "fountain/fountainlaw20.LookOpen", spec := "lookOpen", unfollowed := true, recurses := true, apart := false }
def LookOpenSaid : Prop := lookOpenRow.holds Try.pinned (OpenSpec.ofChange lookOpenSpec)

/-- ITS FALSE NEIGHBOUR: 'it returns false'. Refute it at one input. -/
def lookOpenWrong : ChangeSpec := { name := "lookOpen", fn := fun _ => fun
  | [d1, d2, d3] => { results := [.lit (.bool false)], args := [d1, d2, d3] }
  | _ => none }
def LookOpenWrongFalsely : Prop := lookOpenRow.holds Try.pinned (OpenSpec.ofChange lookOpenWrong)

/- THE SECOND FORM. 'bulk': how many values and letters a reading holds, each counted each time it is reached (what is shared counts as often as it is met; a slice's spare places count too). A statement '..UptoSaid' is the law's where the arguments, and the package variables that the reading takes, are together of bulk at most 1048576: NARROWER than '..Said'. Prove '..Said' where nothing that the law and all that it calls make is longer than what came in: it says more and counts as full. Else prove '..UptoSaid'. A law counts once. -/
mutual
def uptoBulk {H : Type} : DataW H → Nat
  | .lit (.string bytes) => bytes.length + 1
  | .lit _ => 1
  | .nil => 1
  | .ptr d => uptoBulk d + 1
  | .slice elems spare => uptoBulkAll elems + uptoBulkAll spare + 1
  | .agg parts => uptoBulkAll parts + 1
  | .iface _ d => uptoBulk d + 1
  | .map entries => uptoBulkEntries entries + 1
  | .held _ => 1
def uptoBulkAll {H : Type} : List (DataW H) → Nat
  | [] => 0
  | d :: r => uptoBulk d + uptoBulkAll r
def uptoBulkEntries {H : Type} : List (Lit × DataW H) → Nat
  | [] => 0
  | x :: r => uptoBulkEntry x + uptoBulkEntries r
def uptoBulkEntry {H : Type} : Lit × DataW H → Nat
  | (.string bytes, d) => bytes.length + uptoBulk d + 1
  | (_, d) => uptoBulk d + 1
 end
def uptoSmall : (H : Type) → List (DataW H) → Bool := fun _ ds => decide (uptoBulkAll ds ≤ 1048576)
def OpenSpec.upto (s : _root_.Go.ChangeSpec) : _root_.Go.OpenSpec := { _root_.Go.OpenSpec.ofChange s with cond := some uptoSmall }

/-- 'fountainlaw17.KeyFar', WHERE WHAT IT READS IS OF BULK AT MOST 1048576: true; the input reads as it did. -/
def keyFarUptoRow : OpenClaim := { program := "ytbkcopejclcfdaa", sum := "ece40bed6609b07856bd6aad79a9fae8f7dc4532548c3d072f85a225c7f6acaa", func := "fountain/fountainlaw17.KeyFar", spec := "keyFar", apart := false, narrowed := true }
def KeyFarUptoSaid : Prop := keyFarUptoRow.holds Try.pinned (OpenSpec.upto keyFarSpec)

/-- 'fountainlaw17.KeyTells', WHERE WHAT IT READS IS OF BULK AT MOST 1048576: true; the input reads as it did. -/
def keyTellsUptoRow : OpenClaim := { program := "ytbkcopejclcfdaa", sum := "ece40bed6609b07856bd6aad79a9fae8f7dc4532548c3d072f85a225c7f6acaa", func := "fountain/fountainlaw17.KeyTells", spec := "keyTells", inPlace := ["internal/bytealg.Compare"], apart := false, narrowed := true }
def KeyTellsUptoSaid : Prop := keyTellsUptoRow.holds Try.pinned (OpenSpec.upto keyTellsSpec)

/-- 'fountainlaw17.KeyOrder', WHERE WHAT IT READS IS OF BULK AT MOST 1048576: true; the input reads as it did. -/
def keyOrderUptoRow : OpenClaim := { program := "ytbkcopejclcfdaa", sum := "ece40bed6609b07856bd6aad79a9fae8f7dc4532548c3d072f85a225c7f6acaa", func := "fountain/fountainlaw17.KeyOrder", spec := "keyOrder", inPlace := ["internal/bytealg.Compare"], apart := false, narrowed := true }
def KeyOrderUptoSaid : Prop := keyOrderUptoRow.holds Try.pinned (OpenSpec.upto keyOrderSpec)

/-- 'fountainlaw23.PlaceTells', WHERE WHAT IT READS IS OF BULK AT MOST 1048576: true; the input reads as it did. -/
def placeTellsUptoRow : OpenClaim := { program := "ytbkcopejclcfdaa", sum := "ece40bed6609b07856bd6aad79a9fae8f7dc4532548c3d072f85a225c7f6acaa", func := "fountain/fountainlaw23.PlaceTells", spec := "placeTells", unfollowed := true, recurses := true, apart := false, narrowed := true }
def PlaceTellsUptoSaid : Prop := placeTellsUptoRow.holds Try.pinned (OpenSpec.upto placeTellsSpec)

/-- 'fountainlaw23.PlaceAll', WHERE WHAT IT READS IS OF BULK AT MOST 1048576: true; the input reads as it did. -/
def placeAllUptoRow : OpenClaim := { program := "ytbkcopejclcfdaa", sum := "ece40bed6609b07856bd6aad79a9fae8f7dc4532548c3d072f85a225c7f6acaa", func := "fountain/fountainlaw23.PlaceAll", spec := "placeAll", unfollowed := true, recurses := true, apart := false, narrowed := true }
def PlaceAllUptoSaid : Prop := placeAllUptoRow.holds Try.pinned (OpenSpec.upto placeAllSpec)

/-- 'fountainlaw23.PlaceOne', WHERE WHAT IT READS IS OF BULK AT MOST 1048576: true; the input reads as it did. -/
def placeOneUptoRow : OpenClaim := { program := "ytbkcopejclcfdaa", sum := "ece40bed6609b07856bd6aad79a9fae8f7dc4532548c3d072f85a225c7f6acaa", func := "fountain/fountainlaw23.PlaceOne", spec := "placeOne", unfollowed := true, recurses := true, apart := false, narrowed := true }
def PlaceOneUptoSaid : Prop := placeOneUptoRow.holds Try.pinned (OpenSpec.upto placeOneSpec)

/-- 'fountainlaw20.LookPlays', WHERE WHAT IT READS IS OF BULK AT MOST 1048576: true; the input reads as it did. -/
def lookPlaysUptoRow : OpenClaim := { program := "ytbkcopejclcfdaa", sum := "ece40bed6609b07856bd6aad79a9fae8f7dc4532548c3d072f85a225c7f6acaa", func := "fountain/fountainlaw20.LookPlays", spec := "lookPlays", unfollowed := true, recurses := true, apart := false, narrowed := true }
def LookPlaysUptoSaid : Prop := lookPlaysUptoRow.holds Try.pinned (OpenSpec.upto lookPlaysSpec)

/-- 'fountainlaw20.LookAll', WHERE WHAT IT READS IS OF BULK AT MOST 1048576: true; the input reads as it did. -/
def lookAllUptoRow : OpenClaim := { program := "ytbkcopejclcfdaa", sum := "ece40bed6609b07856bd6aad79a9fae8f7dc4532548c3d072f85a225c7f6acaa", func := "fountain/fountainlaw20.LookAll", spec := "lookAll", unfollowed := true, recurses := true, apart := false, narrowed := true }
def LookAllUptoSaid : Prop := lookAllUptoRow.holds Try.pinned (OpenSpec.upto lookAllSpec)

/-- 'fountainlaw20.LookOpen', WHERE WHAT IT READS IS OF BULK AT MOST 1048576: true; the input reads as it did. -/
def lookOpenUptoRow : OpenClaim := { program := "ytbkcopejclcfdaa", sum := "ece40bed6609b07856bd6aad79a9fae8f7dc4532548c3d072f85a225c7f6acaa", func := "fountain/fountainlaw20.LookOpen", spec := "lookOpen", unfollowed := true, recurses := true, apart := false, narrowed := true }
def LookOpenUptoSaid : Prop := lookOpenUptoRow.holds Try.pinned (OpenSpec.upto lookOpenSpec)

end Rows
end Go.Proofs.Ytbkcopejclcfdaa

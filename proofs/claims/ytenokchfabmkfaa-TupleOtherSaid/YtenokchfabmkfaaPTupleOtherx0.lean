-- written by a program of this session (a turned printer of plain contracts)
import Derived.Test.YtenokchfabmkfaaProg
import Derived.Below
import Derived.Deep.Draws
import Derived.Deep.AppendLies
import Derived.Maps.AppendAt
import Derived.OwnWalk
import Derived.Laws.BytesArg
import Derived.Laws.MakeOwn
import Derived.Laws.OwnMore
import Derived.Deep.OwnRows
import Derived.Tactics
import Derived.Lib.ConvBytes
import Derived.Laws.Slices
import Derived.WalkKit
import Derived.KernelRfl
import Derived.RowKit3
import Derived.Deep.LoopGhost
import Derived.Deep.QuietTactic
import Derived.BigQuiet
import Derived.WideLaws
import Derived.Deep.DeepCutAuto
import Derived.Deep.CutBlock
import Derived.Deep.RegionHeld3
import Derived.Laws.Rows
import Derived.Lib.AppendStr
import Derived.ArgAppend
import Derived.Laws.IdiomCopy
import Derived.OrdersHeld
import Derived.Laws.BitsLemmas
import Derived.RowKit
import Derived.Test.YtenokchfabmkfaaWWords
import Derived.Test.YtenokchfabmkfaaWLast
import Derived.Test.YtenokchfabmkfaaWTab
import Derived.Test.YtenokchfabmkfaaWFour
import Derived.Test.YtenokchfabmkfaaWQPut
import Derived.Test.YtenokchfabmkfaaWApart
import Derived.Test.YtenokchfabmkfaaWArr
import Derived.Test.YtenokchfabmkfaaWZeros
import Derived.Test.YtenokchfabmkfaaWFoot
import Derived.Test.YtenokchfabmkfaaWKept
import Derived.Test.YtenokchfabmkfaaWShare
import Derived.Test.YtenokchfabmkfaaWN
import Derived.Test.YtenokchfabmkfaaWFootNe
import Derived.Test.YtenokchfabmkfaaWAt
import Derived.Test.YtenokchfabmkfaaWEqStruct
import Derived.Test.YtenokchfabmkfaaWRepsOne
import Derived.Test.YtenokchfabmkfaaWInv
import Derived.Test.YtenokchfabmkfaaWInvWords
import Derived.Test.YtenokchfabmkfaaWGuard
import Derived.Test.YtenokchfabmkfaaWNEv
import Derived.Test.YtenokchfabmkfaaWMore
namespace Go.Proofs.Ytenokchfabmkfaa.PTupleOther
open Go.RowKit Go.Proofs.YtenokchfabmkfaaW.PrintWords Go.Proofs.YtenokchfabmkfaaW.PrintLast Go.Proofs.YtenokchfabmkfaaW.PrintMore
attribute [local go_sem] max2_int min2_int max_two min_two max_three min_three max_four min_four   -- for this text's walks alone
set_option linter.unusedVariables false
set_option linter.unusedSimpArgs false



def errW : Option Int → Value
  | none => .nilIface
  | some c => .iface 0 (.int .i64 c)
theorem errW_none : errW none = .nilIface := rfl
theorem errW_some (c : Int) : errW (some c) = .iface 0 (.int .i64 c) := rfl

theorem info3 : (Try.prog.info? 3).map (fun i => (i.zero, i.size, i.bytes)) = some (some (.int .i64 0), 1, 8) := by kernel_rfl
theorem info4 : (Try.prog.info? 4).map (fun i => (i.zero, i.size, i.bytes)) = some (some (.bool false), 1, 1) := by kernel_rfl
theorem info5 : (Try.prog.info? 5).map (fun i => (i.zero, i.size, i.bytes)) = some (some (.int .u8 0), 1, 1) := by kernel_rfl
-- the values' own types

end Go.Proofs.Ytenokchfabmkfaa.PTupleOther

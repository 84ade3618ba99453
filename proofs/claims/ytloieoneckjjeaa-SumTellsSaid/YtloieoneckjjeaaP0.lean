/- Functions of the given program as plain Lean functions, each with the proof that a call of it comes to what that function says (no conditions beside those in the statements). Written by a program of the session (myprint.py). -/
import Derived.Test.YtloieoneckjjeaaProg
import Derived.Below
import Derived.Deep.Draws
import Derived.Deep.AppendLies
import Derived.Maps.AppendAt
import Derived.OwnWalk
import Derived.Laws.BytesArg
import Derived.Laws.MakeOwn
import Derived.Laws.OwnMore
import Derived.Deep.OwnRows
import Derived.Tactics
import Derived.Lib.ConvBytes
import Derived.Laws.Slices
import Derived.WalkKit
import Derived.KernelRfl
import Derived.RowKit3
import Derived.Deep.LoopGhost
import Derived.Deep.QuietTactic
import Derived.BigQuiet
import Derived.WideLaws
import Derived.Deep.DeepCutAuto
import Derived.Deep.CutBlock
import Derived.Deep.RegionHeld3
import Derived.Laws.Rows
import Derived.Lib.AppendStr
import Derived.ArgAppend
import Derived.Laws.IdiomCopy
import Derived.OrdersHeld
import Derived.Laws.BitsLemmas
import Derived.RowKit
import Derived.Laws.BitsAllLaws
import Derived.Test.YtloieoneckjjeaaWWords
import Derived.Test.YtloieoneckjjeaaWLast
import Derived.Test.YtloieoneckjjeaaWTab
import Derived.Test.YtloieoneckjjeaaWFour
import Derived.Test.YtloieoneckjjeaaWQPut
import Derived.Test.YtloieoneckjjeaaWApart
import Derived.Test.YtloieoneckjjeaaWArr
import Derived.Test.YtloieoneckjjeaaWZeros
import Derived.Test.YtloieoneckjjeaaWFoot
import Derived.Test.YtloieoneckjjeaaWKept
import Derived.Test.YtloieoneckjjeaaWShare
import Derived.Test.YtloieoneckjjeaaWN
import Derived.Test.YtloieoneckjjeaaWFootNe
import Derived.Test.YtloieoneckjjeaaWAt
import Derived.Test.YtloieoneckjjeaaWEqStruct
import Derived.Test.YtloieoneckjjeaaWRepsOne
import Derived.Test.YtloieoneckjjeaaWInv
import Derived.Test.YtloieoneckjjeaaWInvWords
import Derived.Test.YtloieoneckjjeaaWGuard
import Derived.Test.YtloieoneckjjeaaWNEv
import Derived.Test.YtloieoneckjjeaaWMore
namespace Go.Proofs.Ytloieoneckjjeaa.P
open Go.RowKit Go.Proofs.YtloieoneckjjeaaW.PrintWords Go.Proofs.YtloieoneckjjeaaW.PrintLast Go.Proofs.YtloieoneckjjeaaW.PrintMore
attribute [local go_sem] max2_int min2_int max_two min_two max_three min_three max_four min_four   -- for this text's walks alone
set_option linter.unusedVariables false
set_option linter.unusedSimpArgs false



def errW : Option Int → Value
  | none => .nilIface
  | some c => .iface 0 (.int .i64 c)
theorem errW_none : errW none = .nilIface := rfl
theorem errW_some (c : Int) : errW (some c) = .iface 0 (.int .i64 c) := rfl

theorem info5 : (Try.prog.info? 5).map (fun i => (i.zero, i.size, i.bytes)) = some (some (.int .u8 0), 1, 1) := by kernel_rfl
theorem info25 : (Try.prog.info? 25).map (fun i => (i.zero, i.size, i.bytes)) = some (some (.int .u32 0), 1, 4) := by kernel_rfl
-- the values' own types

end Go.Proofs.Ytloieoneckjjeaa.P

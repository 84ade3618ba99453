/- Functions of the given program as plain Lean functions, each with the proof that a call of it comes to what that function says (no conditions beside those in the statements). Written by a program of the session (myprint.py). -/
import Derived.Test.YtffmdbbndfmgdaaProg
import Derived.Below
import Derived.Deep.Draws
import Derived.Deep.AppendLies
import Derived.Maps.AppendAt
import Derived.OwnWalk
import Derived.Laws.BytesArg
import Derived.Laws.MakeOwn
import Derived.Laws.OwnMore
import Derived.Deep.OwnRows
import Derived.Tactics
import Derived.Lib.ConvBytes
import Derived.Laws.Slices
import Derived.WalkKit
import Derived.KernelRfl
import Derived.RowKit3
import Derived.Deep.LoopGhost
import Derived.Deep.QuietTactic
import Derived.BigQuiet
import Derived.WideLaws
import Derived.Deep.DeepCutAuto
import Derived.Deep.CutBlock
import Derived.Deep.RegionHeld3
import Derived.Laws.Rows
import Derived.Lib.AppendStr
import Derived.ArgAppend
import Derived.Laws.IdiomCopy
import Derived.OrdersHeld
import Derived.Laws.BitsLemmas
import Derived.RowKit
import Derived.Test.YtffmdbbndfmgdaaWWords
import Derived.Test.YtffmdbbndfmgdaaWLast
import Derived.Test.YtffmdbbndfmgdaaWTab
import Derived.Test.YtffmdbbndfmgdaaWFour
import Derived.Test.YtffmdbbndfmgdaaWQPut
import Derived.Test.YtffmdbbndfmgdaaWApart
import Derived.Test.YtffmdbbndfmgdaaWArr
import Derived.Test.YtffmdbbndfmgdaaWZeros
import Derived.Test.YtffmdbbndfmgdaaWFoot
import Derived.Test.YtffmdbbndfmgdaaWKept
import Derived.Test.YtffmdbbndfmgdaaWShare
import Derived.Test.YtffmdbbndfmgdaaWN
import Derived.Test.YtffmdbbndfmgdaaWFootNe
import Derived.Test.YtffmdbbndfmgdaaWAt
import Derived.Test.YtffmdbbndfmgdaaWEqStruct
import Derived.Test.YtffmdbbndfmgdaaWRepsOne
import Derived.Test.YtffmdbbndfmgdaaWInv
import Derived.Test.YtffmdbbndfmgdaaWInvWords
import Derived.Test.YtffmdbbndfmgdaaWGuard
import Derived.Test.YtffmdbbndfmgdaaWNEv
import Derived.Test.YtffmdbbndfmgdaaWMore
namespace Go.Proofs.Ytffmdbbndfmgdaa.P
open Go.RowKit Go.Proofs.YtffmdbbndfmgdaaW.PrintWords Go.Proofs.YtffmdbbndfmgdaaW.PrintLast Go.Proofs.YtffmdbbndfmgdaaW.PrintMore
attribute [local go_sem] max2_int min2_int max_two min_two max_three min_three max_four min_four   -- for this text's walks alone
set_option linter.unusedVariables false
set_option linter.unusedSimpArgs false



def errW : Option Int → Value
  | none => .nilIface
  | some c => .iface 0 (.int .i64 c)
theorem errW_none : errW none = .nilIface := rfl
theorem errW_some (c : Int) : errW (some c) = .iface 0 (.int .i64 c) := rfl

-- the values' own types

end Go.Proofs.Ytffmdbbndfmgdaa.P

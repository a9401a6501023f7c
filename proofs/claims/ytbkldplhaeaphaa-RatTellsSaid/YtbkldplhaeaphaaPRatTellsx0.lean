/- The walk of the Go functions that a law reaches, told as plain functions; a program of this session has written it. No condition beyond the statement's own. -/
import Derived.Test.YtbkldplhaeaphaaProg
import Derived.Below
import Derived.Deep.Draws
import Derived.Deep.AppendLies
import Derived.Maps.AppendAt
import Derived.OwnWalk
import Derived.Laws.BytesArg
import Derived.Laws.MakeOwn
import Derived.Laws.OwnMore
import Derived.Deep.OwnRows
import Derived.Tactics
import Derived.Lib.ConvBytes
import Derived.Laws.Slices
import Derived.WalkKit
import Derived.KernelRfl
import Derived.RowKit3
import Derived.Deep.LoopGhost
import Derived.Deep.QuietTactic
import Derived.BigQuiet
import Derived.WideLaws
import Derived.Deep.DeepCutAuto
import Derived.Deep.CutBlock
import Derived.Deep.RegionHeld3
import Derived.Laws.Rows
import Derived.Lib.AppendStr
import Derived.ArgAppend
import Derived.Laws.IdiomCopy
import Derived.OrdersHeld
import Derived.Laws.BitsLemmas
import Derived.RowKit
import Derived.Recover
import Derived.Lib.BytesEntry
import Derived.Lib.SliceRun
import Derived.Laws.Externs
import Derived.Laws.Runes
import Derived.Lib.SlBytesConst
import Derived.Laws.IdiomCopy
import Derived.Test.YtbkldplhaeaphaaWWords
import Derived.Test.YtbkldplhaeaphaaWLast
import Derived.Test.YtbkldplhaeaphaaWTab
import Derived.Test.YtbkldplhaeaphaaWFour
import Derived.Test.YtbkldplhaeaphaaWQPut
import Derived.Test.YtbkldplhaeaphaaWApart
import Derived.Test.YtbkldplhaeaphaaWArr
import Derived.Test.YtbkldplhaeaphaaWZeros
import Derived.Test.YtbkldplhaeaphaaWFoot
import Derived.Test.YtbkldplhaeaphaaWKept
import Derived.Test.YtbkldplhaeaphaaWShare
import Derived.Test.YtbkldplhaeaphaaWN
import Derived.Test.YtbkldplhaeaphaaWFootNe
import Derived.Test.YtbkldplhaeaphaaWAt
import Derived.Test.YtbkldplhaeaphaaWEqStruct
import Derived.Test.YtbkldplhaeaphaaWRepsOne
import Derived.Test.YtbkldplhaeaphaaWInv
import Derived.Test.YtbkldplhaeaphaaWInvWords
import Derived.Test.YtbkldplhaeaphaaWGuard
import Derived.Test.YtbkldplhaeaphaaWNEv
import Derived.Test.YtbkldplhaeaphaaWMore
namespace Go.Proofs.Ytbkldplhaeaphaa.PRatTells
open Go.RowKit Go.Proofs.YtbkldplhaeaphaaW.PrintWords Go.Proofs.YtbkldplhaeaphaaW.PrintLast Go.Proofs.YtbkldplhaeaphaaW.PrintMore
attribute [local go_sem] max2_int min2_int max_two min_two max_three min_three max_four min_four   -- for this text's walks alone
set_option linter.unusedVariables false
set_option linter.unusedSimpArgs false



def errW : Option Int → Value
  | none => .nilIface
  | some c => .iface 0 (.int .i64 c)
theorem errW_none : errW none = .nilIface := rfl
theorem errW_some (c : Int) : errW (some c) = .iface 0 (.int .i64 c) := rfl

theorem info5 : (Try.prog.info? 5).map (fun i => (i.zero, i.size, i.bytes)) = some (some (.int .u8 0), 1, 1) := by kernel_rfl
-- the values' own types

end Go.Proofs.Ytbkldplhaeaphaa.PRatTells

/- The walk of the Go functions that a law reaches, told as plain functions; a program of this session has written it. No condition beyond the statement's own. -/
import Derived.Test.YtnfgcjlmelaakaaProg
import Derived.Below
import Derived.Deep.Draws
import Derived.Deep.AppendLies
import Derived.Maps.AppendAt
import Derived.OwnWalk
import Derived.Laws.BytesArg
import Derived.Laws.MakeOwn
import Derived.Laws.OwnMore
import Derived.Deep.OwnRows
import Derived.Tactics
import Derived.Lib.ConvBytes
import Derived.Laws.Slices
import Derived.WalkKit
import Derived.KernelRfl
import Derived.RowKit3
import Derived.Deep.LoopGhost
import Derived.Deep.QuietTactic
import Derived.BigQuiet
import Derived.WideLaws
import Derived.Deep.DeepCutAuto
import Derived.Deep.CutBlock
import Derived.Deep.RegionHeld3
import Derived.Laws.Rows
import Derived.Lib.AppendStr
import Derived.ArgAppend
import Derived.Laws.IdiomCopy
import Derived.OrdersHeld
import Derived.Laws.BitsLemmas
import Derived.RowKit
import Derived.Lib.BytesEntry
import Derived.Lib.SliceRun
import Derived.Laws.Externs
import Derived.Laws.Runes
import Derived.Lib.SlBytesConst
import Derived.Test.YtnfgcjlmelaakaaWWords
import Derived.Test.YtnfgcjlmelaakaaWLast
import Derived.Test.YtnfgcjlmelaakaaWTab
import Derived.Test.YtnfgcjlmelaakaaWFour
import Derived.Test.YtnfgcjlmelaakaaWQPut
import Derived.Test.YtnfgcjlmelaakaaWApart
import Derived.Test.YtnfgcjlmelaakaaWArr
import Derived.Test.YtnfgcjlmelaakaaWZeros
import Derived.Test.YtnfgcjlmelaakaaWFoot
import Derived.Test.YtnfgcjlmelaakaaWKept
import Derived.Test.YtnfgcjlmelaakaaWShare
import Derived.Test.YtnfgcjlmelaakaaWN
import Derived.Test.YtnfgcjlmelaakaaWFootNe
import Derived.Test.YtnfgcjlmelaakaaWAt
import Derived.Test.YtnfgcjlmelaakaaWEqStruct
import Derived.Test.YtnfgcjlmelaakaaWRepsOne
import Derived.Test.YtnfgcjlmelaakaaWInv
import Derived.Test.YtnfgcjlmelaakaaWInvWords
import Derived.Test.YtnfgcjlmelaakaaWGuard
import Derived.Test.YtnfgcjlmelaakaaWNEv
import Derived.Test.YtnfgcjlmelaakaaWMore
namespace Go.Proofs.Ytnfgcjlmelaakaa.PRatInverse
open Go.RowKit Go.Proofs.YtnfgcjlmelaakaaW.PrintWords Go.Proofs.YtnfgcjlmelaakaaW.PrintLast Go.Proofs.YtnfgcjlmelaakaaW.PrintMore
attribute [local go_sem] max2_int min2_int max_two min_two max_three min_three max_four min_four   -- for this text's walks alone
set_option linter.unusedVariables false
set_option linter.unusedSimpArgs false



def errW : Option Int → Value
  | none => .nilIface
  | some c => .iface 0 (.int .i64 c)
theorem errW_none : errW none = .nilIface := rfl
theorem errW_some (c : Int) : errW (some c) = .iface 0 (.int .i64 c) := rfl

-- the values' own types

end Go.Proofs.Ytnfgcjlmelaakaa.PRatInverse

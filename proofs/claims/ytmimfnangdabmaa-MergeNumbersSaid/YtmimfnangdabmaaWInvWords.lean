/- Words that the walks of this claim use; a program has laid them and left out what nothing names. No condition. -/
import Derived.Test.YtmimfnangdabmaaWInv
import Derived.Test.YtmimfnangdabmaaWFootNe
namespace Go.Proofs.YtmimfnangdabmaaW.PrintWords
open Go.RowKit
end Go.Proofs.YtmimfnangdabmaaW.PrintWords
namespace Go.Proofs.YtmimfnangdabmaaW.PrintLast
section
variable {ops : Array Oper} {a : Act} {o og : Oper} {g : Nat} {t : Tmp} {u : Bool}
end
end Go.Proofs.YtmimfnangdabmaaW.PrintLast

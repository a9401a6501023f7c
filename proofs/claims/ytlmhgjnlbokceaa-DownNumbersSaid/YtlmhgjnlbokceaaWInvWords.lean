/- Words that the walks of this claim use; a program has laid them and left out what nothing names. No condition. -/
import Derived.Test.YtlmhgjnlbokceaaWInv
import Derived.Test.YtlmhgjnlbokceaaWFootNe
namespace Go.Proofs.YtlmhgjnlbokceaaW.PrintWords
open Go.RowKit
end Go.Proofs.YtlmhgjnlbokceaaW.PrintWords
namespace Go.Proofs.YtlmhgjnlbokceaaW.PrintLast
section
variable {ops : Array Oper} {a : Act} {o og : Oper} {g : Nat} {t : Tmp} {u : Bool}
end
end Go.Proofs.YtlmhgjnlbokceaaW.PrintLast

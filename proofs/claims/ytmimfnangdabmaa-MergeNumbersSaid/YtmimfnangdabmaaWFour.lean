/- Words that the walks of this claim use; a program has laid them and left out what nothing names. No condition. -/
import Derived.Test.YtmimfnangdabmaaWTab
/-! ### 56. Four, five, six operations that may come up next, in any order -/
namespace Go.Proofs.YtmimfnangdabmaaW.PrintLast
section
variable {P : Program} {ops : Array Oper} {Q : Exit → Act → World → Prop} {md : Region.Mode} {S : World → Prop} {ds : List Nat} {T : Bool × List (List Nat × List Nat)}
end
end Go.Proofs.YtmimfnangdabmaaW.PrintLast

/- Words that the walks of this claim use; a program has laid them and left out what nothing names. No condition. -/
import Derived.Test.YtmimfnangdabmaaWWords
import Derived.Laws.StructEq
/-! ### 53. '==' of structs as_ one Bool -/
namespace Go.Proofs.YtmimfnangdabmaaW.PrintWords
open Go.RowKit
section
variable {P : Program} {d : Nat} {xs ys : Array Value} {f : Field} {fs : List Field} {a b : Value} {r s : Bool} {w : World}
end
end Go.Proofs.YtmimfnangdabmaaW.PrintWords

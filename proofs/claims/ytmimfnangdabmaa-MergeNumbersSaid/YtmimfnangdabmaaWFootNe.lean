/- Words that the walks of this claim use; a program has laid them and left out what nothing names. No condition. -/
import Derived.Test.YtmimfnangdabmaaWN
/-! ### 52. A row that stays read whatever happens to a block (a set of blocks) doesn't lie there -/
namespace Go.Proofs.YtmimfnangdabmaaW.PrintWords
open Go.RowKit
namespace Kd
section
variable {α : Type} {d : Kd α} {W : World} {g n : Nat} {S ok : Nat → Prop} {A : Option Addr} {ad : Addr} {xs : List α}
end
end Kd
end Go.Proofs.YtmimfnangdabmaaW.PrintWords

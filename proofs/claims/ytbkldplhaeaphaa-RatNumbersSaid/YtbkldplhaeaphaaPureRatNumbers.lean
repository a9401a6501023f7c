/- RatNumbers: a closed sentence, reckoned by the kernel over the plain functions. No condition beyond the statement. -/
import Derived.Test.YtbkldplhaeaphaaPRatNumbersx11
namespace Go.Proofs.Ytbkldplhaeaphaa.Pure
open Go.RowKit Go.Proofs.Ytbkldplhaeaphaa.PRatNumbers Go.Proofs.YtbkldplhaeaphaaW.PrintWords Go.Proofs.YtbkldplhaeaphaaW.PrintLast
set_option linter.unusedVariables false
set_option linter.unusedSimpArgs false

theorem RatNumbers : marigraphlaw1_RatNumbers.Pure := ⟨400, by decide +kernel⟩

end Go.Proofs.Ytbkldplhaeaphaa.Pure

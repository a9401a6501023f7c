/- A closed sentence: the runs of its chapter, worked out. No condition. -/
import Derived.Test.YtjlbgbiceafdjaaPRateNumbersx14
namespace Go.Proofs.Ytjlbgbiceafdjaa.Pure
open Go.RowKit Go.Proofs.Ytjlbgbiceafdjaa.PRateNumbers Go.Proofs.YtjlbgbiceafdjaaW.PrintWords Go.Proofs.YtjlbgbiceafdjaaW.PrintLast
set_option linter.unusedVariables false
set_option linter.unusedSimpArgs false

theorem RateNumbers : marigraphlaw24_RateNumbers.Pure := ⟨200, by decide +kernel⟩

end Go.Proofs.Ytjlbgbiceafdjaa.Pure

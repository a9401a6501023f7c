/- A closed sentence: the runs of its chapter, worked out. No condition. -/
import Derived.Test.YtjlbgbiceafdjaaPLerpNumbersx12
namespace Go.Proofs.Ytjlbgbiceafdjaa.Pure
open Go.RowKit Go.Proofs.Ytjlbgbiceafdjaa.PLerpNumbers Go.Proofs.YtjlbgbiceafdjaaW.PrintWords Go.Proofs.YtjlbgbiceafdjaaW.PrintLast
set_option linter.unusedVariables false
set_option linter.unusedSimpArgs false

theorem LerpNumbers : marigraphlaw22_LerpNumbers.Pure := ⟨2000, by decide +kernel⟩

end Go.Proofs.Ytjlbgbiceafdjaa.Pure

/- FoldNumbers: a closed sentence, reckoned by the kernel over the plain functions. No condition beyond the statement. -/
import Derived.Test.YtncieaeooiilpaaPFoldNumbersx8
namespace Go.Proofs.Ytncieaeooiilpaa.Pure
open Go.RowKit Go.Proofs.Ytncieaeooiilpaa.PFoldNumbers Go.Proofs.YtncieaeooiilpaaW.PrintWords Go.Proofs.YtncieaeooiilpaaW.PrintLast
set_option linter.unusedVariables false
set_option linter.unusedSimpArgs false

theorem FoldNumbers : marigraphlaw20_FoldNumbers.Pure := ⟨200, by decide +kernel⟩

end Go.Proofs.Ytncieaeooiilpaa.Pure

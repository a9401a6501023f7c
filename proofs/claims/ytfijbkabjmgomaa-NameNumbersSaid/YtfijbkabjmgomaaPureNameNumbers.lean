/- NameNumbers: a closed sentence: chapter 12 has its runs, each byte as a name, lengths at each bound. -/
import Derived.Test.YtfijbkabjmgomaaPNameNumbersx7
namespace Go.Proofs.Ytfijbkabjmgomaa.Pure
open Go.RowKit Go.Proofs.Ytfijbkabjmgomaa.PNameNumbers Go.Proofs.YtfijbkabjmgomaaW.PrintWords Go.Proofs.YtfijbkabjmgomaaW.PrintLast
set_option linter.unusedVariables false
set_option linter.unusedSimpArgs false

theorem NameNumbers : marigraphlaw12_NameNumbers.Pure := ⟨600, by decide +kernel⟩

end Go.Proofs.Ytfijbkabjmgomaa.Pure

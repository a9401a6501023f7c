/- FilterNumbers: the chapter 19's runs, each Kind over tags that have it, have another value, or not, come out as the document says. -/
import Derived.Test.YteghihdcagbmbaaPFilterNumbersx6
namespace Go.Proofs.Yteghihdcagbmbaa.Pure
open Go.RowKit Go.Proofs.Yteghihdcagbmbaa.PFilterNumbers Go.Proofs.YteghihdcagbmbaaW.PrintWords Go.Proofs.YteghihdcagbmbaaW.PrintLast
set_option linter.unusedVariables false
set_option linter.unusedSimpArgs false

theorem FilterNumbers : marigraphlaw19_FilterNumbers.Pure := ⟨500, by decide +kernel⟩

end Go.Proofs.Yteghihdcagbmbaa.Pure

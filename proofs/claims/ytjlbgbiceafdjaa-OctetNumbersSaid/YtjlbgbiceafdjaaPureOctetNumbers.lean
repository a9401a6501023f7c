/- A closed sentence: the runs of its chapter, worked out. No condition. -/
import Derived.Test.YtjlbgbiceafdjaaPOctetNumbersx4
namespace Go.Proofs.Ytjlbgbiceafdjaa.Pure
open Go.RowKit Go.Proofs.Ytjlbgbiceafdjaa.POctetNumbers Go.Proofs.YtjlbgbiceafdjaaW.PrintWords Go.Proofs.YtjlbgbiceafdjaaW.PrintLast
set_option linter.unusedVariables false
set_option linter.unusedSimpArgs false

theorem OctetNumbers : marigraphlaw2_OctetNumbers.Pure := ⟨200, by decide +kernel⟩

end Go.Proofs.Ytjlbgbiceafdjaa.Pure

/- MergeNumbers: rows that have all, some or none of the others keys. -/
import Derived.Test.YtmimfnangdabmaaPMergeNumbersx6
namespace Go.Proofs.Ytmimfnangdabmaa.Pure
open Go.RowKit Go.Proofs.Ytmimfnangdabmaa.PMergeNumbers Go.Proofs.YtmimfnangdabmaaW.PrintWords Go.Proofs.YtmimfnangdabmaaW.PrintLast
set_option linter.unusedVariables false
set_option linter.unusedSimpArgs false

theorem MergeNumbers : marigraphlaw9_MergeNumbers.Pure := ⟨300, by decide +kernel⟩

end Go.Proofs.Ytmimfnangdabmaa.Pure

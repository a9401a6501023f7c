/-
  No cell of these rows narrows 'for every input' (looked for: loops, veiled, ifaces, maps, wideKeys, modest, calm, conditions, laid).
  DERIVED. THE GIVEN ROWS OF THIS SEAT. 11 by the template 'for every input the law returns true; each argument reads behind the call as it read before'; 0 by the template 'total and deterministic' (their statements: YtdnialldicdnoaaTotals.lean).
  GIVEN WITH THE SEED: the statements are not yours to turn. If you find one false, say at which input.
  Laid BY PROGRAM, IN A SANDBOX (cutbox-rows.mjs): the forced cells as the released guide's own fill.sh prints them over the translation bad0c590806e8067… (all of the seat's roots in one cut). By AI agents, Wed Nov 11 2026. No macro, syntax, notation, axiom, sorry.
-/
import Derived.Test.YtdnialldicdnoaaChecked
import GoSem.Claim
import GoSem.ClaimJoined
import GoSem.ClaimMapViews
import Derived.JoinedTies
import Derived.KernelRfl
namespace Go.Proofs.Ytdnialldicdnoaa
/- THE CELL 'sum', in the pinned program and in every row, IS THE sha256 OF THE DUMP (.gsa) THAT YtdnialldicdnoaaProg.lean LOADS. Nothing in Lean hashes anything: it is a label: what it is worth is what the hold of that sum in a sandbox is worth. -/
noncomputable def Try.pinned : Pinned := { name := "ytdnialldicdnoaa", sum := "bad0c590806e8067b151a69e6b4c6ef90586924e0e43c3ec6bc9e985a7d60f67", checked := Try.checked }
namespace Rows
def none {H : Type} : Left H := { results := [], args := [] }

/-- 'marigraphlaw22.LerpNumbers': WHATEVER THE INPUT: true; the input reads as it did. -/
def lerpNumbersSpec : ChangeSpec := { name := "lerpNumbers", fn := fun _ => fun
  | [] => { results := [.lit (.bool true)], args := [] }
  | _ => none }
def lerpNumbersRow : OpenClaim := { program := "ytdnialldicdnoaa", sum := "bad0c590806e8067b151a69e6b4c6ef90586924e0e43c3ec6bc9e985a7d60f67", func := "marigraph/marigraphlaw22.LerpNumbers", spec := "lerpNumbers", unfollowed := true, recurses := true, apart := false }
def LerpNumbersSaid : Prop := lerpNumbersRow.holds Try.pinned (OpenSpec.ofChange lerpNumbersSpec)

/-- ITS FALSE NEIGHBOUR: 'it returns false'. Refute it at one input. -/
def lerpNumbersWrong : ChangeSpec := { name := "lerpNumbers", fn := fun _ => fun
  | [] => { results := [.lit (.bool false)], args := [] }
  | _ => none }
def LerpNumbersWrongFalsely : Prop := lerpNumbersRow.holds Try.pinned (OpenSpec.ofChange lerpNumbersWrong)

/-- 'marigraphlaw22.LerpTells': WHATEVER THE INPUT: true; the input reads as it did. -/
def lerpTellsSpec : ChangeSpec := { name := "lerpTells", fn := fun _ => fun
  | [d1, d2, d3, d4, d5, d6] => { results := [.lit (.bool true)], args := [d1, d2, d3, d4, d5, d6] }
  | _ => none }
def lerpTellsRow : OpenClaim := { program := "ytdnialldicdnoaa", sum := "bad0c590806e8067b151a69e6b4c6ef90586924e0e43c3ec6bc9e985a7d60f67", func := "marigraph/marigraphlaw22.LerpTells", spec := "lerpTells", unfollowed := true, recurses := true, apart := false }
def LerpTellsSaid : Prop := lerpTellsRow.holds Try.pinned (OpenSpec.ofChange lerpTellsSpec)

/-- ITS FALSE NEIGHBOUR: 'it returns false'. Refute it at one input. -/
def lerpTellsWrong : ChangeSpec := { name := "lerpTells", fn := fun _ => fun
  | [d1, d2, d3, d4, d5, d6] => { results := [.lit (.bool false)], args := [d1, d2, d3, d4, d5, d6] }
  | _ => none }
def LerpTellsWrongFalsely : Prop := lerpTellsRow.holds Try.pinned (OpenSpec.ofChange lerpTellsWrong)

/-- 'marigraphlaw22.LerpLines': WHATEVER THE INPUT: true; the input reads as it did. -/
def lerpLinesSpec : ChangeSpec := { name := "lerpLines", fn := fun _ => fun
  | [d1, d2, d3, d4, d5] => { results := [.lit (.bool true)], args := [d1, d2, d3, d4, d5] }
  | _ => none }
def lerpLinesRow : OpenClaim := { program := "ytdnialldicdnoaa", sum := "bad0c590806e8067b151a69e6b4c6ef90586924e0e43c3ec6bc9e985a7d60f67", func := "marigraph/marigraphlaw22.LerpLines", spec := "lerpLines", unfollowed := true, recurses := true, apart := false }
def LerpLinesSaid : Prop := lerpLinesRow.holds Try.pinned (OpenSpec.ofChange lerpLinesSpec)

/-- ITS FALSE NEIGHBOUR: 'it returns false'. Refute it at one input. -/
def lerpLinesWrong : ChangeSpec := { name := "lerpLines", fn := fun _ => fun
  | [d1, d2, d3, d4, d5] => { results := [.lit (.bool false)], args := [d1, d2, d3, d4, d5] }
  | _ => none }
def LerpLinesWrongFalsely : Prop := lerpLinesRow.holds Try.pinned (OpenSpec.ofChange lerpLinesWrong)

/-- 'marigraphlaw24.RateNumbers': WHATEVER THE INPUT: true; the input reads as it did. -/
def rateNumbersSpec : ChangeSpec := { name := "rateNumbers", fn := fun _ => fun
  | [] => { results := [.lit (.bool true)], args := [] }
  | _ => none }
def rateNumbersRow : OpenClaim := { program := "ytdnialldicdnoaa", sum := "bad0c590806e8067b151a69e6b4c6ef90586924e0e43c3ec6bc9e985a7d60f67", func := "marigraph/marigraphlaw24.RateNumbers", spec := "rateNumbers", unfollowed := true, recurses := true, apart := false }
def RateNumbersSaid : Prop := rateNumbersRow.holds Try.pinned (OpenSpec.ofChange rateNumbersSpec)

/-- ITS FALSE NEIGHBOUR: 'it returns false'. Refute it at one input. -/
def rateNumbersWrong : ChangeSpec := { name := "rateNumbers", fn := fun _ => fun
  | [] => { results := [.lit (.bool false)], args := [] }
  | _ => none }
def RateNumbersWrongFalsely : Prop := rateNumbersRow.holds Try.pinned (OpenSpec.ofChange rateNumbersWrong)

/-- 'marigraphlaw24.RateTells': WHATEVER THE INPUT: true; the input reads as it did. -/
def rateTellsSpec : ChangeSpec := { name := "rateTells", fn := fun _ => fun
  | [d1, d2, d3, d4, d5] => { results := [.lit (.bool true)], args := [d1, d2, d3, d4, d5] }
  | _ => none }
def rateTellsRow : OpenClaim := { program := "ytdnialldicdnoaa", sum := "bad0c590806e8067b151a69e6b4c6ef90586924e0e43c3ec6bc9e985a7d60f67", func := "marigraph/marigraphlaw24.RateTells", spec := "rateTells", unfollowed := true, recurses := true, apart := false }
def RateTellsSaid : Prop := rateTellsRow.holds Try.pinned (OpenSpec.ofChange rateTellsSpec)

/-- ITS FALSE NEIGHBOUR: 'it returns false'. Refute it at one input. -/
def rateTellsWrong : ChangeSpec := { name := "rateTells", fn := fun _ => fun
  | [d1, d2, d3, d4, d5] => { results := [.lit (.bool false)], args := [d1, d2, d3, d4, d5] }
  | _ => none }
def RateTellsWrongFalsely : Prop := rateTellsRow.holds Try.pinned (OpenSpec.ofChange rateTellsWrong)

/-- 'marigraphlaw24.RateSums': WHATEVER THE INPUT: true; the input reads as it did. -/
def rateSumsSpec : ChangeSpec := { name := "rateSums", fn := fun _ => fun
  | [d1, d2, d3] => { results := [.lit (.bool true)], args := [d1, d2, d3] }
  | _ => none }
def rateSumsRow : OpenClaim := { program := "ytdnialldicdnoaa", sum := "bad0c590806e8067b151a69e6b4c6ef90586924e0e43c3ec6bc9e985a7d60f67", func := "marigraph/marigraphlaw24.RateSums", spec := "rateSums", unfollowed := true, recurses := true, apart := false }
def RateSumsSaid : Prop := rateSumsRow.holds Try.pinned (OpenSpec.ofChange rateSumsSpec)

/-- ITS FALSE NEIGHBOUR: 'it returns false'. Refute it at one input. -/
def rateSumsWrong : ChangeSpec := { name := "rateSums", fn := fun _ => fun
  | [d1, d2, d3] => { results := [.lit (.bool false)], args := [d1, d2, d3] }
  | _ => none }
def RateSumsWrongFalsely : Prop := rateSumsRow.holds Try.pinned (OpenSpec.ofChange rateSumsWrong)

/-- 'marigraphlaw24.RateCounters': WHATEVER THE INPUT: true; the input reads as it did. -/
def rateCountersSpec : ChangeSpec := { name := "rateCounters", fn := fun _ => fun
  | [d1, d2, d3] => { results := [.lit (.bool true)], args := [d1, d2, d3] }
  | _ => none }
def rateCountersRow : OpenClaim := { program := "ytdnialldicdnoaa", sum := "bad0c590806e8067b151a69e6b4c6ef90586924e0e43c3ec6bc9e985a7d60f67", func := "marigraph/marigraphlaw24.RateCounters", spec := "rateCounters", unfollowed := true, recurses := true, apart := false }
def RateCountersSaid : Prop := rateCountersRow.holds Try.pinned (OpenSpec.ofChange rateCountersSpec)

/-- ITS FALSE NEIGHBOUR: 'it returns false'. Refute it at one input. -/
def rateCountersWrong : ChangeSpec := { name := "rateCounters", fn := fun _ => fun
  | [d1, d2, d3] => { results := [.lit (.bool false)], args := [d1, d2, d3] }
  | _ => none }
def RateCountersWrongFalsely : Prop := rateCountersRow.holds Try.pinned (OpenSpec.ofChange rateCountersWrong)

/-- 'marigraphlaw20.FoldNumbers': WHATEVER THE INPUT: true; the input reads as it did. -/
def foldNumbersSpec : ChangeSpec := { name := "foldNumbers", fn := fun _ => fun
  | [] => { results := [.lit (.bool true)], args := [] }
  | _ => none }
def foldNumbersRow : OpenClaim := { program := "ytdnialldicdnoaa", sum := "bad0c590806e8067b151a69e6b4c6ef90586924e0e43c3ec6bc9e985a7d60f67", func := "marigraph/marigraphlaw20.FoldNumbers", spec := "foldNumbers", unfollowed := true, recurses := true, apart := false }
def FoldNumbersSaid : Prop := foldNumbersRow.holds Try.pinned (OpenSpec.ofChange foldNumbersSpec)

/-- ITS FALSE NEIGHBOUR: 'it returns false'. Refute it at one input. -/
def foldNumbersWrong : ChangeSpec := { name := "foldNumbers", fn := fun _ => fun
  | [] => { results := [.lit (.bool false)], args := [] }
  | _ => none }
def FoldNumbersWrongFalsely : Prop := foldNumbersRow.holds Try.pinned (OpenSpec.ofChange foldNumbersWrong)

/-- 'marigraphlaw20.FoldTells': WHATEVER THE INPUT: true; the input reads as it did. -/
def foldTellsSpec : ChangeSpec := { name := "foldTells", fn := fun _ => fun
  | [d1, d2, d3, d4] => { results := [.lit (.bool true)], args := [d1, d2, d3, d4] }
  | _ => none }
def foldTellsRow : OpenClaim := { program := "ytdnialldicdnoaa", sum := "bad0c590806e8067b151a69e6b4c6ef90586924e0e43c3ec6bc9e985a7d60f67", func := "marigraph/marigraphlaw20.FoldTells", spec := "foldTells", unfollowed := true, recurses := true, apart := false }
def FoldTellsSaid : Prop := foldTellsRow.holds Try.pinned (OpenSpec.ofChange foldTellsSpec)

/-- ITS FALSE NEIGHBOUR: 'it returns false'. Refute it at one input. -/
def foldTellsWrong : ChangeSpec := { name := "foldTells", fn := fun _ => fun
  | [d1, d2, d3, d4] => { results := [.lit (.bool false)], args := [d1, d2, d3, d4] }
  | _ => none }
def FoldTellsWrongFalsely : Prop := foldTellsRow.holds Try.pinned (OpenSpec.ofChange foldTellsWrong)

/-- 'marigraphlaw20.FoldParts': WHATEVER THE INPUT: true; the input reads as it did. -/
def foldPartsSpec : ChangeSpec := { name := "foldParts", fn := fun _ => fun
  | [d1, d2] => { results := [.lit (.bool true)], args := [d1, d2] }
  | _ => none }
def foldPartsRow : OpenClaim := { program := "ytdnialldicdnoaa", sum := "bad0c590806e8067b151a69e6b4c6ef90586924e0e43c3ec6bc9e985a7d60f67", func := "marigraph/marigraphlaw20.FoldParts", spec := "foldParts", unfollowed := true, recurses := true, apart := false }
def FoldPartsSaid : Prop := foldPartsRow.holds Try.pinned (OpenSpec.ofChange foldPartsSpec)

/-- ITS FALSE NEIGHBOUR: 'it returns false'. Refute it at one input. -/
def foldPartsWrong : ChangeSpec := { name := "foldParts", fn := fun _ => fun
  | [d1, d2] => { results := [.lit (.bool false)], args := [d1, d2] }
  | _ => none }
def FoldPartsWrongFalsely : Prop := foldPartsRow.holds Try.pinned (OpenSpec.ofChange foldPartsWrong)

/-- 'marigraphlaw20.FoldOrders': WHATEVER THE INPUT: true; the input reads as it did. -/
def foldOrdersSpec : ChangeSpec := { name := "foldOrders", fn := fun _ => fun
  | [d] => { results := [.lit (.bool true)], args := [d] }
  | _ => none }
def foldOrdersRow : OpenClaim := { program := "ytdnialldicdnoaa", sum := "bad0c590806e8067b151a69e6b4c6ef90586924e0e43c3ec6bc9e985a7d60f67", func := "marigraph/marigraphlaw20.FoldOrders", spec := "foldOrders", unfollowed := true, recurses := true, apart := false }
def FoldOrdersSaid : Prop := foldOrdersRow.holds Try.pinned (OpenSpec.ofChange foldOrdersSpec)

/-- ITS FALSE NEIGHBOUR: 'it returns false'. Refute it at one input. -/
def foldOrdersWrong : ChangeSpec := { name := "foldOrders", fn := fun _ => fun
  | [d] => { results := [.lit (.bool false)], args := [d] }
  | _ => none }
def FoldOrdersWrongFalsely : Prop := foldOrdersRow.holds Try.pinned (OpenSpec.ofChange foldOrdersWrong)

/- THE SECOND FORM. 'bulk': how many values and letters a reading holds, each counted each time it is reached (what is shared counts as often as it is met; a slice's spare places count too). A statement '..UptoSaid' is the law's where the arguments, and the package variables that the reading takes, are together of bulk at most 1048576: NARROWER than '..Said'. Prove '..Said' where nothing that the law and all that it calls make is longer than what came in: it says more and counts as full. Else prove '..UptoSaid'. A law counts once. -/
mutual
def uptoBulk {H : Type} : DataW H → Nat
  | .lit (.string bytes) => bytes.length + 1
  | .lit _ => 1
  | .nil => 1
  | .ptr d => uptoBulk d + 1
  | .slice elems spare => uptoBulkAll elems + uptoBulkAll spare + 1
  | .agg parts => uptoBulkAll parts + 1
  | .iface _ d => uptoBulk d + 1
  | .map entries => uptoBulkEntries entries + 1
  | .held _ => 1
def uptoBulkAll {H : Type} : List (DataW H) → Nat
  | [] => 0
  | d :: r => uptoBulk d + uptoBulkAll r
def uptoBulkEntries {H : Type} : List (Lit × DataW H) → Nat
  | [] => 0
  | x :: r => uptoBulkEntry x + uptoBulkEntries r
def uptoBulkEntry {H : Type} : Lit × DataW H → Nat
  | (.string bytes, d) => bytes.length + uptoBulk d + 1
  | (_, d) => uptoBulk d + 1
 end
def uptoSmall : (H : Type) → List (DataW H) → Bool := fun _ ds => decide (uptoBulkAll ds ≤ 1048576)
def OpenSpec.upto (s : _root_.Go.ChangeSpec) : _root_.Go.OpenSpec := { _root_.Go.OpenSpec.ofChange s with cond := some uptoSmall }

/-- 'marigraphlaw22.LerpNumbers', WHERE WHAT IT READS IS OF BULK AT MOST 1048576: true; the input reads as it did. -/
def lerpNumbersUptoRow : OpenClaim := { program := "ytdnialldicdnoaa", sum := "bad0c590806e8067b151a69e6b4c6ef90586924e0e43c3ec6bc9e985a7d60f67", func := "marigraph/marigraphlaw22.LerpNumbers", spec := "lerpNumbers", unfollowed := true, recurses := true, apart := false, narrowed := true }
def LerpNumbersUptoSaid : Prop := lerpNumbersUptoRow.holds Try.pinned (OpenSpec.upto lerpNumbersSpec)

/-- 'marigraphlaw22.LerpTells', WHERE WHAT IT READS IS OF BULK AT MOST 1048576: true; the input reads as it did. -/
def lerpTellsUptoRow : OpenClaim := { program := "ytdnialldicdnoaa", sum := "bad0c590806e8067b151a69e6b4c6ef90586924e0e43c3ec6bc9e985a7d60f67", func := "marigraph/marigraphlaw22.LerpTells", spec := "lerpTells", unfollowed := true, recurses := true, apart := false, narrowed := true }
def LerpTellsUptoSaid : Prop := lerpTellsUptoRow.holds Try.pinned (OpenSpec.upto lerpTellsSpec)

/-- 'marigraphlaw22.LerpLines', WHERE WHAT IT READS IS OF BULK AT MOST 1048576: true; the input reads as it did. -/
def lerpLinesUptoRow : OpenClaim := { program := "ytdnialldicdnoaa", sum := "bad0c590806e8067b151a69e6b4c6ef90586924e0e43c3ec6bc9e985a7d60f67", func := "marigraph/marigraphlaw22.LerpLines", spec := "lerpLines", unfollowed := true, recurses := true, apart := false, narrowed := true }
def LerpLinesUptoSaid : Prop := lerpLinesUptoRow.holds Try.pinned (OpenSpec.upto lerpLinesSpec)

/-- 'marigraphlaw24.RateNumbers', WHERE WHAT IT READS IS OF BULK AT MOST 1048576: true; the input reads as it did. -/
def rateNumbersUptoRow : OpenClaim := { program := "ytdnialldicdnoaa", sum := "bad0c590806e8067b151a69e6b4c6ef90586924e0e43c3ec6bc9e985a7d60f67", func := "marigraph/marigraphlaw24.RateNumbers", spec := "rateNumbers", unfollowed := true, recurses := true, apart := false, narrowed := true }
def RateNumbersUptoSaid : Prop := rateNumbersUptoRow.holds Try.pinned (OpenSpec.upto rateNumbersSpec)

/-- 'marigraphlaw24.RateTells', WHERE WHAT IT READS IS OF BULK AT MOST 1048576: true; the input reads as it did. -/
def rateTellsUptoRow : OpenClaim := { program := "ytdnialldicdnoaa", sum := "bad0c590806e8067b151a69e6b4c6ef90586924e0e43c3ec6bc9e985a7d60f67", func := "marigraph/marigraphlaw24.RateTells", spec := "rateTells", unfollowed := true, recurses := true, apart := false, narrowed := true }
def RateTellsUptoSaid : Prop := rateTellsUptoRow.holds Try.pinned (OpenSpec.upto rateTellsSpec)

/-- 'marigraphlaw24.RateSums', WHERE WHAT IT READS IS OF BULK AT MOST 1048576: true; the input reads as it did. -/
def rateSumsUptoRow : OpenClaim := { program := "ytdnialldicdnoaa", sum := "bad0c590806e8067b151a69e6b4c6ef90586924e0e43c3ec6bc9e985a7d60f67", func := "marigraph/marigraphlaw24.RateSums", spec := "rateSums", unfollowed := true, recurses := true, apart := false, narrowed := true }
def RateSumsUptoSaid : Prop := rateSumsUptoRow.holds Try.pinned (OpenSpec.upto rateSumsSpec)

/-- 'marigraphlaw24.RateCounters', WHERE WHAT IT READS IS OF BULK AT MOST 1048576: true; the input reads as it did. -/
def rateCountersUptoRow : OpenClaim := { program := "ytdnialldicdnoaa", sum := "bad0c590806e8067b151a69e6b4c6ef90586924e0e43c3ec6bc9e985a7d60f67", func := "marigraph/marigraphlaw24.RateCounters", spec := "rateCounters", unfollowed := true, recurses := true, apart := false, narrowed := true }
def RateCountersUptoSaid : Prop := rateCountersUptoRow.holds Try.pinned (OpenSpec.upto rateCountersSpec)

/-- 'marigraphlaw20.FoldNumbers', WHERE WHAT IT READS IS OF BULK AT MOST 1048576: true; the input reads as it did. -/
def foldNumbersUptoRow : OpenClaim := { program := "ytdnialldicdnoaa", sum := "bad0c590806e8067b151a69e6b4c6ef90586924e0e43c3ec6bc9e985a7d60f67", func := "marigraph/marigraphlaw20.FoldNumbers", spec := "foldNumbers", unfollowed := true, recurses := true, apart := false, narrowed := true }
def FoldNumbersUptoSaid : Prop := foldNumbersUptoRow.holds Try.pinned (OpenSpec.upto foldNumbersSpec)

/-- 'marigraphlaw20.FoldTells', WHERE WHAT IT READS IS OF BULK AT MOST 1048576: true; the input reads as it did. -/
def foldTellsUptoRow : OpenClaim := { program := "ytdnialldicdnoaa", sum := "bad0c590806e8067b151a69e6b4c6ef90586924e0e43c3ec6bc9e985a7d60f67", func := "marigraph/marigraphlaw20.FoldTells", spec := "foldTells", unfollowed := true, recurses := true, apart := false, narrowed := true }
def FoldTellsUptoSaid : Prop := foldTellsUptoRow.holds Try.pinned (OpenSpec.upto foldTellsSpec)

/-- 'marigraphlaw20.FoldParts', WHERE WHAT IT READS IS OF BULK AT MOST 1048576: true; the input reads as it did. -/
def foldPartsUptoRow : OpenClaim := { program := "ytdnialldicdnoaa", sum := "bad0c590806e8067b151a69e6b4c6ef90586924e0e43c3ec6bc9e985a7d60f67", func := "marigraph/marigraphlaw20.FoldParts", spec := "foldParts", unfollowed := true, recurses := true, apart := false, narrowed := true }
def FoldPartsUptoSaid : Prop := foldPartsUptoRow.holds Try.pinned (OpenSpec.upto foldPartsSpec)

/-- 'marigraphlaw20.FoldOrders', WHERE WHAT IT READS IS OF BULK AT MOST 1048576: true; the input reads as it did. -/
def foldOrdersUptoRow : OpenClaim := { program := "ytdnialldicdnoaa", sum := "bad0c590806e8067b151a69e6b4c6ef90586924e0e43c3ec6bc9e985a7d60f67", func := "marigraph/marigraphlaw20.FoldOrders", spec := "foldOrders", unfollowed := true, recurses := true, apart := false, narrowed := true }
def FoldOrdersUptoSaid : Prop := foldOrdersUptoRow.holds Try.pinned (OpenSpec.upto foldOrdersSpec)

end Rows
end Go.Proofs.Ytdnialldicdnoaa

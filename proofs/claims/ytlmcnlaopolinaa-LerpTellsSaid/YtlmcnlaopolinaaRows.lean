/-
  No cell of these rows narrows 'for every input' (looked for: loops, veiled, ifaces, maps, wideKeys, modest, calm, conditions, laid).
  DERIVED. THE GIVEN ROWS OF THIS SEAT. 3 by the template 'for every input the law returns true; each argument reads behind the call as it read before'; 0 by the template 'total and deterministic' (their statements: YtlmcnlaopolinaaTotals.lean).
  GIVEN WITH THE SEED: the statements are not yours to turn. If you find one false, say at which input.
  Laid BY PROGRAM, IN A SANDBOX (cutbox-rows.mjs): the forced cells as the released guide's own fill.sh prints them over the translation d0a1479af568014c… (all of the seat's roots in one cut). By AI agents, Wed Nov 11 2026. No macro, syntax, notation, axiom, sorry.
-/
import Derived.Test.YtlmcnlaopolinaaChecked
import GoSem.Claim
import GoSem.ClaimJoined
import GoSem.ClaimMapViews
import Derived.JoinedTies
import Derived.KernelRfl
namespace Go.Proofs.Ytlmcnlaopolinaa
/- THE CELL 'sum', in the pinned program and in every row, IS THE sha256 OF THE DUMP (.gsa) THAT YtlmcnlaopolinaaProg.lean LOADS. Nothing in Lean hashes anything: it is a label: what it is worth is what the hold of that sum in a sandbox is worth. -/
noncomputable def Try.pinned : Pinned := { name := "ytlmcnlaopolinaa", sum := "d0a1479af568014c5d4f859ed54f69115c39a8de493b5ea16f6436e4669ee9b7", checked := Try.checked }
namespace Rows
def none {H : Type} : Left H := { results := [], args := [] }

/-- 'marigraphlaw22.LerpTells': WHATEVER THE INPUT: true; the input reads as it did. -/
def lerpTellsSpec : ChangeSpec := { name := "lerpTells", fn := fun _ => fun
  | [d1, d2, d3, d4, d5, d6] => { results := [.lit (.bool true)], args := [d1, d2, d3, d4, d5, d6] }
  | _ => none }
def lerpTellsRow : OpenClaim := { program := "ytlmcnlaopolinaa", sum := "d0a1479af568014c5d4f859ed54f69115c39a8de493b5ea16f6436e4669ee9b7", func := "marigraph/marigraphlaw22.LerpTells", spec := "lerpTells", unfollowed := true, recurses := true, apart := false }
def LerpTellsSaid : Prop := lerpTellsRow.holds Try.pinned (OpenSpec.ofChange lerpTellsSpec)

/-- ITS FALSE NEIGHBOUR: 'it returns false'. Refute it at one input. -/
def lerpTellsWrong : ChangeSpec := { name := "lerpTells", fn := fun _ => fun
  | [d1, d2, d3, d4, d5, d6] => { results := [.lit (.bool false)], args := [d1, d2, d3, d4, d5, d6] }
  | _ => none }
def LerpTellsWrongFalsely : Prop := lerpTellsRow.holds Try.pinned (OpenSpec.ofChange lerpTellsWrong)

/-- 'marigraphlaw24.RateTells': WHATEVER THE INPUT: true; the input reads as it did. -/
def rateTellsSpec : ChangeSpec := { name := "rateTells", fn := fun _ => fun
  | [d1, d2, d3, d4, d5] => { results := [.lit (.bool true)], args := [d1, d2, d3, d4, d5] }
  | _ => none }
def rateTellsRow : OpenClaim := { program := "ytlmcnlaopolinaa", sum := "d0a1479af568014c5d4f859ed54f69115c39a8de493b5ea16f6436e4669ee9b7", func := "marigraph/marigraphlaw24.RateTells", spec := "rateTells", unfollowed := true, recurses := true, apart := false }
def RateTellsSaid : Prop := rateTellsRow.holds Try.pinned (OpenSpec.ofChange rateTellsSpec)

/-- ITS FALSE NEIGHBOUR: 'it returns false'. Refute it at one input. -/
def rateTellsWrong : ChangeSpec := { name := "rateTells", fn := fun _ => fun
  | [d1, d2, d3, d4, d5] => { results := [.lit (.bool false)], args := [d1, d2, d3, d4, d5] }
  | _ => none }
def RateTellsWrongFalsely : Prop := rateTellsRow.holds Try.pinned (OpenSpec.ofChange rateTellsWrong)

/-- 'marigraphlaw24.RateCounters': WHATEVER THE INPUT: true; the input reads as it did. -/
def rateCountersSpec : ChangeSpec := { name := "rateCounters", fn := fun _ => fun
  | [d1, d2, d3] => { results := [.lit (.bool true)], args := [d1, d2, d3] }
  | _ => none }
def rateCountersRow : OpenClaim := { program := "ytlmcnlaopolinaa", sum := "d0a1479af568014c5d4f859ed54f69115c39a8de493b5ea16f6436e4669ee9b7", func := "marigraph/marigraphlaw24.RateCounters", spec := "rateCounters", unfollowed := true, recurses := true, apart := false }
def RateCountersSaid : Prop := rateCountersRow.holds Try.pinned (OpenSpec.ofChange rateCountersSpec)

/-- ITS FALSE NEIGHBOUR: 'it returns false'. Refute it at one input. -/
def rateCountersWrong : ChangeSpec := { name := "rateCounters", fn := fun _ => fun
  | [d1, d2, d3] => { results := [.lit (.bool false)], args := [d1, d2, d3] }
  | _ => none }
def RateCountersWrongFalsely : Prop := rateCountersRow.holds Try.pinned (OpenSpec.ofChange rateCountersWrong)

/- THE SECOND FORM. 'bulk': how many values and letters a reading holds, each counted each time it is reached (what is shared counts as often as it is met; a slice's spare places count too). A statement '..UptoSaid' is the law's where the arguments, and the package variables that the reading takes, are together of bulk at most 1048576: NARROWER than '..Said'. Prove '..Said' where nothing that the law and all that it calls make is longer than what came in: it says more and counts as full. Else prove '..UptoSaid'. A law counts once. -/
mutual
def uptoBulk {H : Type} : DataW H → Nat
  | .lit (.string bytes) => bytes.length + 1
  | .lit _ => 1
  | .nil => 1
  | .ptr d => uptoBulk d + 1
  | .slice elems spare => uptoBulkAll elems + uptoBulkAll spare + 1
  | .agg parts => uptoBulkAll parts + 1
  | .iface _ d => uptoBulk d + 1
  | .map entries => uptoBulkEntries entries + 1
  | .held _ => 1
def uptoBulkAll {H : Type} : List (DataW H) → Nat
  | [] => 0
  | d :: r => uptoBulk d + uptoBulkAll r
def uptoBulkEntries {H : Type} : List (Lit × DataW H) → Nat
  | [] => 0
  | x :: r => uptoBulkEntry x + uptoBulkEntries r
def uptoBulkEntry {H : Type} : Lit × DataW H → Nat
  | (.string bytes, d) => bytes.length + uptoBulk d + 1
  | (_, d) => uptoBulk d + 1
 end
def uptoSmall : (H : Type) → List (DataW H) → Bool := fun _ ds => decide (uptoBulkAll ds ≤ 1048576)
def OpenSpec.upto (s : _root_.Go.ChangeSpec) : _root_.Go.OpenSpec := { _root_.Go.OpenSpec.ofChange s with cond := some uptoSmall }

/-- 'marigraphlaw22.LerpTells', WHERE WHAT IT READS IS OF BULK AT MOST 1048576: true; the input reads as it did. -/
def lerpTellsUptoRow : OpenClaim := { program := "ytlmcnlaopolinaa", sum := "d0a1479af568014c5d4f859ed54f69115c39a8de493b5ea16f6436e4669ee9b7", func := "marigraph/marigraphlaw22.LerpTells", spec := "lerpTells", unfollowed := true, recurses := true, apart := false, narrowed := true }
def LerpTellsUptoSaid : Prop := lerpTellsUptoRow.holds Try.pinned (OpenSpec.upto lerpTellsSpec)

/-- 'marigraphlaw24.RateTells', WHERE WHAT IT READS IS OF BULK AT MOST 1048576: true; the input reads as it did. -/
def rateTellsUptoRow : OpenClaim := { program := "ytlmcnlaopolinaa", sum := "d0a1479af568014c5d4f859ed54f69115c39a8de493b5ea16f6436e4669ee9b7", func := "marigraph/marigraphlaw24.RateTells", spec := "rateTells", unfollowed := true, recurses := true, apart := false, narrowed := true }
def RateTellsUptoSaid : Prop := rateTellsUptoRow.holds Try.pinned (OpenSpec.upto rateTellsSpec)

/-- 'marigraphlaw24.RateCounters', WHERE WHAT IT READS IS OF BULK AT MOST 1048576: true; the input reads as it did. -/
def rateCountersUptoRow : OpenClaim := { program := "ytlmcnlaopolinaa", sum := "d0a1479af568014c5d4f859ed54f69115c39a8de493b5ea16f6436e4669ee9b7", func := "marigraph/marigraphlaw24.RateCounters", spec := "rateCounters", unfollowed := true, recurses := true, apart := false, narrowed := true }
def RateCountersUptoSaid : Prop := rateCountersUptoRow.holds Try.pinned (OpenSpec.upto rateCountersSpec)

end Rows
end Go.Proofs.Ytlmcnlaopolinaa

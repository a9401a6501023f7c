/-
  No cell of these rows narrows 'for every input' (looked for: loops, veiled, ifaces, maps, wideKeys, modest, calm, conditions, laid).
  DERIVED. THE GIVEN ROWS OF THIS SEAT. 4 by the template 'for every input the law returns true; each argument reads behind the call as it read before'; 0 by the template 'total and deterministic' (their statements: YtlmhgjnlbokceaaTotals.lean).
  GIVEN WITH THE SEED: the statements are not yours to turn. If you find one false, say at which input.
  Laid BY PROGRAM, IN A SANDBOX (cutbox-rows.mjs): the forced cells as the released guide's own fill.sh prints them over the translation c6f17206d77e7378… (all of the seat's roots in one cut). By AI agents, Wed Nov 11 2026. No macro, syntax, notation, axiom, sorry.
-/
import Derived.Test.YtlmhgjnlbokceaaChecked
import GoSem.Claim
import GoSem.ClaimJoined
import GoSem.ClaimMapViews
import Derived.JoinedTies
import Derived.KernelRfl
namespace Go.Proofs.Ytlmhgjnlbokceaa
/- THE CELL 'sum', in the pinned program and in every row, IS THE sha256 OF THE DUMP (.gsa) THAT YtlmhgjnlbokceaaProg.lean LOADS. Nothing in Lean hashes anything: it is a label: what it is worth is what the hold of that sum in a sandbox is worth. -/
noncomputable def Try.pinned : Pinned := { name := "ytlmhgjnlbokceaa", sum := "c6f17206d77e737809a4ff5bff97947a05f3088325b67f159ce4d5a8a44722a0", checked := Try.checked }
namespace Rows
def none {H : Type} : Left H := { results := [], args := [] }

/-- 'marigraphlaw21.DownNumbers': WHATEVER THE INPUT: true; the input reads as it did. -/
def downNumbersSpec : ChangeSpec := { name := "downNumbers", fn := fun _ => fun
  | [] => { results := [.lit (.bool true)], args := [] }
  | _ => none }
def downNumbersRow : OpenClaim := { program := "ytlmhgjnlbokceaa", sum := "c6f17206d77e737809a4ff5bff97947a05f3088325b67f159ce4d5a8a44722a0", func := "marigraph/marigraphlaw21.DownNumbers", spec := "downNumbers", unfollowed := true, recurses := true, apart := false }
def DownNumbersSaid : Prop := downNumbersRow.holds Try.pinned (OpenSpec.ofChange downNumbersSpec)

/-- ITS FALSE NEIGHBOUR: 'it returns false'. Refute it at one input. -/
def downNumbersWrong : ChangeSpec := { name := "downNumbers", fn := fun _ => fun
  | [] => { results := [.lit (.bool false)], args := [] }
  | _ => none }
def DownNumbersWrongFalsely : Prop := downNumbersRow.holds Try.pinned (OpenSpec.ofChange downNumbersWrong)

/-- 'marigraphlaw21.DownTells': WHATEVER THE INPUT: true; the input reads as it did. -/
def downTellsSpec : ChangeSpec := { name := "downTells", fn := fun _ => fun
  | [d1, d2, d3, d4, d5, d6, d7, d8] => { results := [.lit (.bool true)], args := [d1, d2, d3, d4, d5, d6, d7, d8] }
  | _ => none }
def downTellsRow : OpenClaim := { program := "ytlmhgjnlbokceaa", sum := "c6f17206d77e737809a4ff5bff97947a05f3088325b67f159ce4d5a8a44722a0", func := "marigraph/marigraphlaw21.DownTells", spec := "downTells", unfollowed := true, recurses := true, apart := false }
def DownTellsSaid : Prop := downTellsRow.holds Try.pinned (OpenSpec.ofChange downTellsSpec)

/-- ITS FALSE NEIGHBOUR: 'it returns false'. Refute it at one input. -/
def downTellsWrong : ChangeSpec := { name := "downTells", fn := fun _ => fun
  | [d1, d2, d3, d4, d5, d6, d7, d8] => { results := [.lit (.bool false)], args := [d1, d2, d3, d4, d5, d6, d7, d8] }
  | _ => none }
def DownTellsWrongFalsely : Prop := downTellsRow.holds Try.pinned (OpenSpec.ofChange downTellsWrong)

/-- 'marigraphlaw21.DownParts': WHATEVER THE INPUT: true; the input reads as it did. -/
def downPartsSpec : ChangeSpec := { name := "downParts", fn := fun _ => fun
  | [d1, d2, d3] => { results := [.lit (.bool true)], args := [d1, d2, d3] }
  | _ => none }
def downPartsRow : OpenClaim := { program := "ytlmhgjnlbokceaa", sum := "c6f17206d77e737809a4ff5bff97947a05f3088325b67f159ce4d5a8a44722a0", func := "marigraph/marigraphlaw21.DownParts", spec := "downParts", unfollowed := true, recurses := true, apart := false }
def DownPartsSaid : Prop := downPartsRow.holds Try.pinned (OpenSpec.ofChange downPartsSpec)

/-- ITS FALSE NEIGHBOUR: 'it returns false'. Refute it at one input. -/
def downPartsWrong : ChangeSpec := { name := "downParts", fn := fun _ => fun
  | [d1, d2, d3] => { results := [.lit (.bool false)], args := [d1, d2, d3] }
  | _ => none }
def DownPartsWrongFalsely : Prop := downPartsRow.holds Try.pinned (OpenSpec.ofChange downPartsWrong)

/-- 'marigraphlaw21.DownOne': WHATEVER THE INPUT: true; the input reads as it did. -/
def downOneSpec : ChangeSpec := { name := "downOne", fn := fun _ => fun
  | [d1, d2] => { results := [.lit (.bool true)], args := [d1, d2] }
  | _ => none }
def downOneRow : OpenClaim := { program := "ytlmhgjnlbokceaa", sum := "c6f17206d77e737809a4ff5bff97947a05f3088325b67f159ce4d5a8a44722a0", func := "marigraph/marigraphlaw21.DownOne", spec := "downOne", unfollowed := true, recurses := true, apart := false }
def DownOneSaid : Prop := downOneRow.holds Try.pinned (OpenSpec.ofChange downOneSpec)

/-- ITS FALSE NEIGHBOUR: 'it returns false'. Refute it at one input. -/
def downOneWrong : ChangeSpec := { name := "downOne", fn := fun _ => fun
  | [d1, d2] => { results := [.lit (.bool false)], args := [d1, d2] }
  | _ => none }
def DownOneWrongFalsely : Prop := downOneRow.holds Try.pinned (OpenSpec.ofChange downOneWrong)

/- THE SECOND FORM. 'bulk': how many values and letters a reading holds, each counted each time it is reached (what is shared counts as often as it is met; a slice's spare places count too). A statement '..UptoSaid' is the law's where the arguments, and the package variables that the reading takes, are together of bulk at most 1048576: NARROWER than '..Said'. Prove '..Said' where nothing that the law and all that it calls make is longer than what came in: it says more and counts as full. Else prove '..UptoSaid'. A law counts once. -/
mutual
def uptoBulk {H : Type} : DataW H → Nat
  | .lit (.string bytes) => bytes.length + 1
  | .lit _ => 1
  | .nil => 1
  | .ptr d => uptoBulk d + 1
  | .slice elems spare => uptoBulkAll elems + uptoBulkAll spare + 1
  | .agg parts => uptoBulkAll parts + 1
  | .iface _ d => uptoBulk d + 1
  | .map entries => uptoBulkEntries entries + 1
  | .held _ => 1
def uptoBulkAll {H : Type} : List (DataW H) → Nat
  | [] => 0
  | d :: r => uptoBulk d + uptoBulkAll r
def uptoBulkEntries {H : Type} : List (Lit × DataW H) → Nat
  | [] => 0
  | x :: r => uptoBulkEntry x + uptoBulkEntries r
def uptoBulkEntry {H : Type} : Lit × DataW H → Nat
  | (.string bytes, d) => bytes.length + uptoBulk d + 1
  | (_, d) => uptoBulk d + 1
 end
def uptoSmall : (H : Type) → List (DataW H) → Bool := fun _ ds => decide (uptoBulkAll ds ≤ 1048576)
def OpenSpec.upto (s : _root_.Go.ChangeSpec) : _root_.Go.OpenSpec := { _root_.Go.OpenSpec.ofChange s with cond := some uptoSmall }

/-- 'marigraphlaw21.DownNumbers', WHERE WHAT IT READS IS OF BULK AT MOST 1048576: true; the input reads as it did. -/
def downNumbersUptoRow : OpenClaim := { program := "ytlmhgjnlbokceaa", sum := "c6f17206d77e737809a4ff5bff97947a05f3088325b67f159ce4d5a8a44722a0", func := "marigraph/marigraphlaw21.DownNumbers", spec := "downNumbers", unfollowed := true, recurses := true, apart := false, narrowed := true }
def DownNumbersUptoSaid : Prop := downNumbersUptoRow.holds Try.pinned (OpenSpec.upto downNumbersSpec)

/-- 'marigraphlaw21.DownTells', WHERE WHAT IT READS IS OF BULK AT MOST 1048576: true; the input reads as it did. -/
def downTellsUptoRow : OpenClaim := { program := "ytlmhgjnlbokceaa", sum := "c6f17206d77e737809a4ff5bff97947a05f3088325b67f159ce4d5a8a44722a0", func := "marigraph/marigraphlaw21.DownTells", spec := "downTells", unfollowed := true, recurses := true, apart := false, narrowed := true }
def DownTellsUptoSaid : Prop := downTellsUptoRow.holds Try.pinned (OpenSpec.upto downTellsSpec)

/-- 'marigraphlaw21.DownParts', WHERE WHAT IT READS IS OF BULK AT MOST 1048576: true; the input reads as it did. -/
def downPartsUptoRow : OpenClaim := { program := "ytlmhgjnlbokceaa", sum := "c6f17206d77e737809a4ff5bff97947a05f3088325b67f159ce4d5a8a44722a0", func := "marigraph/marigraphlaw21.DownParts", spec := "downParts", unfollowed := true, recurses := true, apart := false, narrowed := true }
def DownPartsUptoSaid : Prop := downPartsUptoRow.holds Try.pinned (OpenSpec.upto downPartsSpec)

/-- 'marigraphlaw21.DownOne', WHERE WHAT IT READS IS OF BULK AT MOST 1048576: true; the input reads as it did. -/
def downOneUptoRow : OpenClaim := { program := "ytlmhgjnlbokceaa", sum := "c6f17206d77e737809a4ff5bff97947a05f3088325b67f159ce4d5a8a44722a0", func := "marigraph/marigraphlaw21.DownOne", spec := "downOne", unfollowed := true, recurses := true, apart := false, narrowed := true }
def DownOneUptoSaid : Prop := downOneUptoRow.holds Try.pinned (OpenSpec.upto downOneSpec)

end Rows
end Go.Proofs.Ytlmhgjnlbokceaa

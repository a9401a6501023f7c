/-
  No cell of these rows narrows 'for every input' (looked for: loops, veiled, ifaces, maps, wideKeys, modest, calm, conditions, laid).
  DERIVED. THE GIVEN ROWS OF THIS SEAT. 11 by the template 'for every input the law returns true; each argument reads behind the call as it read before'; 0 by the template 'total and deterministic' (their statements: YtnfgcjlmelaakaaTotals.lean).
  GIVEN WITH THE SEED: the statements are not yours to turn. If you find one false, say at which input.
  Laid BY PROGRAM, IN A SANDBOX (cutbox-rows.mjs): the forced cells as the released guide's own fill.sh prints them over the translation 59bd53420fa08d8f… (all of the seat's roots in one cut). By AI agents, Wed Nov 11 2026. No macro, syntax, notation, axiom, sorry.
-/
import Derived.Test.YtnfgcjlmelaakaaChecked
import GoSem.Claim
import GoSem.ClaimJoined
import GoSem.ClaimMapViews
import Derived.JoinedTies
import Derived.KernelRfl
namespace Go.Proofs.Ytnfgcjlmelaakaa
/- THE CELL 'sum', in the pinned program and in every row, IS THE sha256 OF THE DUMP (.gsa) THAT YtnfgcjlmelaakaaProg.lean LOADS. Nothing in Lean hashes anything: it is a label: what it is worth is what the hold of that sum in a sandbox is worth. -/
noncomputable def Try.pinned : Pinned := { name := "ytnfgcjlmelaakaa", sum := "59bd53420fa08d8faabe1e9076e1cca975c581810f8cd53e048791f1447a301a", checked := Try.checked }
namespace Rows
def none {H : Type} : Left H := { results := [], args := [] }

/-- 'marigraphlaw2.OctetOrders': WHATEVER THE INPUT: true; the input reads as it did. -/
def octetOrdersSpec : ChangeSpec := { name := "octetOrders", fn := fun _ => fun
  | [d1, d2, d3, d4] => { results := [.lit (.bool true)], args := [d1, d2, d3, d4] }
  | _ => none }
def octetOrdersRow : OpenClaim := { program := "ytnfgcjlmelaakaa", sum := "59bd53420fa08d8faabe1e9076e1cca975c581810f8cd53e048791f1447a301a", func := "marigraph/marigraphlaw2.OctetOrders", spec := "octetOrders", inPlace := ["internal/bytealg.Compare"], apart := false }
def OctetOrdersSaid : Prop := octetOrdersRow.holds Try.pinned (OpenSpec.ofChange octetOrdersSpec)

/-- ITS FALSE NEIGHBOUR: 'it returns false'. Refute it at one input. -/
def octetOrdersWrong : ChangeSpec := { name := "octetOrders", fn := fun _ => fun
  | [d1, d2, d3, d4] => { results := [.lit (.bool false)], args := [d1, d2, d3, d4] }
  | _ => none }
def OctetOrdersWrongFalsely : Prop := octetOrdersRow.holds Try.pinned (OpenSpec.ofChange octetOrdersWrong)

/-- 'marigraphlaw2.OctetBack': WHATEVER THE INPUT: true; the input reads as it did. -/
def octetBackSpec : ChangeSpec := { name := "octetBack", fn := fun _ => fun
  | [d1, d2, d3] => { results := [.lit (.bool true)], args := [d1, d2, d3] }
  | _ => none }
def octetBackRow : OpenClaim := { program := "ytnfgcjlmelaakaa", sum := "59bd53420fa08d8faabe1e9076e1cca975c581810f8cd53e048791f1447a301a", func := "marigraph/marigraphlaw2.OctetBack", spec := "octetBack", inPlace := ["internal/bytealg.Compare"], apart := false }
def OctetBackSaid : Prop := octetBackRow.holds Try.pinned (OpenSpec.ofChange octetBackSpec)

/-- ITS FALSE NEIGHBOUR: 'it returns false'. Refute it at one input. -/
def octetBackWrong : ChangeSpec := { name := "octetBack", fn := fun _ => fun
  | [d1, d2, d3] => { results := [.lit (.bool false)], args := [d1, d2, d3] }
  | _ => none }
def OctetBackWrongFalsely : Prop := octetBackRow.holds Try.pinned (OpenSpec.ofChange octetBackWrong)

/-- 'marigraphlaw1.RatMust': WHATEVER THE INPUT: true; the input reads as it did. -/
def ratMustSpec : ChangeSpec := { name := "ratMust", fn := fun _ => fun
  | [d1, d2] => { results := [.lit (.bool true)], args := [d1, d2] }
  | _ => none }
def ratMustRow : OpenClaim := { program := "ytnfgcjlmelaakaa", sum := "59bd53420fa08d8faabe1e9076e1cca975c581810f8cd53e048791f1447a301a", func := "marigraph/marigraphlaw1.RatMust", spec := "ratMust", unfollowed := true, recurses := true, apart := false }
def RatMustSaid : Prop := ratMustRow.holds Try.pinned (OpenSpec.ofChange ratMustSpec)

/-- ITS FALSE NEIGHBOUR: 'it returns false'. Refute it at one input. -/
def ratMustWrong : ChangeSpec := { name := "ratMust", fn := fun _ => fun
  | [d1, d2] => { results := [.lit (.bool false)], args := [d1, d2] }
  | _ => none }
def RatMustWrongFalsely : Prop := ratMustRow.holds Try.pinned (OpenSpec.ofChange ratMustWrong)

/-- 'marigraphlaw2.OctetNumbers': WHATEVER THE INPUT: true; the input reads as it did. -/
def octetNumbersSpec : ChangeSpec := { name := "octetNumbers", fn := fun _ => fun
  | [] => { results := [.lit (.bool true)], args := [] }
  | _ => none }
def octetNumbersRow : OpenClaim := { program := "ytnfgcjlmelaakaa", sum := "59bd53420fa08d8faabe1e9076e1cca975c581810f8cd53e048791f1447a301a", func := "marigraph/marigraphlaw2.OctetNumbers", spec := "octetNumbers", inPlace := ["internal/bytealg.Compare"], apart := false }
def OctetNumbersSaid : Prop := octetNumbersRow.holds Try.pinned (OpenSpec.ofChange octetNumbersSpec)

/-- ITS FALSE NEIGHBOUR: 'it returns false'. Refute it at one input. -/
def octetNumbersWrong : ChangeSpec := { name := "octetNumbers", fn := fun _ => fun
  | [] => { results := [.lit (.bool false)], args := [] }
  | _ => none }
def OctetNumbersWrongFalsely : Prop := octetNumbersRow.holds Try.pinned (OpenSpec.ofChange octetNumbersWrong)

/-- 'marigraphlaw2.OctetTells': WHATEVER THE INPUT: true; the input reads as it did. -/
def octetTellsSpec : ChangeSpec := { name := "octetTells", fn := fun _ => fun
  | [d1, d2, d3, d4] => { results := [.lit (.bool true)], args := [d1, d2, d3, d4] }
  | _ => none }
def octetTellsRow : OpenClaim := { program := "ytnfgcjlmelaakaa", sum := "59bd53420fa08d8faabe1e9076e1cca975c581810f8cd53e048791f1447a301a", func := "marigraph/marigraphlaw2.OctetTells", spec := "octetTells", inPlace := ["internal/bytealg.Compare"], apart := false }
def OctetTellsSaid : Prop := octetTellsRow.holds Try.pinned (OpenSpec.ofChange octetTellsSpec)

/-- ITS FALSE NEIGHBOUR: 'it returns false'. Refute it at one input. -/
def octetTellsWrong : ChangeSpec := { name := "octetTells", fn := fun _ => fun
  | [d1, d2, d3, d4] => { results := [.lit (.bool false)], args := [d1, d2, d3, d4] }
  | _ => none }
def OctetTellsWrongFalsely : Prop := octetTellsRow.holds Try.pinned (OpenSpec.ofChange octetTellsWrong)

/-- 'marigraphlaw1.RatInverse': WHATEVER THE INPUT: true; the input reads as it did. -/
def ratInverseSpec : ChangeSpec := { name := "ratInverse", fn := fun _ => fun
  | [d1, d2, d3, d4] => { results := [.lit (.bool true)], args := [d1, d2, d3, d4] }
  | _ => none }
def ratInverseRow : OpenClaim := { program := "ytnfgcjlmelaakaa", sum := "59bd53420fa08d8faabe1e9076e1cca975c581810f8cd53e048791f1447a301a", func := "marigraph/marigraphlaw1.RatInverse", spec := "ratInverse", unfollowed := true, recurses := true, apart := false }
def RatInverseSaid : Prop := ratInverseRow.holds Try.pinned (OpenSpec.ofChange ratInverseSpec)

/-- ITS FALSE NEIGHBOUR: 'it returns false'. Refute it at one input. -/
def ratInverseWrong : ChangeSpec := { name := "ratInverse", fn := fun _ => fun
  | [d1, d2, d3, d4] => { results := [.lit (.bool false)], args := [d1, d2, d3, d4] }
  | _ => none }
def RatInverseWrongFalsely : Prop := ratInverseRow.holds Try.pinned (OpenSpec.ofChange ratInverseWrong)

/-- 'marigraphlaw1.RatOrder': WHATEVER THE INPUT: true; the input reads as it did. -/
def ratOrderSpec : ChangeSpec := { name := "ratOrder", fn := fun _ => fun
  | [d1, d2, d3, d4, d5, d6] => { results := [.lit (.bool true)], args := [d1, d2, d3, d4, d5, d6] }
  | _ => none }
def ratOrderRow : OpenClaim := { program := "ytnfgcjlmelaakaa", sum := "59bd53420fa08d8faabe1e9076e1cca975c581810f8cd53e048791f1447a301a", func := "marigraph/marigraphlaw1.RatOrder", spec := "ratOrder", unfollowed := true, recurses := true, apart := false }
def RatOrderSaid : Prop := ratOrderRow.holds Try.pinned (OpenSpec.ofChange ratOrderSpec)

/-- ITS FALSE NEIGHBOUR: 'it returns false'. Refute it at one input. -/
def ratOrderWrong : ChangeSpec := { name := "ratOrder", fn := fun _ => fun
  | [d1, d2, d3, d4, d5, d6] => { results := [.lit (.bool false)], args := [d1, d2, d3, d4, d5, d6] }
  | _ => none }
def RatOrderWrongFalsely : Prop := ratOrderRow.holds Try.pinned (OpenSpec.ofChange ratOrderWrong)

/-- 'marigraphlaw1.RatLaws': WHATEVER THE INPUT: true; the input reads as it did. -/
def ratLawsSpec : ChangeSpec := { name := "ratLaws", fn := fun _ => fun
  | [d1, d2, d3, d4, d5, d6] => { results := [.lit (.bool true)], args := [d1, d2, d3, d4, d5, d6] }
  | _ => none }
def ratLawsRow : OpenClaim := { program := "ytnfgcjlmelaakaa", sum := "59bd53420fa08d8faabe1e9076e1cca975c581810f8cd53e048791f1447a301a", func := "marigraph/marigraphlaw1.RatLaws", spec := "ratLaws", unfollowed := true, recurses := true, apart := false }
def RatLawsSaid : Prop := ratLawsRow.holds Try.pinned (OpenSpec.ofChange ratLawsSpec)

/-- ITS FALSE NEIGHBOUR: 'it returns false'. Refute it at one input. -/
def ratLawsWrong : ChangeSpec := { name := "ratLaws", fn := fun _ => fun
  | [d1, d2, d3, d4, d5, d6] => { results := [.lit (.bool false)], args := [d1, d2, d3, d4, d5, d6] }
  | _ => none }
def RatLawsWrongFalsely : Prop := ratLawsRow.holds Try.pinned (OpenSpec.ofChange ratLawsWrong)

/-- 'marigraphlaw1.RatBack': WHATEVER THE INPUT: true; the input reads as it did. -/
def ratBackSpec : ChangeSpec := { name := "ratBack", fn := fun _ => fun
  | [d1, d2, d3, d4] => { results := [.lit (.bool true)], args := [d1, d2, d3, d4] }
  | _ => none }
def ratBackRow : OpenClaim := { program := "ytnfgcjlmelaakaa", sum := "59bd53420fa08d8faabe1e9076e1cca975c581810f8cd53e048791f1447a301a", func := "marigraph/marigraphlaw1.RatBack", spec := "ratBack", unfollowed := true, recurses := true, apart := false }
def RatBackSaid : Prop := ratBackRow.holds Try.pinned (OpenSpec.ofChange ratBackSpec)

/-- ITS FALSE NEIGHBOUR: 'it returns false'. Refute it at one input. -/
def ratBackWrong : ChangeSpec := { name := "ratBack", fn := fun _ => fun
  | [d1, d2, d3, d4] => { results := [.lit (.bool false)], args := [d1, d2, d3, d4] }
  | _ => none }
def RatBackWrongFalsely : Prop := ratBackRow.holds Try.pinned (OpenSpec.ofChange ratBackWrong)

/-- 'marigraphlaw1.RatTells': WHATEVER THE INPUT: true; the input reads as it did. -/
def ratTellsSpec : ChangeSpec := { name := "ratTells", fn := fun _ => fun
  | [d1, d2, d3, d4, d5, d6, d7, d8, d9] => { results := [.lit (.bool true)], args := [d1, d2, d3, d4, d5, d6, d7, d8, d9] }
  | _ => none }
def ratTellsRow : OpenClaim := { program := "ytnfgcjlmelaakaa", sum := "59bd53420fa08d8faabe1e9076e1cca975c581810f8cd53e048791f1447a301a", func := "marigraph/marigraphlaw1.RatTells", spec := "ratTells", unfollowed := true, recurses := true, apart := false }
def RatTellsSaid : Prop := ratTellsRow.holds Try.pinned (OpenSpec.ofChange ratTellsSpec)

/-- ITS FALSE NEIGHBOUR: 'it returns false'. Refute it at one input. -/
def ratTellsWrong : ChangeSpec := { name := "ratTells", fn := fun _ => fun
  | [d1, d2, d3, d4, d5, d6, d7, d8, d9] => { results := [.lit (.bool false)], args := [d1, d2, d3, d4, d5, d6, d7, d8, d9] }
  | _ => none }
def RatTellsWrongFalsely : Prop := ratTellsRow.holds Try.pinned (OpenSpec.ofChange ratTellsWrong)

/-- 'marigraphlaw1.RatNumbers': WHATEVER THE INPUT: true; the input reads as it did. -/
def ratNumbersSpec : ChangeSpec := { name := "ratNumbers", fn := fun _ => fun
  | [] => { results := [.lit (.bool true)], args := [] }
  | _ => none }
def ratNumbersRow : OpenClaim := { program := "ytnfgcjlmelaakaa", sum := "59bd53420fa08d8faabe1e9076e1cca975c581810f8cd53e048791f1447a301a", func := "marigraph/marigraphlaw1.RatNumbers", spec := "ratNumbers", unfollowed := true, recurses := true, apart := false }
def RatNumbersSaid : Prop := ratNumbersRow.holds Try.pinned (OpenSpec.ofChange ratNumbersSpec)

/-- ITS FALSE NEIGHBOUR: 'it returns false'. Refute it at one input. -/
def ratNumbersWrong : ChangeSpec := { name := "ratNumbers", fn := fun _ => fun
  | [] => { results := [.lit (.bool false)], args := [] }
  | _ => none }
def RatNumbersWrongFalsely : Prop := ratNumbersRow.holds Try.pinned (OpenSpec.ofChange ratNumbersWrong)

/- THE SECOND FORM. 'bulk': how many values and letters a reading holds, each counted each time it is reached (what is shared counts as often as it is met; a slice's spare places count too). A statement '..UptoSaid' is the law's where the arguments, and the package variables that the reading takes, are together of bulk at most 1048576: NARROWER than '..Said'. Prove '..Said' where nothing that the law and all that it calls make is longer than what came in: it says more and counts as full. Else prove '..UptoSaid'. A law counts once. -/
mutual
def uptoBulk {H : Type} : DataW H → Nat
  | .lit (.string bytes) => bytes.length + 1
  | .lit _ => 1
  | .nil => 1
  | .ptr d => uptoBulk d + 1
  | .slice elems spare => uptoBulkAll elems + uptoBulkAll spare + 1
  | .agg parts => uptoBulkAll parts + 1
  | .iface _ d => uptoBulk d + 1
  | .map entries => uptoBulkEntries entries + 1
  | .held _ => 1
def uptoBulkAll {H : Type} : List (DataW H) → Nat
  | [] => 0
  | d :: r => uptoBulk d + uptoBulkAll r
def uptoBulkEntries {H : Type} : List (Lit × DataW H) → Nat
  | [] => 0
  | x :: r => uptoBulkEntry x + uptoBulkEntries r
def uptoBulkEntry {H : Type} : Lit × DataW H → Nat
  | (.string bytes, d) => bytes.length + uptoBulk d + 1
  | (_, d) => uptoBulk d + 1
 end
def uptoSmall : (H : Type) → List (DataW H) → Bool := fun _ ds => decide (uptoBulkAll ds ≤ 1048576)
def OpenSpec.upto (s : _root_.Go.ChangeSpec) : _root_.Go.OpenSpec := { _root_.Go.OpenSpec.ofChange s with cond := some uptoSmall }

/-- 'marigraphlaw2.OctetOrders', WHERE WHAT IT READS IS OF BULK AT MOST 1048576: true; the input reads as it did. -/
def octetOrdersUptoRow : OpenClaim := { program := "ytnfgcjlmelaakaa", sum := "59bd53420fa08d8faabe1e9076e1cca975c581810f8cd53e048791f1447a301a", func := "marigraph/marigraphlaw2.OctetOrders", spec := "octetOrders", inPlace := ["internal/bytealg.Compare"], apart := false, narrowed := true }
def OctetOrdersUptoSaid : Prop := octetOrdersUptoRow.holds Try.pinned (OpenSpec.upto octetOrdersSpec)

/-- 'marigraphlaw2.OctetBack', WHERE WHAT IT READS IS OF BULK AT MOST 1048576: true; the input reads as it did. -/
def octetBackUptoRow : OpenClaim := { program := "ytnfgcjlmelaakaa", sum := "59bd53420fa08d8faabe1e9076e1cca975c581810f8cd53e048791f1447a301a", func := "marigraph/marigraphlaw2.OctetBack", spec := "octetBack", inPlace := ["internal/bytealg.Compare"], apart := false, narrowed := true }
def OctetBackUptoSaid : Prop := octetBackUptoRow.holds Try.pinned (OpenSpec.upto octetBackSpec)

/-- 'marigraphlaw1.RatMust', WHERE WHAT IT READS IS OF BULK AT MOST 1048576: true; the input reads as it did. -/
def ratMustUptoRow : OpenClaim := { program := "ytnfgcjlmelaakaa", sum := "59bd53420fa08d8faabe1e9076e1cca975c581810f8cd53e048791f1447a301a", func := "marigraph/marigraphlaw1.RatMust", spec := "ratMust", unfollowed := true, recurses := true, apart := false, narrowed := true }
def RatMustUptoSaid : Prop := ratMustUptoRow.holds Try.pinned (OpenSpec.upto ratMustSpec)

/-- 'marigraphlaw2.OctetNumbers', WHERE WHAT IT READS IS OF BULK AT MOST 1048576: true; the input reads as it did. -/
def octetNumbersUptoRow : OpenClaim := { program := "ytnfgcjlmelaakaa", sum := "59bd53420fa08d8faabe1e9076e1cca975c581810f8cd53e048791f1447a301a", func := "marigraph/marigraphlaw2.OctetNumbers", spec := "octetNumbers", inPlace := ["internal/bytealg.Compare"], apart := false, narrowed := true }
def OctetNumbersUptoSaid : Prop := octetNumbersUptoRow.holds Try.pinned (OpenSpec.upto octetNumbersSpec)

/-- 'marigraphlaw2.OctetTells', WHERE WHAT IT READS IS OF BULK AT MOST 1048576: true; the input reads as it did. -/
def octetTellsUptoRow : OpenClaim := { program := "ytnfgcjlmelaakaa", sum := "59bd53420fa08d8faabe1e9076e1cca975c581810f8cd53e048791f1447a301a", func := "marigraph/marigraphlaw2.OctetTells", spec := "octetTells", inPlace := ["internal/bytealg.Compare"], apart := false, narrowed := true }
def OctetTellsUptoSaid : Prop := octetTellsUptoRow.holds Try.pinned (OpenSpec.upto octetTellsSpec)

/-- 'marigraphlaw1.RatInverse', WHERE WHAT IT READS IS OF BULK AT MOST 1048576: true; the input reads as it did. -/
def ratInverseUptoRow : OpenClaim := { program := "ytnfgcjlmelaakaa", sum := "59bd53420fa08d8faabe1e9076e1cca975c581810f8cd53e048791f1447a301a", func := "marigraph/marigraphlaw1.RatInverse", spec := "ratInverse", unfollowed := true, recurses := true, apart := false, narrowed := true }
def RatInverseUptoSaid : Prop := ratInverseUptoRow.holds Try.pinned (OpenSpec.upto ratInverseSpec)

/-- 'marigraphlaw1.RatOrder', WHERE WHAT IT READS IS OF BULK AT MOST 1048576: true; the input reads as it did. -/
def ratOrderUptoRow : OpenClaim := { program := "ytnfgcjlmelaakaa", sum := "59bd53420fa08d8faabe1e9076e1cca975c581810f8cd53e048791f1447a301a", func := "marigraph/marigraphlaw1.RatOrder", spec := "ratOrder", unfollowed := true, recurses := true, apart := false, narrowed := true }
def RatOrderUptoSaid : Prop := ratOrderUptoRow.holds Try.pinned (OpenSpec.upto ratOrderSpec)

/-- 'marigraphlaw1.RatLaws', WHERE WHAT IT READS IS OF BULK AT MOST 1048576: true; the input reads as it did. -/
def ratLawsUptoRow : OpenClaim := { program := "ytnfgcjlmelaakaa", sum := "59bd53420fa08d8faabe1e9076e1cca975c581810f8cd53e048791f1447a301a", func := "marigraph/marigraphlaw1.RatLaws", spec := "ratLaws", unfollowed := true, recurses := true, apart := false, narrowed := true }
def RatLawsUptoSaid : Prop := ratLawsUptoRow.holds Try.pinned (OpenSpec.upto ratLawsSpec)

/-- 'marigraphlaw1.RatBack', WHERE WHAT IT READS IS OF BULK AT MOST 1048576: true; the input reads as it did. -/
def ratBackUptoRow : OpenClaim := { program := "ytnfgcjlmelaakaa", sum := "59bd53420fa08d8faabe1e9076e1cca975c581810f8cd53e048791f1447a301a", func := "marigraph/marigraphlaw1.RatBack", spec := "ratBack", unfollowed := true, recurses := true, apart := false, narrowed := true }
def RatBackUptoSaid : Prop := ratBackUptoRow.holds Try.pinned (OpenSpec.upto ratBackSpec)

/-- 'marigraphlaw1.RatTells', WHERE WHAT IT READS IS OF BULK AT MOST 1048576: true; the input reads as it did. -/
def ratTellsUptoRow : OpenClaim := { program := "ytnfgcjlmelaakaa", sum := "59bd53420fa08d8faabe1e9076e1cca975c581810f8cd53e048791f1447a301a", func := "marigraph/marigraphlaw1.RatTells", spec := "ratTells", unfollowed := true, recurses := true, apart := false, narrowed := true }
def RatTellsUptoSaid : Prop := ratTellsUptoRow.holds Try.pinned (OpenSpec.upto ratTellsSpec)

/-- 'marigraphlaw1.RatNumbers', WHERE WHAT IT READS IS OF BULK AT MOST 1048576: true; the input reads as it did. -/
def ratNumbersUptoRow : OpenClaim := { program := "ytnfgcjlmelaakaa", sum := "59bd53420fa08d8faabe1e9076e1cca975c581810f8cd53e048791f1447a301a", func := "marigraph/marigraphlaw1.RatNumbers", spec := "ratNumbers", unfollowed := true, recurses := true, apart := false, narrowed := true }
def RatNumbersUptoSaid : Prop := ratNumbersUptoRow.holds Try.pinned (OpenSpec.upto ratNumbersSpec)

end Rows
end Go.Proofs.Ytnfgcjlmelaakaa

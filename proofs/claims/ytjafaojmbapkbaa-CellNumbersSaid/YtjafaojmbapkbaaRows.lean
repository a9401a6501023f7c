/-
  No cell of these rows narrows 'for every input' (looked for: loops, veiled, ifaces, maps, wideKeys, modest, calm, conditions, laid).
  DERIVED. THE GIVEN ROWS OF THIS SEAT. 12 by the template 'for every input the law returns true; each argument reads behind the call as it read before'; 0 by the template 'total and deterministic' (their statements: YtjafaojmbapkbaaTotals.lean).
  GIVEN WITH THE SEED: the statements are not yours to turn. If you find one false, say at which input.
  Laid BY PROGRAM, IN A SANDBOX (cutbox-rows.mjs): the forced cells as the released guide's own fill.sh prints them over the translation 8946571f6403d0d2… (all of the seat's roots in one cut). By AI agents, Wed Nov 11 2026. No macro, syntax, notation, axiom, sorry.
-/
import Derived.Test.YtjafaojmbapkbaaChecked
import GoSem.Claim
import GoSem.ClaimJoined
import GoSem.ClaimMapViews
import Derived.JoinedTies
import Derived.KernelRfl
namespace Go.Proofs.Ytjafaojmbapkbaa
/- THE CELL 'sum', in the pinned program and in every row, IS THE sha256 OF THE DUMP (.gsa) THAT YtjafaojmbapkbaaProg.lean LOADS. Nothing in Lean hashes anything: it is a label: what it is worth is what the hold of that sum in a sandbox is worth. -/
noncomputable def Try.pinned : Pinned := { name := "ytjafaojmbapkbaa", sum := "8946571f6403d0d2661426e3e4eed063ee4d8afeb8c7eab29f77215bebbfc9f2", checked := Try.checked }
namespace Rows
def none {H : Type} : Left H := { results := [], args := [] }

/-- 'marigraphlaw15.CellNumbers': WHATEVER THE INPUT: true; the input reads as it did. -/
def cellNumbersSpec : ChangeSpec := { name := "cellNumbers", fn := fun _ => fun
  | [] => { results := [.lit (.bool true)], args := [] }
  | _ => none }
def cellNumbersRow : OpenClaim := { program := "ytjafaojmbapkbaa", sum := "8946571f6403d0d2661426e3e4eed063ee4d8afeb8c7eab29f77215bebbfc9f2", func := "marigraph/marigraphlaw15.CellNumbers", spec := "cellNumbers", unfollowed := true, recurses := true, apart := false }
def CellNumbersSaid : Prop := cellNumbersRow.holds Try.pinned (OpenSpec.ofChange cellNumbersSpec)

/-- ITS FALSE NEIGHBOUR: 'it returns false'. Refute it at one input. -/
def cellNumbersWrong : ChangeSpec := { name := "cellNumbers", fn := fun _ => fun
  | [] => { results := [.lit (.bool false)], args := [] }
  | _ => none }
def CellNumbersWrongFalsely : Prop := cellNumbersRow.holds Try.pinned (OpenSpec.ofChange cellNumbersWrong)

/-- 'marigraphlaw15.CellTells': WHATEVER THE INPUT: true; the input reads as it did. -/
def cellTellsSpec : ChangeSpec := { name := "cellTells", fn := fun _ => fun
  | [d1, d2, d3, d4, d5, d6, d7, d8] => { results := [.lit (.bool true)], args := [d1, d2, d3, d4, d5, d6, d7, d8] }
  | _ => none }
def cellTellsRow : OpenClaim := { program := "ytjafaojmbapkbaa", sum := "8946571f6403d0d2661426e3e4eed063ee4d8afeb8c7eab29f77215bebbfc9f2", func := "marigraph/marigraphlaw15.CellTells", spec := "cellTells", unfollowed := true, recurses := true, apart := false }
def CellTellsSaid : Prop := cellTellsRow.holds Try.pinned (OpenSpec.ofChange cellTellsSpec)

/-- ITS FALSE NEIGHBOUR: 'it returns false'. Refute it at one input. -/
def cellTellsWrong : ChangeSpec := { name := "cellTells", fn := fun _ => fun
  | [d1, d2, d3, d4, d5, d6, d7, d8] => { results := [.lit (.bool false)], args := [d1, d2, d3, d4, d5, d6, d7, d8] }
  | _ => none }
def CellTellsWrongFalsely : Prop := cellTellsRow.holds Try.pinned (OpenSpec.ofChange cellTellsWrong)

/-- 'marigraphlaw15.CellBack': WHATEVER THE INPUT: true; the input reads as it did. -/
def cellBackSpec : ChangeSpec := { name := "cellBack", fn := fun _ => fun
  | [d1, d2] => { results := [.lit (.bool true)], args := [d1, d2] }
  | _ => none }
def cellBackRow : OpenClaim := { program := "ytjafaojmbapkbaa", sum := "8946571f6403d0d2661426e3e4eed063ee4d8afeb8c7eab29f77215bebbfc9f2", func := "marigraph/marigraphlaw15.CellBack", spec := "cellBack", unfollowed := true, recurses := true, apart := false }
def CellBackSaid : Prop := cellBackRow.holds Try.pinned (OpenSpec.ofChange cellBackSpec)

/-- ITS FALSE NEIGHBOUR: 'it returns false'. Refute it at one input. -/
def cellBackWrong : ChangeSpec := { name := "cellBack", fn := fun _ => fun
  | [d1, d2] => { results := [.lit (.bool false)], args := [d1, d2] }
  | _ => none }
def CellBackWrongFalsely : Prop := cellBackRow.holds Try.pinned (OpenSpec.ofChange cellBackWrong)

/-- 'marigraphlaw15.CellApart': WHATEVER THE INPUT: true; the input reads as it did. -/
def cellApartSpec : ChangeSpec := { name := "cellApart", fn := fun _ => fun
  | [d1, d2, d3, d4, d5, d6] => { results := [.lit (.bool true)], args := [d1, d2, d3, d4, d5, d6] }
  | _ => none }
def cellApartRow : OpenClaim := { program := "ytjafaojmbapkbaa", sum := "8946571f6403d0d2661426e3e4eed063ee4d8afeb8c7eab29f77215bebbfc9f2", func := "marigraph/marigraphlaw15.CellApart", spec := "cellApart", unfollowed := true, recurses := true, apart := false }
def CellApartSaid : Prop := cellApartRow.holds Try.pinned (OpenSpec.ofChange cellApartSpec)

/-- ITS FALSE NEIGHBOUR: 'it returns false'. Refute it at one input. -/
def cellApartWrong : ChangeSpec := { name := "cellApart", fn := fun _ => fun
  | [d1, d2, d3, d4, d5, d6] => { results := [.lit (.bool false)], args := [d1, d2, d3, d4, d5, d6] }
  | _ => none }
def CellApartWrongFalsely : Prop := cellApartRow.holds Try.pinned (OpenSpec.ofChange cellApartWrong)

/-- 'marigraphlaw14.RowkeyNumbers': WHATEVER THE INPUT: true; the input reads as it did. -/
def rowkeyNumbersSpec : ChangeSpec := { name := "rowkeyNumbers", fn := fun _ => fun
  | [] => { results := [.lit (.bool true)], args := [] }
  | _ => none }
def rowkeyNumbersRow : OpenClaim := { program := "ytjafaojmbapkbaa", sum := "8946571f6403d0d2661426e3e4eed063ee4d8afeb8c7eab29f77215bebbfc9f2", func := "marigraph/marigraphlaw14.RowkeyNumbers", spec := "rowkeyNumbers", unfollowed := true, recurses := true, apart := false }
def RowkeyNumbersSaid : Prop := rowkeyNumbersRow.holds Try.pinned (OpenSpec.ofChange rowkeyNumbersSpec)

/-- ITS FALSE NEIGHBOUR: 'it returns false'. Refute it at one input. -/
def rowkeyNumbersWrong : ChangeSpec := { name := "rowkeyNumbers", fn := fun _ => fun
  | [] => { results := [.lit (.bool false)], args := [] }
  | _ => none }
def RowkeyNumbersWrongFalsely : Prop := rowkeyNumbersRow.holds Try.pinned (OpenSpec.ofChange rowkeyNumbersWrong)

/-- 'marigraphlaw14.RowkeyTells': WHATEVER THE INPUT: true; the input reads as it did. -/
def rowkeyTellsSpec : ChangeSpec := { name := "rowkeyTells", fn := fun _ => fun
  | [d1, d2, d3, d4, d5, d6, d7] => { results := [.lit (.bool true)], args := [d1, d2, d3, d4, d5, d6, d7] }
  | _ => none }
def rowkeyTellsRow : OpenClaim := { program := "ytjafaojmbapkbaa", sum := "8946571f6403d0d2661426e3e4eed063ee4d8afeb8c7eab29f77215bebbfc9f2", func := "marigraph/marigraphlaw14.RowkeyTells", spec := "rowkeyTells", unfollowed := true, recurses := true, apart := false }
def RowkeyTellsSaid : Prop := rowkeyTellsRow.holds Try.pinned (OpenSpec.ofChange rowkeyTellsSpec)

/-- ITS FALSE NEIGHBOUR: 'it returns false'. Refute it at one input. -/
def rowkeyTellsWrong : ChangeSpec := { name := "rowkeyTells", fn := fun _ => fun
  | [d1, d2, d3, d4, d5, d6, d7] => { results := [.lit (.bool false)], args := [d1, d2, d3, d4, d5, d6, d7] }
  | _ => none }
def RowkeyTellsWrongFalsely : Prop := rowkeyTellsRow.holds Try.pinned (OpenSpec.ofChange rowkeyTellsWrong)

/-- 'marigraphlaw14.RowkeyBack': WHATEVER THE INPUT: true; the input reads as it did. -/
def rowkeyBackSpec : ChangeSpec := { name := "rowkeyBack", fn := fun _ => fun
  | [d1, d2, d3, d4, d5] => { results := [.lit (.bool true)], args := [d1, d2, d3, d4, d5] }
  | _ => none }
def rowkeyBackRow : OpenClaim := { program := "ytjafaojmbapkbaa", sum := "8946571f6403d0d2661426e3e4eed063ee4d8afeb8c7eab29f77215bebbfc9f2", func := "marigraph/marigraphlaw14.RowkeyBack", spec := "rowkeyBack", unfollowed := true, recurses := true, apart := false }
def RowkeyBackSaid : Prop := rowkeyBackRow.holds Try.pinned (OpenSpec.ofChange rowkeyBackSpec)

/-- ITS FALSE NEIGHBOUR: 'it returns false'. Refute it at one input. -/
def rowkeyBackWrong : ChangeSpec := { name := "rowkeyBack", fn := fun _ => fun
  | [d1, d2, d3, d4, d5] => { results := [.lit (.bool false)], args := [d1, d2, d3, d4, d5] }
  | _ => none }
def RowkeyBackWrongFalsely : Prop := rowkeyBackRow.holds Try.pinned (OpenSpec.ofChange rowkeyBackWrong)

/-- 'marigraphlaw14.RowkeyApart': WHATEVER THE INPUT: true; the input reads as it did. -/
def rowkeyApartSpec : ChangeSpec := { name := "rowkeyApart", fn := fun _ => fun
  | [d1, d2, d3, d4, d5, d6] => { results := [.lit (.bool true)], args := [d1, d2, d3, d4, d5, d6] }
  | _ => none }
def rowkeyApartRow : OpenClaim := { program := "ytjafaojmbapkbaa", sum := "8946571f6403d0d2661426e3e4eed063ee4d8afeb8c7eab29f77215bebbfc9f2", func := "marigraph/marigraphlaw14.RowkeyApart", spec := "rowkeyApart", unfollowed := true, recurses := true, apart := false }
def RowkeyApartSaid : Prop := rowkeyApartRow.holds Try.pinned (OpenSpec.ofChange rowkeyApartSpec)

/-- ITS FALSE NEIGHBOUR: 'it returns false'. Refute it at one input. -/
def rowkeyApartWrong : ChangeSpec := { name := "rowkeyApart", fn := fun _ => fun
  | [d1, d2, d3, d4, d5, d6] => { results := [.lit (.bool false)], args := [d1, d2, d3, d4, d5, d6] }
  | _ => none }
def RowkeyApartWrongFalsely : Prop := rowkeyApartRow.holds Try.pinned (OpenSpec.ofChange rowkeyApartWrong)

/-- 'marigraphlaw8.MemRanges': WHATEVER THE INPUT: true; the input reads as it did. -/
def memRangesSpec : ChangeSpec := { name := "memRanges", fn := fun _ => fun
  | [d1, d2] => { results := [.lit (.bool true)], args := [d1, d2] }
  | _ => none }
def memRangesRow : OpenClaim := { program := "ytjafaojmbapkbaa", sum := "8946571f6403d0d2661426e3e4eed063ee4d8afeb8c7eab29f77215bebbfc9f2", func := "marigraph/marigraphlaw8.MemRanges", spec := "memRanges", inPlace := ["internal/bytealg.Compare", "slices.overlaps[marigraph/api.Entry]"], apart := false }
def MemRangesSaid : Prop := memRangesRow.holds Try.pinned (OpenSpec.ofChange memRangesSpec)

/-- ITS FALSE NEIGHBOUR: 'it returns false'. Refute it at one input. -/
def memRangesWrong : ChangeSpec := { name := "memRanges", fn := fun _ => fun
  | [d1, d2] => { results := [.lit (.bool false)], args := [d1, d2] }
  | _ => none }
def MemRangesWrongFalsely : Prop := memRangesRow.holds Try.pinned (OpenSpec.ofChange memRangesWrong)

/-- 'marigraphlaw8.MemNumbers': WHATEVER THE INPUT: true; the input reads as it did. -/
def memNumbersSpec : ChangeSpec := { name := "memNumbers", fn := fun _ => fun
  | [] => { results := [.lit (.bool true)], args := [] }
  | _ => none }
def memNumbersRow : OpenClaim := { program := "ytjafaojmbapkbaa", sum := "8946571f6403d0d2661426e3e4eed063ee4d8afeb8c7eab29f77215bebbfc9f2", func := "marigraph/marigraphlaw8.MemNumbers", spec := "memNumbers", inPlace := ["internal/bytealg.Compare", "slices.overlaps[marigraph/api.Entry]"], apart := false }
def MemNumbersSaid : Prop := memNumbersRow.holds Try.pinned (OpenSpec.ofChange memNumbersSpec)

/-- ITS FALSE NEIGHBOUR: 'it returns false'. Refute it at one input. -/
def memNumbersWrong : ChangeSpec := { name := "memNumbers", fn := fun _ => fun
  | [] => { results := [.lit (.bool false)], args := [] }
  | _ => none }
def MemNumbersWrongFalsely : Prop := memNumbersRow.holds Try.pinned (OpenSpec.ofChange memNumbersWrong)

/-- 'marigraphlaw8.MemPlays': WHATEVER THE INPUT: true; the input reads as it did. -/
def memPlaysSpec : ChangeSpec := { name := "memPlays", fn := fun _ => fun
  | [d1, d2, d3] => { results := [.lit (.bool true)], args := [d1, d2, d3] }
  | _ => none }
def memPlaysRow : OpenClaim := { program := "ytjafaojmbapkbaa", sum := "8946571f6403d0d2661426e3e4eed063ee4d8afeb8c7eab29f77215bebbfc9f2", func := "marigraph/marigraphlaw8.MemPlays", spec := "memPlays", inPlace := ["internal/bytealg.Compare", "slices.overlaps[marigraph/api.Entry]"], apart := false }
def MemPlaysSaid : Prop := memPlaysRow.holds Try.pinned (OpenSpec.ofChange memPlaysSpec)

/-- ITS FALSE NEIGHBOUR: 'it returns false'. Refute it at one input. -/
def memPlaysWrong : ChangeSpec := { name := "memPlays", fn := fun _ => fun
  | [d1, d2, d3] => { results := [.lit (.bool false)], args := [d1, d2, d3] }
  | _ => none }
def MemPlaysWrongFalsely : Prop := memPlaysRow.holds Try.pinned (OpenSpec.ofChange memPlaysWrong)

/-- 'marigraphlaw8.MemCopies': WHATEVER THE INPUT: true; the input reads as it did. -/
def memCopiesSpec : ChangeSpec := { name := "memCopies", fn := fun _ => fun
  | [d1, d2] => { results := [.lit (.bool true)], args := [d1, d2] }
  | _ => none }
def memCopiesRow : OpenClaim := { program := "ytjafaojmbapkbaa", sum := "8946571f6403d0d2661426e3e4eed063ee4d8afeb8c7eab29f77215bebbfc9f2", func := "marigraph/marigraphlaw8.MemCopies", spec := "memCopies", inPlace := ["internal/bytealg.Compare", "slices.overlaps[marigraph/api.Entry]"], apart := false }
def MemCopiesSaid : Prop := memCopiesRow.holds Try.pinned (OpenSpec.ofChange memCopiesSpec)

/-- ITS FALSE NEIGHBOUR: 'it returns false'. Refute it at one input. -/
def memCopiesWrong : ChangeSpec := { name := "memCopies", fn := fun _ => fun
  | [d1, d2] => { results := [.lit (.bool false)], args := [d1, d2] }
  | _ => none }
def MemCopiesWrongFalsely : Prop := memCopiesRow.holds Try.pinned (OpenSpec.ofChange memCopiesWrong)

/- THE SECOND FORM. 'bulk': how many values and letters a reading holds, each counted each time it is reached (what is shared counts as often as it is met; a slice's spare places count too). A statement '..UptoSaid' is the law's where the arguments, and the package variables that the reading takes, are together of bulk at most 1048576: NARROWER than '..Said'. Prove '..Said' where nothing that the law and all that it calls make is longer than what came in: it says more and counts as full. Else prove '..UptoSaid'. A law counts once. -/
mutual
def uptoBulk {H : Type} : DataW H → Nat
  | .lit (.string bytes) => bytes.length + 1
  | .lit _ => 1
  | .nil => 1
  | .ptr d => uptoBulk d + 1
  | .slice elems spare => uptoBulkAll elems + uptoBulkAll spare + 1
  | .agg parts => uptoBulkAll parts + 1
  | .iface _ d => uptoBulk d + 1
  | .map entries => uptoBulkEntries entries + 1
  | .held _ => 1
def uptoBulkAll {H : Type} : List (DataW H) → Nat
  | [] => 0
  | d :: r => uptoBulk d + uptoBulkAll r
def uptoBulkEntries {H : Type} : List (Lit × DataW H) → Nat
  | [] => 0
  | x :: r => uptoBulkEntry x + uptoBulkEntries r
def uptoBulkEntry {H : Type} : Lit × DataW H → Nat
  | (.string bytes, d) => bytes.length + uptoBulk d + 1
  | (_, d) => uptoBulk d + 1
 end
def uptoSmall : (H : Type) → List (DataW H) → Bool := fun _ ds => decide (uptoBulkAll ds ≤ 1048576)
def OpenSpec.upto (s : _root_.Go.ChangeSpec) : _root_.Go.OpenSpec := { _root_.Go.OpenSpec.ofChange s with cond := some uptoSmall }

/-- 'marigraphlaw15.CellNumbers', WHERE WHAT IT READS IS OF BULK AT MOST 1048576: true; the input reads as it did. -/
def cellNumbersUptoRow : OpenClaim := { program := "ytjafaojmbapkbaa", sum := "8946571f6403d0d2661426e3e4eed063ee4d8afeb8c7eab29f77215bebbfc9f2", func := "marigraph/marigraphlaw15.CellNumbers", spec := "cellNumbers", unfollowed := true, recurses := true, apart := false, narrowed := true }
def CellNumbersUptoSaid : Prop := cellNumbersUptoRow.holds Try.pinned (OpenSpec.upto cellNumbersSpec)

/-- 'marigraphlaw15.CellTells', WHERE WHAT IT READS IS OF BULK AT MOST 1048576: true; the input reads as it did. -/
def cellTellsUptoRow : OpenClaim := { program := "ytjafaojmbapkbaa", sum := "8946571f6403d0d2661426e3e4eed063ee4d8afeb8c7eab29f77215bebbfc9f2", func := "marigraph/marigraphlaw15.CellTells", spec := "cellTells", unfollowed := true, recurses := true, apart := false, narrowed := true }
def CellTellsUptoSaid : Prop := cellTellsUptoRow.holds Try.pinned (OpenSpec.upto cellTellsSpec)

/-- 'marigraphlaw15.CellBack', WHERE WHAT IT READS IS OF BULK AT MOST 1048576: true; the input reads as it did. -/
def cellBackUptoRow : OpenClaim := { program := "ytjafaojmbapkbaa", sum := "8946571f6403d0d2661426e3e4eed063ee4d8afeb8c7eab29f77215bebbfc9f2", func := "marigraph/marigraphlaw15.CellBack", spec := "cellBack", unfollowed := true, recurses := true, apart := false, narrowed := true }
def CellBackUptoSaid : Prop := cellBackUptoRow.holds Try.pinned (OpenSpec.upto cellBackSpec)

/-- 'marigraphlaw15.CellApart', WHERE WHAT IT READS IS OF BULK AT MOST 1048576: true; the input reads as it did. -/
def cellApartUptoRow : OpenClaim := { program := "ytjafaojmbapkbaa", sum := "8946571f6403d0d2661426e3e4eed063ee4d8afeb8c7eab29f77215bebbfc9f2", func := "marigraph/marigraphlaw15.CellApart", spec := "cellApart", unfollowed := true, recurses := true, apart := false, narrowed := true }
def CellApartUptoSaid : Prop := cellApartUptoRow.holds Try.pinned (OpenSpec.upto cellApartSpec)

/-- 'marigraphlaw14.RowkeyNumbers', WHERE WHAT IT READS IS OF BULK AT MOST 1048576: true; the input reads as it did. -/
def rowkeyNumbersUptoRow : OpenClaim := { program := "ytjafaojmbapkbaa", sum := "8946571f6403d0d2661426e3e4eed063ee4d8afeb8c7eab29f77215bebbfc9f2", func := "marigraph/marigraphlaw14.RowkeyNumbers", spec := "rowkeyNumbers", unfollowed := true, recurses := true, apart := false, narrowed := true }
def RowkeyNumbersUptoSaid : Prop := rowkeyNumbersUptoRow.holds Try.pinned (OpenSpec.upto rowkeyNumbersSpec)

/-- 'marigraphlaw14.RowkeyTells', WHERE WHAT IT READS IS OF BULK AT MOST 1048576: true; the input reads as it did. -/
def rowkeyTellsUptoRow : OpenClaim := { program := "ytjafaojmbapkbaa", sum := "8946571f6403d0d2661426e3e4eed063ee4d8afeb8c7eab29f77215bebbfc9f2", func := "marigraph/marigraphlaw14.RowkeyTells", spec := "rowkeyTells", unfollowed := true, recurses := true, apart := false, narrowed := true }
def RowkeyTellsUptoSaid : Prop := rowkeyTellsUptoRow.holds Try.pinned (OpenSpec.upto rowkeyTellsSpec)

/-- 'marigraphlaw14.RowkeyBack', WHERE WHAT IT READS IS OF BULK AT MOST 1048576: true; the input reads as it did. -/
def rowkeyBackUptoRow : OpenClaim := { program := "ytjafaojmbapkbaa", sum := "8946571f6403d0d2661426e3e4eed063ee4d8afeb8c7eab29f77215bebbfc9f2", func := "marigraph/marigraphlaw14.RowkeyBack", spec := "rowkeyBack", unfollowed := true, recurses := true, apart := false, narrowed := true }
def RowkeyBackUptoSaid : Prop := rowkeyBackUptoRow.holds Try.pinned (OpenSpec.upto rowkeyBackSpec)

/-- 'marigraphlaw14.RowkeyApart', WHERE WHAT IT READS IS OF BULK AT MOST 1048576: true; the input reads as it did. -/
def rowkeyApartUptoRow : OpenClaim := { program := "ytjafaojmbapkbaa", sum := "8946571f6403d0d2661426e3e4eed063ee4d8afeb8c7eab29f77215bebbfc9f2", func := "marigraph/marigraphlaw14.RowkeyApart", spec := "rowkeyApart", unfollowed := true, recurses := true, apart := false, narrowed := true }
def RowkeyApartUptoSaid : Prop := rowkeyApartUptoRow.holds Try.pinned (OpenSpec.upto rowkeyApartSpec)

/-- 'marigraphlaw8.MemRanges', WHERE WHAT IT READS IS OF BULK AT MOST 1048576: true; the input reads as it did. -/
def memRangesUptoRow : OpenClaim := { program := "ytjafaojmbapkbaa", sum := "8946571f6403d0d2661426e3e4eed063ee4d8afeb8c7eab29f77215bebbfc9f2", func := "marigraph/marigraphlaw8.MemRanges", spec := "memRanges", inPlace := ["internal/bytealg.Compare", "slices.overlaps[marigraph/api.Entry]"], apart := false, narrowed := true }
def MemRangesUptoSaid : Prop := memRangesUptoRow.holds Try.pinned (OpenSpec.upto memRangesSpec)

/-- 'marigraphlaw8.MemNumbers', WHERE WHAT IT READS IS OF BULK AT MOST 1048576: true; the input reads as it did. -/
def memNumbersUptoRow : OpenClaim := { program := "ytjafaojmbapkbaa", sum := "8946571f6403d0d2661426e3e4eed063ee4d8afeb8c7eab29f77215bebbfc9f2", func := "marigraph/marigraphlaw8.MemNumbers", spec := "memNumbers", inPlace := ["internal/bytealg.Compare", "slices.overlaps[marigraph/api.Entry]"], apart := false, narrowed := true }
def MemNumbersUptoSaid : Prop := memNumbersUptoRow.holds Try.pinned (OpenSpec.upto memNumbersSpec)

/-- 'marigraphlaw8.MemPlays', WHERE WHAT IT READS IS OF BULK AT MOST 1048576: true; the input reads as it did. -/
def memPlaysUptoRow : OpenClaim := { program := "ytjafaojmbapkbaa", sum := "8946571f6403d0d2661426e3e4eed063ee4d8afeb8c7eab29f77215bebbfc9f2", func := "marigraph/marigraphlaw8.MemPlays", spec := "memPlays", inPlace := ["internal/bytealg.Compare", "slices.overlaps[marigraph/api.Entry]"], apart := false, narrowed := true }
def MemPlaysUptoSaid : Prop := memPlaysUptoRow.holds Try.pinned (OpenSpec.upto memPlaysSpec)

/-- 'marigraphlaw8.MemCopies', WHERE WHAT IT READS IS OF BULK AT MOST 1048576: true; the input reads as it did. -/
def memCopiesUptoRow : OpenClaim := { program := "ytjafaojmbapkbaa", sum := "8946571f6403d0d2661426e3e4eed063ee4d8afeb8c7eab29f77215bebbfc9f2", func := "marigraph/marigraphlaw8.MemCopies", spec := "memCopies", inPlace := ["internal/bytealg.Compare", "slices.overlaps[marigraph/api.Entry]"], apart := false, narrowed := true }
def MemCopiesUptoSaid : Prop := memCopiesUptoRow.holds Try.pinned (OpenSpec.upto memCopiesSpec)

end Rows
end Go.Proofs.Ytjafaojmbapkbaa

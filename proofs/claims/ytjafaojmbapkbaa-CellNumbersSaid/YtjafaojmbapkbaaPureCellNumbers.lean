/- CellNumbers: chapter 15's runs are as they are told, reckoned over the plain functions. No condition beyond the statement's own. -/
import Derived.Test.YtjafaojmbapkbaaPCellTellsx10
namespace Go.Proofs.Ytjafaojmbapkbaa.Pure
open Go.RowKit Go.Proofs.Ytjafaojmbapkbaa.PCellTells Go.Proofs.YtjafaojmbapkbaaW.PrintWords Go.Proofs.YtjafaojmbapkbaaW.PrintLast
set_option linter.unusedVariables false
set_option linter.unusedSimpArgs false

def cnQ : List Int := [0, 3, 0, 51, 0, 99, 0, 147, 0, 193, 0, 241]
def cnVv : List Int := [255, 255, 99, 192, 255, 255, 100, 136, 255, 255, 106, 0, 255, 255, 120, 216, 149, 192, 197, 104, 0]
def cnX (h : Nat) : List Int := if h = 2 then [0, 80] else if h = 3 then [0, 81] else if h = 5 then [0, 83] else []
theorem cn_one : ∀ i, i < 15 → ∀ j, j < 5 → marigraphlaw15_one.f 200 (rd cnO ((j : Nat) : Int)) (rd cnV ((i : Nat) : Int)) = some true := by decide +kernel
theorem cn_width : ∀ i, i < 15 → cell_Width.f (rd cnV ((i : Nat) : Int)) = marigraphref15_Width.f 200 (rd cnV (i : Int)) ∧ (cell_Width.f (rd cnV (i : Int))).isSome = true := by decide +kernel
theorem cn_many : marigraphlaw15_many.f 200 [] = some true ∧ marigraphlaw15_many.f 200 ((cnL 66).take 1) = some true ∧ marigraphlaw15_many.f 200 ((cnL 66).take 2) = some true ∧ marigraphlaw15_many.f 200 ((cnL 66).take 64) = some true ∧ marigraphlaw15_many.f 200 ((cnL 66).take 65) = some true ∧ marigraphlaw15_many.f 200 [cnP 1, cnP 0] = some true ∧ marigraphlaw15_many.f 200 [cnP 1, cnP 1] = some true := by decide +kernel
theorem cn_cell : marigraphref15_Cell.f 200 ((cnL 66).take 6) = some (cnQ, cnVv) := by decide +kernel
theorem cn_cutv : ∀ n, n < 22 → marigraphlaw15_parses.f 200 cnQ (cnVv.take n) = some true ∧ marigraphlaw15_parses.f 200 cnQ (cnVv ++ cnVv.take n) = some true := by decide +kernel
theorem cn_cutq : ∀ n, n < 13 → marigraphlaw15_parses.f 200 (cnQ.take n) cnVv = some true ∧ marigraphlaw15_parses.f 200 (cnQ.take n) [] = some true := by decide +kernel
theorem cn_wide : ∀ h, h < 7 → cell_Wide.f 200 5 (((h : Nat) : Int) - 1) = some (cnX h) ∧ (if h = 2 ∨ h = 3 ∨ h = 5 then (cnX h).length = 2 ∧ marigraphref15_Wide.f 200 5 ((h : Int) - 1) = some (cnX h) else (cnX h).length ≠ 2) := by decide +kernel
theorem CellNumbers : ∃ (k : Nat) (q v : List Int), CnFacts k q v := by
  refine ⟨200, cnQ, cnVv, ⟨fun i j hi hj => cn_one i hi j hj, fun i hi => ?_, cn_many, cn_cell, by decide, by decide, fun n hn => cn_cutv n (Nat.lt_succ_of_le hn), fun n hn => cn_cutq n (Nat.lt_succ_of_le hn), fun h hh => ?_, by decide +kernel, by decide +kernel, by decide +kernel⟩⟩
  · obtain ⟨e1, e2⟩ := cn_width i hi
    obtain ⟨r, hr⟩ := Option.isSome_iff_exists.1 e2
    exact ⟨r, hr, by rw [← e1]; exact hr⟩
  · obtain ⟨e1, e2⟩ := cn_wide h hh
    refine ⟨cnX h, cnX h, e1, ?_⟩
    split
    · rename_i hc
      rw [if_pos hc] at e2
      exact ⟨e2.1, e2.2, rfl⟩
    · rename_i hc
      rw [if_neg hc] at e2
      exact e2

end Go.Proofs.Ytjafaojmbapkbaa.Pure

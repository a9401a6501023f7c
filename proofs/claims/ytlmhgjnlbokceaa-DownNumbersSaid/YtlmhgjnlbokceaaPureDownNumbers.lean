/- DownNumbers: a closed sentence: chapter 21's runs, buckets of each size, ends at each bound, too many. No condition. -/
import Derived.Test.YtlmhgjnlbokceaaPDownTellsx19
import Derived.Test.YtlmhgjnlbokceaaPureDownTells
namespace Go.Proofs.Ytlmhgjnlbokceaa.Pure
open Go.RowKit Go.Proofs.Ytlmhgjnlbokceaa.PDownTells Go.Proofs.YtlmhgjnlbokceaaW.PrintWords Go.Proofs.YtlmhgjnlbokceaaW.PrintLast
set_option linter.unusedVariables false
theorem fin_all {P : Nat → Nat → Prop} : ∀ n : Nat, (∀ i, i < n → ∃ K, ∀ k, K ≤ k → P i k) → ∃ K, ∀ k, K ≤ k → ∀ i, i < n → P i k
  | 0, _ => ⟨0, fun _ _ i hi => absurd hi (Nat.not_lt_zero _)⟩
  | n + 1, h => by
    obtain ⟨K1, h1⟩ := fin_all n (fun i hi => h i (by omega))
    obtain ⟨K2, h2⟩ := h n (Nat.lt_succ_self _)
    refine ⟨K1 + K2, fun k hk i hi => ?_⟩
    by_cases he : i = n
    · rw [he]; exact h2 k (by omega)
    · exact h1 k (by omega) i (by omega)
def smpN : List S31 := (marigraphkeep_Samples.f 200 [3, 1, 10, 25, 1, 1, 40, 7, 7, 7] [5, -3, 12, 7, 0, 9, -20, 1, 2, 3] 10).getD []
def smpB (l : List S31) : Bool := l.all fun x => decide (-9223372036854775808 ≤ x.f0 ∧ x.f0 ≤ 9223372036854775807) && decide (-9223372036854775808 ≤ x.f1.f0 ∧ x.f1.f0 ≤ 9223372036854775807) && decide (-9223372036854775808 ≤ x.f1.f1 ∧ x.f1.f1 ≤ 9223372036854775807)
theorem smpB_num {l : List S31} (h : smpB l = true) : NumX l := by
  intro x hx
  have := List.all_eq_true.1 h x hx
  simp only [Bool.and_eq_true, decide_eq_true_eq] at this
  exact ⟨this.1.1, this.1.2, this.2⟩
theorem smpN_some : (marigraphkeep_Samples.f 200 [3, 1, 10, 25, 1, 1, 40, 7, 7, 7] [5, -3, 12, 7, 0, 9, -20, 1, 2, 3] 10).isSome = true := by decide +kernel
theorem smpN_num : smpB smpN = true ∧ smpN.length ≤ 1000 := by decide +kernel
theorem smpN_ev : Ev (fun k => marigraphkeep_Samples.f k [3, 1, 10, 25, 1, 1, 40, 7, 7, 7] [5, -3, 12, 7, 0, 9, -20, 1, 2, 3] 10) smpN := by
  refine Ev.of (k := 200) (fun k => marigraphkeep_Samples.mono _ _ _ k) ?_
  obtain ⟨l, hl⟩ := Option.isSome_iff_exists.1 smpN_some
  unfold smpN
  rw [hl]
  rfl
/-- The law's plain form. -/
def DownNumbersPure : Prop := ∃ (k : Nat) (l : List S31), marigraphkeep_Samples.f k [3, 1, 10, 25, 1, 1, 40, 7, 7, 7] [5, -3, 12, 7, 0, 9, -20, 1, 2, 3] 10 = some l ∧
    (∀ (i j x : Nat) (zero : Bool), i < 9 → j < 9 → x < 7 → marigraphlaw21_same.f k l (endsAt x).1 (endsAt x).2 (3 * (i : Int) - 1) (j : Int) zero = some true) ∧
    marigraphlaw21_same.f k [] 0 4095 1 1 true = some true ∧ marigraphlaw21_same.f k [] 0 4096 1 1 true = some true ∧ marigraphlaw21_same.f k [] 0 4294967295 1 1 false = some true ∧
    marigraphlaw21_same.f k [⟨5, ⟨0, 1⟩⟩, ⟨5, ⟨0, 1⟩⟩] 0 9 3 1 false = some true ∧ marigraphlaw21_same.f k [⟨-1, ⟨0, 1⟩⟩] 0 9 3 1 false = some true ∧ marigraphlaw21_same.f k [⟨1, ⟨0, 0⟩⟩] 0 9 3 1 false = some true ∧ marigraphlaw21_known.f k = some true
theorem DownNumbers : DownNumbersPure := by
  have hx := smpB_num smpN_num.1
  obtain ⟨K0, e0⟩ := smpN_ev
  have hall : ∃ K, ∀ k, K ≤ k → ∀ i : Nat, i < 9 → ∀ j : Nat, j < 9 → ∀ x : Nat, x < 7 → ∀ z : Nat, z < 2 → marigraphlaw21_same.f k smpN (endsAt x).1 (endsAt x).2 (3 * (i : Int) - 1) (j : Int) (z == 1) = some true := by
    refine fin_all 9 fun i _ => fin_all 9 fun j _ => fin_all 7 fun x _ => fin_all 2 fun z _ => ?_
    obtain ⟨K, hK⟩ := same_tells hx smpN_num.2 (endsAt x).1 (endsAt x).2 (3 * (i : Int) - 1) (j : Int) (z == 1)
    exact ⟨K, hK⟩
  obtain ⟨K1, e1⟩ := hall
  have nil : NumX [] := fun x h => by cases h
  obtain ⟨K2, e2⟩ := same_tells nil (by decide) 0 4095 1 1 true
  obtain ⟨K3, e3⟩ := same_tells nil (by decide) 0 4096 1 1 true
  obtain ⟨K4, e4⟩ := same_tells nil (by decide) 0 4294967295 1 1 false
  obtain ⟨K5, e5⟩ := same_tells (smpB_num (l := [⟨5, ⟨0, 1⟩⟩, ⟨5, ⟨0, 1⟩⟩]) (by decide)) (by decide) 0 9 3 1 false
  obtain ⟨K6, e6⟩ := same_tells (smpB_num (l := [⟨-1, ⟨0, 1⟩⟩]) (by decide)) (by decide) 0 9 3 1 false
  obtain ⟨K7, e7⟩ := same_tells (smpB_num (l := [⟨1, ⟨0, 0⟩⟩]) (by decide)) (by decide) 0 9 3 1 false
  obtain ⟨K8, e8⟩ := known21
  refine ⟨K0 + K1 + K2 + K3 + K4 + K5 + K6 + K7 + K8, smpN, e0 _ (by omega), fun i j x zero hi hj hxx => ?_, e2 _ (by omega), e3 _ (by omega), e4 _ (by omega), e5 _ (by omega), e6 _ (by omega), e7 _ (by omega), e8 _ (by omega)⟩
  cases zero with
  | true => exact e1 _ (by omega) i hi j hj x hxx 1 (by decide)
  | false => exact e1 _ (by omega) i hi j hj x hxx 0 (by decide)
end Go.Proofs.Ytlmhgjnlbokceaa.Pure

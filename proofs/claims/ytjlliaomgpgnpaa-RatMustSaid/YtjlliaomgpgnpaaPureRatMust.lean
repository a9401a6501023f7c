/- Must tells what it is given, or panics, just with a refusal: the plain law; no condition beyond the statement's own. -/
import Derived.Test.YtjlliaomgpgnpaaPRatMustx3
namespace Go.Proofs.Ytjlliaomgpgnpaa.Pure
open Go.RowKit Go.Proofs.Ytjlliaomgpgnpaa.PRatMust Go.Proofs.YtjlliaomgpgnpaaW.PrintWords Go.Proofs.YtjlliaomgpgnpaaW.PrintLast
set_option linter.unusedVariables false
set_option linter.unusedSimpArgs false

theorem i64_of {a : Int} (h : (Lit.int .i64 a).wf = true) : -9223372036854775808 ≤ a ∧ a ≤ 9223372036854775807 := by
  have h1 : IntKind.i64.min = -9223372036854775808 := rfl
  have h2 : IntKind.i64.max = 9223372036854775807 := rfl
  simp only [Lit.wf, Bool.and_eq_true, decide_eq_true_eq] at h
  omega
/-! ### Within -/
theorem within_w {n lo hi : Int} (h1 : -2199023255552 ≤ lo) (h2 : lo ≤ hi) (h3 : hi ≤ 2199023255552) (hn : -9223372036854775808 ≤ n ∧ n ≤ 9223372036854775807) : ∃ r, Ev (fun k => marigraphbook_Within.f k n lo hi) r ∧ lo ≤ r ∧ r ≤ hi ∧ (lo ≤ n → n ≤ hi → r = n) := by
  have e1 : wrap64 (wrap64 (hi - lo) + 1) = hi - lo + 1 := by unfold wrap64; omega
  have hj : ∀ b : Bool, (b = true ↔ (lo ≤ n ∧ n ≤ hi)) → ∃ r, (∀ k, marigraphbook_Within.j0 (k + 1) n lo hi b = some r) ∧ lo ≤ r ∧ r ≤ hi ∧ (lo ≤ n → n ≤ hi → r = n) := by
    intro b hb
    simp only [marigraphbook_Within.j0, e1]
    cases b with
    | true =>
      have := hb.1 rfl
      exact ⟨n, fun _ => by rw [if_pos rfl], this.1, this.2, fun _ _ => rfl⟩
    | false =>
      have hno : ¬ (lo ≤ n ∧ n ≤ hi) := fun h => by have := hb.2 h; cases this
      simp only [Bool.false_eq_true, if_false]
      rw [if_neg (by omega)]
      have hm : (0 : Int) < hi - lo + 1 := by omega
      have t1 : Int.tmod n (hi - lo + 1) < hi - lo + 1 := Int.tmod_lt_of_pos _ hm
      have t2 : -(hi - lo + 1) < Int.tmod n (hi - lo + 1) := by
        have := Int.tmod_lt_of_pos (-n) hm
        rw [Int.neg_tmod] at this
        omega
      generalize Int.tmod n (hi - lo + 1) = t at *
      by_cases ht : t < 0
      · rw [if_pos ht]
        have e : wrap64 (lo + wrap64 (wrap64 (wrap64 (t + hi) - lo) + 1)) = t + hi + 1 := by unfold wrap64; omega
        rw [e]
        exact ⟨_, fun _ => rfl, by omega, by omega, fun a b => absurd ⟨a, b⟩ hno⟩
      · rw [if_neg ht]
        have e : wrap64 (lo + t) = lo + t := by unfold wrap64; omega
        rw [e]
        exact ⟨_, fun _ => rfl, by omega, by omega, fun a b => absurd ⟨a, b⟩ hno⟩
  have fin : ∀ b : Bool, (∀ k, marigraphbook_Within.f k n lo hi = marigraphbook_Within.j0 k n lo hi b) → (b = true ↔ (lo ≤ n ∧ n ≤ hi)) → ∃ r, Ev (fun k => marigraphbook_Within.f k n lo hi) r ∧ lo ≤ r ∧ r ≤ hi ∧ (lo ≤ n → n ≤ hi → r = n) := by
    intro b hf hb
    obtain ⟨r, h, hr⟩ := hj b hb
    refine ⟨r, ⟨1, fun k hk => ?_⟩, hr⟩
    obtain ⟨k, rfl⟩ : ∃ m, k = m + 1 := ⟨k - 1, by omega⟩
    show marigraphbook_Within.f (k + 1) n lo hi = some r
    rw [hf]
    exact h k
  by_cases hlo : n ≥ lo
  · refine fin (decide (n ≤ hi)) (fun k => by unfold marigraphbook_Within.f; rw [if_pos hlo]) ?_
    rw [decide_eq_true_iff]
    exact ⟨fun h => ⟨hlo, h⟩, fun h => h.2⟩
  · refine fin false (fun k => by unfold marigraphbook_Within.f; rw [if_neg hlo]) ?_
    constructor
    · intro h; cases h
    · intro h; omega
theorem evEq {α : Type} {f g : Nat → Option α} {r : α} (hf : ∀ k, g k = f k) (h : Ev f r) : Ev g r := by rw [funext hf]; exact h
theorem known_ev : Ev (fun k => marigraphlaw1_known.f k) true := Ev.of (fun k => marigraphlaw1_known.mono k) (k := 60) (by decide +kernel)
theorem RatMust : ∀ (a0_0 a0_1 a1 : Int), (Lit.int .i64 a1).wf = true → ∃ k, marigraphlaw1_RatMust.f k a0_0 a0_1 a1 = some true := by
  intro x y e we
  refine Ev.rounds ?_
  obtain ⟨f, hf, f0, f1, _⟩ := within_w (n := e) (lo := 0) (hi := 30) (by decide) (by decide) (by decide) (i64_of we)
  unfold marigraphlaw1_RatMust.f
  refine Ev.bind hf ?_
  by_cases h : f = 0
  · have e1 : marigraphlaw1_must.f x y f = some (x, y, true) := if_pos h
    have e2 : (f == 0) = true := by simp [h]
    refine evEq (f := fun k => (marigraphlaw1_known.f k).bind fun t147 => (some t147)) (fun k => ?_) (Ev.bind known_ev (Ev.now _))
    rw [e1]
    simp [e2]
  · have e1 : marigraphlaw1_must.f x y f = some (0, 0, false) := if_neg h
    have e2 : (f == 0) = false := by simp [h]
    refine evEq (f := fun k => (marigraphlaw1_known.f k).bind fun t147 => (some t147)) (fun k => ?_) (Ev.bind known_ev (Ev.now _))
    rw [e1]
    simp [e2]

end Go.Proofs.Ytjlliaomgpgnpaa.Pure

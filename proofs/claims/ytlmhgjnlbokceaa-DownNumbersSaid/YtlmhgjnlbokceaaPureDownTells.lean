/- DownTells: samples are put into buckets as the document says, for any samples, ends, buckets, folds. -/
import Derived.Test.YtlmhgjnlbokceaaPDownTellsx3
import Derived.Test.YtlmhgjnlbokceaaPDownTellsx4
import Derived.Test.YtlmhgjnlbokceaaPDownTellsx5
import Derived.Test.YtlmhgjnlbokceaaPDownTellsx6
import Derived.Test.YtlmhgjnlbokceaaPDownTellsx7
import Derived.Test.YtlmhgjnlbokceaaPDownTellsx8
import Derived.Test.YtlmhgjnlbokceaaPDownTellsx9
import Derived.Test.YtlmhgjnlbokceaaPDownTellsx10
import Derived.Test.YtlmhgjnlbokceaaPDownTellsx11
import Derived.Test.YtlmhgjnlbokceaaPDownTellsx12
import Derived.Test.YtlmhgjnlbokceaaPDownTellsx13
import Derived.Test.YtlmhgjnlbokceaaPDownTellsx14
import Derived.Test.YtlmhgjnlbokceaaPDownTellsx15
import Derived.Test.YtlmhgjnlbokceaaPDownTellsx16
import Derived.Test.YtlmhgjnlbokceaaPDownTellsx17
namespace Go.Proofs.Ytlmhgjnlbokceaa.Pure
open Go.RowKit Go.Proofs.Ytlmhgjnlbokceaa.PDownTells Go.Proofs.YtlmhgjnlbokceaaW.PrintWords Go.Proofs.YtlmhgjnlbokceaaW.PrintLast
set_option linter.unusedVariables false
set_option linter.unusedSimpArgs false

theorem evEq {α : Type} {f g : Nat → Option α} {r : α} (hf : ∀ k, f k = g k) (h : Ev g r) : Ev f r := by rw [funext hf]; exact h
theorem i64_of {a : Int} (h : (Lit.int .i64 a).wf = true) : -9223372036854775808 ≤ a ∧ a ≤ 9223372036854775807 := by
  have h1 : IntKind.i64.min = -9223372036854775808 := rfl
  have h2 : IntKind.i64.max = 9223372036854775807 := rfl
  simp only [Lit.wf, Bool.and_eq_true, decide_eq_true_eq] at h
  omega
/-! ### rationals: New, Right -/
def Pure_ofQ (q : Rat) : Int × Int × Int := if q.num.natAbs > 2147483647 ∨ q.den > 2147483647 then (0, 0, 23) else (q.num, (q.den : Int), 0)
def newQ (n d : Int) : Int × Int × Int := if d = 0 then (0, 0, 1) else Pure_ofQ (Rat.divInt n d)
def I64 (n : Int) : Prop := -9223372036854775808 ≤ n ∧ n ≤ 9223372036854775807
theorem wrapU {x : Int} (h0 : 0 ≤ x) (h1 : x < 18446744073709551616) : IntKind.u64.wrap x = x := by
  have : IntKind.u64.wrap x = x % 18446744073709551616 := by simp [IntKind.wrap, IntKind.bits, IntKind.signed]
  rw [this]; exact Int.emod_eq_of_lt h0 h1
theorem wrapU_eq (x : Int) : IntKind.u64.wrap x = x % 18446744073709551616 := by simp [IntKind.wrap, IntKind.bits, IntKind.signed]
theorem wrap64_id {x : Int} (h : I64 x) : wrap64 x = x := by unfold I64 at h; unfold wrap64; omega
theorem size_tells {n : Int} (h : I64 n) : rat_size.f n = some (n.natAbs : Int) := by
  unfold I64 at h
  unfold rat_size.f
  by_cases hn : n < 0
  · rw [if_pos hn, wrapU_eq, wrapU_eq]
    congr 1
    omega
  · rw [if_neg hn, wrapU_eq]
    congr 1
    omega
theorem common_tells (b : Nat) : ∀ (a k : Nat), b < k → rat_common.l0 k (a : Int) (b : Int) = some ((Nat.gcd a b : Nat) : Int) := by
  induction b using Nat.strongRecOn with
  | _ b ih =>
    intro a k hk
    obtain ⟨k, rfl⟩ : ∃ m, k = m + 1 := ⟨k - 1, by omega⟩
    simp only [rat_common.l0]
    by_cases hb : b = 0
    · subst hb
      rw [if_neg (by omega), Nat.gcd_zero_right]
    · rw [if_pos (by omega), if_neg (by omega)]
      have e : Int.tmod (a : Int) (b : Int) = ((a % b : Nat) : Int) := by rw [Int.ofNat_tmod]
      have hl : a % b < b := Nat.mod_lt _ (by omega)
      rw [e, ih (a % b) hl b k (by omega), Nat.gcd_comm a b, Nat.gcd_rec b a, Nat.gcd_comm]
theorem new_parts (n d : Int) (hd : d ≠ 0) : (Rat.divInt n d).den = d.natAbs / Nat.gcd n.natAbs d.natAbs ∧ (Rat.divInt n d).num.natAbs = n.natAbs / Nat.gcd n.natAbs d.natAbs ∧
    (if (decide (n < 0)) != (decide (d < 0)) then (Rat.divInt n d).num = -((n.natAbs / Nat.gcd n.natAbs d.natAbs : Nat) : Int) else (Rat.divInt n d).num = ((n.natAbs / Nat.gcd n.natAbs d.natAbs : Nat) : Int)) := by
  have hg : Int.gcd d n = Nat.gcd n.natAbs d.natAbs := by unfold Int.gcd; exact Nat.gcd_comm _ _
  have hpos : 0 < Nat.gcd n.natAbs d.natAbs := Nat.gcd_pos_of_pos_right _ (by omega)
  refine ⟨by rw [Rat.den_divInt, if_neg hd, hg], ?_⟩
  rw [Rat.num_divInt, hg]
  obtain ⟨c, hc⟩ : ∃ c : Int, n = (Nat.gcd n.natAbs d.natAbs : Int) * c := by
    have : ((Nat.gcd n.natAbs d.natAbs : Nat) : Int) ∣ n := Int.natAbs_dvd_natAbs.1 (by rw [Int.natAbs_natCast]; exact Nat.gcd_dvd_left _ _)
    exact this
  generalize Nat.gcd n.natAbs d.natAbs = g at *
  have hA : n.natAbs / g = c.natAbs := by
    rw [hc, Int.natAbs_mul, Int.natAbs_natCast]
    exact Nat.mul_div_cancel_left _ hpos
  have hnc : (n < 0 ↔ c < 0) := by
    have hg0 : (0 : Int) < (g : Int) := by omega
    constructor
    · intro h
      by_cases h' : c < 0
      · exact h'
      · have := Int.mul_nonneg (Int.le_of_lt hg0) (Int.not_lt.1 h'); omega
    · intro h
      have := Int.mul_neg_of_pos_of_neg hg0 h; omega
  rw [hA]
  have hq : d.sign * n / (g : Int) = d.sign * c := by
    rw [hc, ← Int.mul_assoc, Int.mul_comm d.sign, Int.mul_assoc]
    exact Int.mul_ediv_cancel_left _ (by omega)
  rw [hq]
  rcases Int.lt_trichotomy d 0 with h | h | h
  · rw [Int.sign_eq_neg_one_of_neg h]
    have h1 : decide (d < 0) = true := decide_eq_true h
    rw [h1]
    by_cases hn : n < 0
    · have h2 := hnc.1 hn
      rw [decide_eq_true hn]
      simp only [bne_self_eq_false, Bool.false_eq_true, if_false]
      omega
    · have h2 : ¬ c < 0 := fun h => hn (hnc.2 h)
      rw [decide_eq_false hn]
      simp only [Bool.bne_true, Bool.not_false, if_true]
      omega
  · exact absurd h hd
  · rw [Int.sign_eq_one_of_pos h]
    have h1 : decide (d < 0) = false := decide_eq_false (by omega)
    rw [h1]
    by_cases hn : n < 0
    · have h2 := hnc.1 hn
      rw [decide_eq_true hn]
      simp only [Bool.bne_false, if_true]
      omega
    · have h2 : ¬ c < 0 := fun h => hn (hnc.2 h)
      rw [decide_eq_false hn]
      simp only [bne_self_eq_false, Bool.false_eq_true, if_false]
      omega
theorem new_at (n d : Int) (hn : I64 n) (hd : I64 d) (k : Nat) (hk : d.natAbs + 2 < k) : rat_New.f k n d = some (newQ n d) := by
  unfold rat_New.f newQ
  by_cases h0 : d = 0
  · rw [if_pos h0, if_pos h0]
  rw [if_neg h0, if_neg h0, size_tells hn, size_tells hd]
  simp only [Option.bind_some]
  unfold rat_common.f
  rw [common_tells d.natAbs n.natAbs k (by omega)]
  simp only [Option.bind_some]
  obtain ⟨e1, e2, e3⟩ := new_parts n d h0
  have hpos : 0 < Nat.gcd n.natAbs d.natAbs := Nat.gcd_pos_of_pos_right _ (by omega)
  generalize Nat.gcd n.natAbs d.natAbs = g at *
  have t1 : IntKind.u64.wrap (Int.tdiv (n.natAbs : Int) (g : Int)) = ((n.natAbs / g : Nat) : Int) := by
    rw [← Int.ofNat_tdiv]
    have := Nat.div_le_self n.natAbs g
    unfold I64 at hn
    exact wrapU (by omega) (by omega)
  have t2 : IntKind.u64.wrap (Int.tdiv (d.natAbs : Int) (g : Int)) = ((d.natAbs / g : Nat) : Int) := by
    rw [← Int.ofNat_tdiv]
    have := Nat.div_le_self d.natAbs g
    unfold I64 at hd
    exact wrapU (by omega) (by omega)
  rw [t1, t2, if_neg (by omega)]
  unfold Pure_ofQ
  rw [e1, e2]
  generalize n.natAbs / g = A at *
  generalize d.natAbs / g = B at *
  obtain ⟨k, rfl⟩ : ∃ m, k = m + 1 := ⟨k - 1, by omega⟩
  by_cases hA : (A : Int) > 2147483647
  · rw [if_pos hA, if_pos (Or.inl (by omega))]
    simp only [rat_New.j0, if_true]
  · rw [if_neg hA]
    by_cases hB : (B : Int) > 2147483647
    · rw [decide_eq_true hB, if_pos (Or.inr (by omega))]
      simp only [rat_New.j0, if_true]
    · rw [decide_eq_false hB, if_neg (by omega)]
      simp only [rat_New.j0, Bool.false_eq_true, if_false]
      have w1 : wrap64 (A : Int) = (A : Int) := wrap64_id (by unfold I64; omega)
      have w2 : wrap64 (B : Int) = (B : Int) := wrap64_id (by unfold I64; omega)
      have w3 : wrap64 (-(A : Int)) = -(A : Int) := wrap64_id (by unfold I64; omega)
      rw [w1, w2, w3]
      by_cases hs : ((decide (n < 0)) != (decide (d < 0))) = true
      · rw [if_pos hs] at e3 ⊢
        rw [e3]
      · rw [if_neg hs] at e3 ⊢
        rw [e3]
theorem new_tells {n d : Int} (hn : I64 n) (hd : I64 d) : Ev (fun k => rat_New.f k n d) (newQ n d) := ⟨d.natAbs + 3, fun k hk => new_at n d hn hd k (by omega)⟩
/-- A number that is right: in lowest terms, within the bounds. -/
structure Rt (n d : Int) : Prop where
  n1 : -2147483647 ≤ n
  n2 : n ≤ 2147483647
  d1 : 1 ≤ d
  d2 : d ≤ 2147483647
  num : (Rat.divInt n d).num = n
  den : ((Rat.divInt n d).den : Int) = d
def rightQ (n d : Int) : Bool := decide (d > 0) && decide (newQ n d = (n, d, 0))
theorem Rt.right {n d : Int} (h : Rt n d) : rightQ n d = true := by
  unfold rightQ newQ Pure_ofQ
  have h1 := h.n1
  have h2 := h.n2
  have h3 := h.d1
  have h4 := h.d2
  have h5 := h.num
  have h6 := h.den
  rw [if_neg (by omega), if_neg (by omega), h5, h6]
  simp only [decide_true, Bool.and_true, decide_eq_true_eq]
  omega
theorem Rt.of_right {n d : Int} (h : rightQ n d = true) : Rt n d := by
  unfold rightQ newQ Pure_ofQ at h
  rw [Bool.and_eq_true, decide_eq_true_eq, decide_eq_true_eq] at h
  obtain ⟨hd, h⟩ := h
  rw [if_neg (by omega)] at h
  by_cases hb : (Rat.divInt n d).num.natAbs > 2147483647 ∨ (Rat.divInt n d).den > 2147483647
  · rw [if_pos hb] at h
    simp only [Prod.mk.injEq] at h
    omega
  · rw [if_neg hb] at h
    simp only [Prod.mk.injEq, and_true] at h
    obtain ⟨h1, h2⟩ := h
    exact ⟨by omega, by omega, by omega, by omega, h1, h2⟩
theorem right_tells {n d : Int} (hn : I64 n) (hd : I64 d) : Ev (fun k => rat_Right.f k n d) (rightQ n d) := by
  refine Ev.bind (new_tells hn hd) ?_
  unfold rightQ
  by_cases h0 : d > 0
  · simp only [if_pos h0, decide_eq_true h0, Bool.true_and]
    obtain ⟨a, b, c⟩ := newQ n d
    simp only [Prod.mk.injEq]
    by_cases hc : c = 0
    · simp only [if_pos hc]
      refine ⟨0, fun _ _ => ?_⟩
      show some _ = some _
      congr 1
      rw [Bool.eq_iff_iff]
      simp [hc]
    · simp only [if_neg hc]
      refine ⟨0, fun _ _ => ?_⟩
      show some _ = some _
      congr 1
      simp [hc]
  · simp only [if_neg h0, decide_eq_false h0, Bool.false_and]
    exact Ev.now _
theorem Rt.i64n {n d : Int} (h : Rt n d) : I64 n := ⟨by have := h.n1; omega, by have := h.n2; omega⟩
theorem Rt.i64d {n d : Int} (h : Rt n d) : I64 d := ⟨by have := h.d1; omega, by have := h.d2; omega⟩
theorem Rt.ofQ {q : Rat} {n d : Int} (h : Pure_ofQ q = (n, d, 0)) : Rt n d ∧ Rat.divInt n d = q := by
  unfold Pure_ofQ at h
  by_cases hb : q.num.natAbs > 2147483647 ∨ q.den > 2147483647
  · rw [if_pos hb] at h; simp at h
  · rw [if_neg hb] at h
    simp only [Prod.mk.injEq, and_true] at h
    obtain ⟨rfl, rfl⟩ := h
    have e := Rat.num_divInt_den q
    have hd := q.den_pos
    exact ⟨⟨by omega, by omega, by omega, by omega, by rw [e], by rw [e]⟩, e⟩
theorem Rt.same {a b c d : Int} (h : Rt a b) (k : Rt c d) (e : Rat.divInt a b = Rat.divInt c d) : a = c ∧ b = d := by
  have h1 := h.num; have h2 := h.den; have k1 := k.num; have k2 := k.den
  rw [e] at h1 h2
  omega
theorem mulM {x y : Int} (hx : -2147483647 ≤ x ∧ x ≤ 2147483647) (hy : -2147483647 ≤ y ∧ y ≤ 2147483647) : -4611686014132420609 ≤ x * y ∧ x * y ≤ 4611686014132420609 := by
  have h := Nat.mul_le_mul (show x.natAbs ≤ 2147483647 by omega) (show y.natAbs ≤ 2147483647 by omega)
  rw [← Int.natAbs_mul] at h
  omega
/-! ### marigraphkeep.Rat: a right number, small -/
theorem within_ev {n lo hi : Int} (h1 : 0 ≤ lo + 1000) (h2 : lo ≤ hi) (h3 : hi < 2000000) (h4 : -1000 ≤ lo) (hn : I64 n) : ∃ r, Ev (fun k => marigraphbook_Within.f k n lo hi) r ∧ lo ≤ r ∧ r ≤ hi ∧ (lo ≤ n → n ≤ hi → r = n) := by
  unfold I64 at hn
  have e1 : wrap64 (wrap64 (hi - lo) + 1) = hi - lo + 1 := by unfold wrap64; omega
  have hj : ∀ b : Bool, (b = true ↔ (lo ≤ n ∧ n ≤ hi)) → ∃ r, (∀ k, marigraphbook_Within.j0 (k + 1) n lo hi b = some r) ∧ lo ≤ r ∧ r ≤ hi ∧ (lo ≤ n → n ≤ hi → r = n) := by
    intro b hb
    simp only [marigraphbook_Within.j0, e1]
    cases b with
    | true =>
      have := hb.1 rfl
      exact ⟨n, fun _ => by rw [if_pos rfl], this.1, this.2, fun _ _ => rfl⟩
    | false =>
      have hno : ¬ (lo ≤ n ∧ n ≤ hi) := fun h => by have := hb.2 h; cases this
      simp only [Bool.false_eq_true, if_false]
      rw [if_neg (by omega)]
      have hm : (0 : Int) < hi - lo + 1 := by omega
      have t1 : Int.tmod n (hi - lo + 1) < hi - lo + 1 := Int.tmod_lt_of_pos _ hm
      have t2 : -(hi - lo + 1) < Int.tmod n (hi - lo + 1) := by
        have := Int.tmod_lt_of_pos (-n) hm
        rw [Int.neg_tmod] at this
        omega
      generalize Int.tmod n (hi - lo + 1) = t at *
      by_cases ht : t < 0
      · rw [if_pos ht]
        have e : wrap64 (lo + wrap64 (wrap64 (wrap64 (t + hi) - lo) + 1)) = t + hi + 1 := by unfold wrap64; omega
        rw [e]
        exact ⟨_, fun _ => rfl, by omega, by omega, fun a b => absurd ⟨a, b⟩ hno⟩
      · rw [if_neg ht]
        have e : wrap64 (lo + t) = lo + t := by unfold wrap64; omega
        rw [e]
        exact ⟨_, fun _ => rfl, by omega, by omega, fun a b => absurd ⟨a, b⟩ hno⟩
  have fin : ∀ b : Bool, (∀ k, marigraphbook_Within.f k n lo hi = marigraphbook_Within.j0 k n lo hi b) → (b = true ↔ (lo ≤ n ∧ n ≤ hi)) → ∃ r, Ev (fun k => marigraphbook_Within.f k n lo hi) r ∧ lo ≤ r ∧ r ≤ hi ∧ (lo ≤ n → n ≤ hi → r = n) := by
    intro b hf hb
    obtain ⟨r, h, hr⟩ := hj b hb
    refine ⟨r, ⟨1, fun k hk => ?_⟩, hr⟩
    obtain ⟨k, rfl⟩ : ∃ m, k = m + 1 := ⟨k - 1, by omega⟩
    show marigraphbook_Within.f (k + 1) n lo hi = some r
    rw [hf]
    exact h k
  by_cases hlo : n ≥ lo
  · refine fin (decide (n ≤ hi)) (fun k => by unfold marigraphbook_Within.f; rw [if_pos hlo]) ?_
    rw [decide_eq_true_iff]
    exact ⟨fun h => ⟨hlo, h⟩, fun h => h.2⟩
  · refine fin false (fun k => by unfold marigraphbook_Within.f; rw [if_neg hlo]) ?_
    constructor
    · intro h; cases h
    · intro h; omega
def NoDiv (a b j : Int) : Prop := ∀ i : Int, 2 ≤ i → i < j → ¬ (i ∣ a ∧ i ∣ b)
theorem keep_loops (K : Nat) : (∀ (a b j : Int), 1 ≤ b → b ≤ 12 → -60 ≤ a → a ≤ 60 → 2 ≤ j → j ≤ 13 → 3 * b + 2 * (14 - j) + 1 ≤ K → NoDiv a b j → ∃ N D, marigraphkeep_Rat.l0 K a b j = some (N, D) ∧ 1 ≤ D ∧ D ≤ 12 ∧ -60 ≤ N ∧ N ≤ 60 ∧ NoDiv N D (D + 1)) ∧
    (∀ (a b j : Int), 1 ≤ b → b ≤ 12 → -60 ≤ a → a ≤ 60 → 2 ≤ j → j ≤ b → 3 * b + 2 * (14 - j) ≤ K → NoDiv a b j → ∃ N D, marigraphkeep_Rat.l1 K a b j = some (N, D) ∧ 1 ≤ D ∧ D ≤ 12 ∧ -60 ≤ N ∧ N ≤ 60 ∧ NoDiv N D (D + 1)) := by
  induction K with
  | zero => exact ⟨fun a b j h1 h2 h3 h4 h5 h6 hK => by omega, fun a b j h1 h2 h3 h4 h5 h6 hK => by omega⟩
  | succ K ih =>
    refine ⟨fun a b j h1 h2 h3 h4 h5 h6 hK hno => ?_, fun a b j h1 h2 h3 h4 h5 h6 hK hno => ?_⟩
    · simp only [marigraphkeep_Rat.l0]
      by_cases hj : j ≤ b
      · rw [if_pos hj]
        exact ih.2 a b j h1 h2 h3 h4 h5 hj (by omega) hno
      · rw [if_neg hj]
        exact ⟨a, b, rfl, h1, h2, h3, h4, fun i hi1 hi2 => hno i hi1 (by omega)⟩
    · simp only [marigraphkeep_Rat.l1]
      rw [if_neg (by omega)]
      have wj : wrap64 (j + 1) = j + 1 := wrap64_id ⟨by omega, by omega⟩
      have next : (¬ (j ∣ a ∧ j ∣ b)) → ∃ N D, marigraphkeep_Rat.l0 K a b (wrap64 (j + 1)) = some (N, D) ∧ 1 ≤ D ∧ D ≤ 12 ∧ -60 ≤ N ∧ N ≤ 60 ∧ NoDiv N D (D + 1) := by
        intro hnd
        rw [wj]
        refine ih.1 a b (j + 1) h1 h2 h3 h4 (by omega) (by omega) (by omega) (fun i hi1 hi2 hd => ?_)
        by_cases hij : i < j
        · exact hno i hi1 hij hd
        · obtain rfl : i = j := by omega
          exact hnd hd
      by_cases ha : Int.tmod a j = 0
      · rw [if_pos ha]
        have da : j ∣ a := Int.dvd_of_tmod_eq_zero ha
        by_cases hb : Int.tmod b j = 0
        · rw [if_pos hb]
          have db : j ∣ b := Int.dvd_of_tmod_eq_zero hb
          obtain ⟨x, rfl⟩ := da
          obtain ⟨y, rfl⟩ := db
          have ex : Int.tdiv (j * x) j = x := Int.mul_tdiv_cancel_left _ (by omega)
          have ey : Int.tdiv (j * y) j = y := Int.mul_tdiv_cancel_left _ (by omega)
          have y1 : 1 ≤ y := by
            by_cases hy : y ≤ 0
            · have := Int.mul_nonneg_of_nonpos_of_nonpos (show -j ≤ 0 by omega) hy
              rw [Int.neg_mul] at this
              omega
            · omega
          have y2 : 2 * y ≤ j * y := Int.mul_le_mul_of_nonneg_right h5 (by omega)
          have x1 : x.natAbs ≤ (j * x).natAbs := by
            rw [Int.natAbs_mul]
            exact Nat.le_mul_of_pos_left _ (by omega)
          rw [ex, ey, wrap64_id (show I64 x from ⟨by omega, by omega⟩), wrap64_id (show I64 y from ⟨by omega, by omega⟩)]
          have hno' : NoDiv x y j := fun i hi1 hi2 hd => hno i hi1 hi2 ⟨Int.dvd_trans hd.1 (Int.dvd_mul_left _ _), Int.dvd_trans hd.2 (Int.dvd_mul_left _ _)⟩
          by_cases hjy : j ≤ y
          · exact ih.2 x y j (by omega) (by omega) (by omega) (by omega) h5 hjy (by omega) hno'
          · obtain ⟨K', rfl⟩ : ∃ m, K = m + 1 := ⟨K - 1, by omega⟩
            simp only [marigraphkeep_Rat.l1]
            rw [if_neg (by omega)]
            have wj' : wrap64 (j + 1) = j + 1 := wj
            have stop : ∀ k' : Nat, 0 < k' → ∀ j' : Int, j ≤ j' → ∃ N D, marigraphkeep_Rat.l0 k' x y j' = some (N, D) ∧ 1 ≤ D ∧ D ≤ 12 ∧ -60 ≤ N ∧ N ≤ 60 ∧ NoDiv N D (D + 1) := by
              intro k' hk' j' hj'
              obtain ⟨k', rfl⟩ : ∃ m, k' = m + 1 := ⟨k' - 1, by omega⟩
              simp only [marigraphkeep_Rat.l0]
              rw [if_neg (by omega)]
              exact ⟨x, y, rfl, by omega, by omega, by omega, by omega, fun i hi1 hi2 => hno' i hi1 (by omega)⟩
            have hty : ¬ Int.tmod y j = 0 := by
              rw [Int.tmod_eq_of_lt (by omega) (by omega)]
              omega
            rw [wj', if_neg hty]
            by_cases hx : Int.tmod x j = 0
            · rw [if_pos hx]; exact stop K' (by omega) _ (by omega)
            · rw [if_neg hx]; exact stop K' (by omega) _ (by omega)
        · rw [if_neg hb]
          exact next (fun h => hb (Int.tmod_eq_zero_of_dvd h.2))
      · rw [if_neg ha]
        exact next (fun h => ha (Int.tmod_eq_zero_of_dvd h.1))
theorem rt_of_nodiv {N D : Int} (h1 : 1 ≤ D) (h2 : D ≤ 12) (h3 : -60 ≤ N) (h4 : N ≤ 60) (hno : NoDiv N D (D + 1)) : Rt N D := by
  have hg : Nat.gcd N.natAbs D.natAbs = 1 := by
    have hpos : 0 < Nat.gcd N.natAbs D.natAbs := Nat.gcd_pos_of_pos_right _ (by omega)
    have hle : Nat.gcd N.natAbs D.natAbs ≤ D.natAbs := Nat.le_of_dvd (by omega) (Nat.gcd_dvd_right _ _)
    by_cases h : Nat.gcd N.natAbs D.natAbs = 1
    · exact h
    · refine absurd ⟨?_, ?_⟩ (hno (Nat.gcd N.natAbs D.natAbs : Nat) (by omega) (by omega))
      · exact Int.natAbs_dvd_natAbs.1 (by rw [Int.natAbs_natCast]; exact Nat.gcd_dvd_left _ _)
      · exact Int.natAbs_dvd_natAbs.1 (by rw [Int.natAbs_natCast]; exact Nat.gcd_dvd_right _ _)
  obtain ⟨e1, _, e3⟩ := new_parts N D (by omega)
  rw [hg, Nat.div_one] at e1 e3
  rw [decide_eq_false (show ¬ D < 0 by omega)] at e3
  refine ⟨by omega, by omega, by omega, by omega, ?_, by omega⟩
  by_cases hn : N < 0
  · rw [decide_eq_true hn] at e3
    simp only [Bool.bne_false, if_true] at e3
    omega
  · rw [decide_eq_false hn] at e3
    simp only [bne_self_eq_false, Bool.false_eq_true, if_false] at e3
    omega
theorem keep_tells {x y : Int} (hx : I64 x) (hy : I64 y) : ∃ N D, Ev (fun k => marigraphkeep_Rat.f k x y) (N, D) ∧ Rt N D ∧ -60 ≤ N ∧ N ≤ 60 ∧ 1 ≤ D ∧ D ≤ 12 := by
  obtain ⟨a, ha, a1, a2, _⟩ := within_ev (lo := -60) (hi := 60) (by omega) (by omega) (by omega) (by omega) hx
  obtain ⟨b, hb, b1, b2, _⟩ := within_ev (lo := 1) (hi := 12) (by omega) (by omega) (by omega) (by omega) hy
  have hl : ∀ K : Nat, 100 ≤ K → ∃ N D, marigraphkeep_Rat.l0 K a b 2 = some (N, D) ∧ 1 ≤ D ∧ D ≤ 12 ∧ -60 ≤ N ∧ N ≤ 60 ∧ NoDiv N D (D + 1) :=
    fun K hK => (keep_loops K).1 a b 2 b1 b2 a1 a2 (by omega) (by omega) (by omega) (fun i h1 h2 => by omega)
  obtain ⟨N, D, h0, d1, d2, n1, n2, hno⟩ := hl 100 (by omega)
  refine ⟨N, D, ?_, rt_of_nodiv d1 d2 n1 n2 hno, n1, n2, d1, d2⟩
  refine Ev.bind ha (Ev.bind hb ?_)
  exact Ev.of (fun k => marigraphkeep_Rat.mono_l k |>.1 _ _ _) h0
/-! ### Cmp, Add, Sub, Mul, Div of right numbers -/
def VQ (n d : Int) : Rat := Rat.divInt n d
theorem ratlt {n d m e : Int} (h : Rt n d) (k : Rt m e) : n * e < m * d ↔ VQ n d < VQ m e := by
  rw [Rat.lt_iff]
  unfold VQ
  rw [h.num, h.den, k.num, k.den]
theorem rateq {n d m e : Int} (h : Rt n d) (k : Rt m e) : (n = m ∧ d = e) ↔ VQ n d = VQ m e := ⟨fun he => by rw [he.1, he.2], fun he => h.same k he⟩
def cmpQ (a b : Rat) : Int := if a < b then -1 else if a = b then 0 else 1
theorem prodw {x y : Int} (hx : -2147483647 ≤ x ∧ x ≤ 2147483647) (hy : -2147483647 ≤ y ∧ y ≤ 2147483647) : wrap64 (x * y) = x * y := by
  have := mulM hx hy
  exact wrap64_id ⟨by omega, by omega⟩
theorem exactQ {f : Nat → Option (Int × Int × Int)} {n d : Int} {q : Rat} (hn : I64 n) (hd : I64 d) (h0 : d ≠ 0) (hq : Rat.divInt n d = q) (hf : ∀ k, f (k + 1) = (rat_New.f k n d).bind fun t => some (t.1, t.2.1, t.2.2)) : Ev f (Pure_ofQ q) := by
  refine Ev.step hf ?_
  have h := new_tells hn hd
  have e : newQ n d = Pure_ofQ q := by unfold newQ; rw [if_neg h0, hq]
  rw [e] at h
  exact Ev.bind h (Ev.now _)
theorem cmp_tells {n d m e : Int} (h : Rt n d) (k : Rt m e) : Ev (fun K => rat_Cmp.f K n d m e) (cmpQ (VQ n d) (VQ m e)) := by
  have r1 := right_tells h.i64n h.i64d
  have r2 := right_tells k.i64n k.i64d
  rw [h.right] at r1
  rw [k.right] at r2
  refine Ev.bind r1 (Ev.bind r2 ?_)
  simp only [if_true, Bool.not_true]
  refine ⟨1, fun K hK => ?_⟩
  obtain ⟨K, rfl⟩ : ∃ m, K = m + 1 := ⟨K - 1, by omega⟩
  simp only [rat_Cmp.j0, Bool.false_eq_true, if_false, if_true]
  have h1 := h.n1; have h2 := h.n2; have h3 := h.d1; have h4 := h.d2
  have k1 := k.n1; have k2 := k.n2; have k3 := k.d1; have k4 := k.d2
  rw [prodw (x := n) (y := e) ⟨by omega, by omega⟩ ⟨by omega, by omega⟩, prodw (x := m) (y := d) ⟨by omega, by omega⟩ ⟨by omega, by omega⟩]
  unfold cmpQ
  by_cases hlt : n * e < m * d
  · rw [if_pos hlt, if_pos ((ratlt h k).1 hlt)]
  · rw [if_neg hlt, if_neg (fun hh => hlt ((ratlt h k).2 hh))]
    by_cases he : VQ n d = VQ m e
    · obtain ⟨e1, e2⟩ := (rateq h k).2 he
      rw [if_pos (by rw [e1, e2]; simp), if_pos he]
    · rw [if_neg (fun hh => he ((rateq h k).1 (by simpa using hh))), if_neg he]
theorem Add_tells {n d m e : Int} (h : Rt n d) (k : Rt m e) : Ev (fun K => rat_Add.f K n d m e) (Pure_ofQ (VQ n d + VQ m e)) := by
  have r1 := right_tells h.i64n h.i64d
  have r2 := right_tells k.i64n k.i64d
  rw [h.right] at r1
  rw [k.right] at r2
  have h1 := h.n1; have h2 := h.n2; have h3 := h.d1; have h4 := h.d2
  have k1 := k.n1; have k2 := k.n2; have k3 := k.d1; have k4 := k.d2
  have hd0 : d ≠ 0 := by omega
  have he0 : e ≠ 0 := by omega
  have p1 := mulM (x := n) (y := e) ⟨by omega, by omega⟩ ⟨by omega, by omega⟩
  have p2 := mulM (x := m) (y := d) ⟨by omega, by omega⟩ ⟨by omega, by omega⟩
  have p3 := mulM (x := d) (y := e) ⟨by omega, by omega⟩ ⟨by omega, by omega⟩
  have p4 := mulM (x := n) (y := m) ⟨by omega, by omega⟩ ⟨by omega, by omega⟩
  have hde : d * e ≠ 0 := Int.mul_ne_zero hd0 he0
  refine Ev.bind (g := fun K => rat_exact_of_rat_Add_1_rat_both.f K n d m e) (a := Pure_ofQ (VQ n d + VQ m e)) (f := fun _ b => some (b.1, b.2.1, b.2.2)) (Ev.bind r1 ?_) (Ev.now _)
  simp only [if_true]
  refine Ev.bind r2 ?_
  refine exactQ (n := n * e + m * d) (d := d * e) ⟨by omega, by omega⟩ ⟨by omega, by omega⟩ hde ?_ (fun K => ?_)
  · exact (Rat.divInt_add_divInt _ _ hd0 he0).symm
  · simp only [rat_exact_of_rat_Add_1_rat_both.j0, rat_Add_1.f, rat_both.f, Bool.not_true, Bool.false_eq_true, if_false, Option.bind_some]
    rw [wrap64_id (x := d * e) ⟨by omega, by omega⟩]
    rw [wrap64_id (x := n * e) ⟨by omega, by omega⟩, wrap64_id (x := m * d) ⟨by omega, by omega⟩, wrap64_id (x := n * e + m * d) ⟨by omega, by omega⟩]
theorem Div_tells {n d m e : Int} (h : Rt n d) (k : Rt m e) : Ev (fun K => rat_Div.f K n d m e) (newQ (n * e) (d * m)) := by
  have r1 := right_tells h.i64n h.i64d
  have r2 := right_tells k.i64n k.i64d
  rw [h.right] at r1
  rw [k.right] at r2
  have h1 := h.n1; have h2 := h.n2; have h3 := h.d1; have h4 := h.d2
  have k1 := k.n1; have k2 := k.n2; have k3 := k.d1; have k4 := k.d2
  have p1 := mulM (x := n) (y := e) ⟨by omega, by omega⟩ ⟨by omega, by omega⟩
  have p2 := mulM (x := d) (y := m) ⟨by omega, by omega⟩ ⟨by omega, by omega⟩
  refine Ev.bind (g := fun K => rat_exact_of_rat_Div_1_rat_Div_2.f K n d m e) (a := newQ (n * e) (d * m)) (f := fun _ b => some (b.1, b.2.1, b.2.2)) (Ev.bind r1 ?_) (Ev.now _)
  simp only [if_true]
  refine Ev.bind r2 ?_
  refine Ev.step (f := fun K => (rat_New.f K (n * e) (d * m)).bind fun t => some (t.1, t.2.1, t.2.2)) (fun K => ?_) (Ev.bind (new_tells ⟨by omega, by omega⟩ ⟨by omega, by omega⟩) (Ev.now _))
  simp only [rat_exact_of_rat_Div_1_rat_Div_2.j0, rat_Div_1.f, rat_Div_2.f, Bool.not_true, Bool.false_eq_true, if_false, Option.bind_some]
  rw [wrap64_id (x := n * e) ⟨by omega, by omega⟩, wrap64_id (x := d * m) ⟨by omega, by omega⟩]
theorem rt_one {n : Int} (h1 : -2147483647 ≤ n) (h2 : n ≤ 2147483647) : Rt n 1 := by
  obtain ⟨e1, e2, e3⟩ := new_parts n 1 (by decide)
  simp only [Int.natAbs_one, Nat.gcd_one_right, Nat.div_one] at e1 e2 e3
  refine ⟨h1, h2, by decide, by decide, ?_, by rw [e1]; rfl⟩
  by_cases hn : n < 0
  · simp [hn] at e3; omega
  · simp [hn] at e3; omega
theorem of_tells {n : Int} (h1 : -2147483647 ≤ n) (h2 : n ≤ 2147483647) : Ev (fun k => rat_Of.f k n) (n, 1, 0) := by
  have h := new_tells (n := n) (d := 1) ⟨by omega, by omega⟩ ⟨by decide, by decide⟩
  have r := rt_one h1 h2
  have e : newQ n 1 = (n, 1, 0) := by
    unfold newQ Pure_ofQ
    have := r.num; have := r.den
    rw [if_neg (by decide), if_neg (by omega), r.num, r.den]
  rw [e] at h
  exact Ev.bind h (Ev.now _)
/-! ### the document's rationals: New, Right, Op, Cmp tell the same -/
theorem rparts {n : Int} (h : I64 n) : marigraphref1_parts.f n = some (decide (n < 0), (n.natAbs : Int)) := by
  unfold I64 at h
  unfold marigraphref1_parts.f
  by_cases hn : n < 0
  · rw [if_pos hn, decide_eq_true hn, wrapU_eq, wrapU_eq]
    congr 2
    omega
  · rw [if_neg hn, decide_eq_false hn, wrapU_eq]
    congr 2
    omega
def finQ (s t : Bool) (A B : Nat) : Int × Int × Int := if A > 2147483647 ∨ B > 2147483647 then (0, 0, 23) else if (s != t) = true then (-(A : Int), (B : Int), 0) else ((A : Int), (B : Int), 0)
theorem rnew_j1 (s t : Bool) (A B k : Nat) (hA : ¬ A > 2147483647) : marigraphref1_New.j1 (k + 1) s (A : Int) t (B : Int) (decide ((B : Int) > 2147483647)) = some (finQ s t A B) := by
  unfold finQ
  by_cases hB : (B : Int) > 2147483647
  · rw [decide_eq_true hB, if_pos (Or.inr (by omega))]
    simp only [marigraphref1_New.j1, if_true]
  · rw [decide_eq_false hB, if_neg (by omega)]
    simp only [marigraphref1_New.j1, Bool.false_eq_true, if_false]
    have w1 : wrap64 (A : Int) = (A : Int) := wrap64_id (by unfold I64; omega)
    have w2 : wrap64 (B : Int) = (B : Int) := wrap64_id (by unfold I64; omega)
    have w3 : wrap64 (-(A : Int)) = -(A : Int) := wrap64_id (by unfold I64; omega)
    rw [w1, w2, w3]
    by_cases hs : (s != t) = true
    · rw [if_pos hs, if_pos hs]
    · rw [if_neg hs, if_neg hs]
theorem rnew_loop (X Y : Nat) (s t : Bool) (hX : X < 18446744073709551616) (hY : Y < 18446744073709551616) (b : Nat) : ∀ (a k : Nat), 0 < Nat.gcd a b → b + 1 < k →
    marigraphref1_New.l0 k s (X : Int) t (Y : Int) (a : Int) (b : Int) = some (finQ s t (X / Nat.gcd a b) (Y / Nat.gcd a b)) := by
  induction b using Nat.strongRecOn with
  | _ b ih =>
    intro a k hg hk
    obtain ⟨k, rfl⟩ : ∃ m, k = m + 1 := ⟨k - 1, by omega⟩
    simp only [marigraphref1_New.l0]
    by_cases hb : b = 0
    · subst hb
      rw [Nat.gcd_zero_right] at hg ⊢
      rw [if_pos (by omega), if_neg (by omega)]
      have t1 : IntKind.u64.wrap (Int.tdiv (X : Int) (a : Int)) = ((X / a : Nat) : Int) := by
        rw [← Int.ofNat_tdiv]
        have h9 := Nat.div_le_self X a
        generalize X / a = Z at h9
        exact wrapU (by omega) (by omega)
      have t2 : IntKind.u64.wrap (Int.tdiv (Y : Int) (a : Int)) = ((Y / a : Nat) : Int) := by
        rw [← Int.ofNat_tdiv]
        have h9 := Nat.div_le_self Y a
        generalize Y / a = Z at h9
        exact wrapU (by omega) (by omega)
      rw [t1, t2]
      generalize X / a = A
      generalize Y / a = B
      obtain ⟨k, rfl⟩ : ∃ m, k = m + 1 := ⟨k - 1, by omega⟩
      by_cases hA : A > 2147483647
      · rw [if_pos (by omega)]
        unfold finQ
        rw [if_pos (Or.inl hA)]
        simp only [marigraphref1_New.j1, if_true]
      · rw [if_neg (by omega)]
        exact rnew_j1 s t A B k hA
    · rw [if_neg (by omega)]
      have e : Int.tmod (a : Int) (b : Int) = ((a % b : Nat) : Int) := by rw [Int.ofNat_tmod]
      have hl : a % b < b := Nat.mod_lt _ (by omega)
      have hgg : Nat.gcd b (a % b) = Nat.gcd a b := by rw [Nat.gcd_comm a b, Nat.gcd_rec b a, Nat.gcd_comm]
      rw [e, ih (a % b) hl b k (by rw [hgg]; exact hg) (by omega), hgg]
theorem fin_newQ {n d : Int} (h0 : d ≠ 0) : finQ (decide (n < 0)) (decide (d < 0)) (n.natAbs / Nat.gcd n.natAbs d.natAbs) (d.natAbs / Nat.gcd n.natAbs d.natAbs) = newQ n d := by
  obtain ⟨e1, e2, e3⟩ := new_parts n d h0
  unfold finQ newQ Pure_ofQ
  rw [if_neg h0, e1, e2]
  generalize n.natAbs / Nat.gcd n.natAbs d.natAbs = A at *
  generalize d.natAbs / Nat.gcd n.natAbs d.natAbs = B at *
  by_cases hc : A > 2147483647 ∨ B > 2147483647
  · rw [if_pos hc, if_pos hc]
  · rw [if_neg hc, if_neg hc]
    by_cases hs : ((decide (n < 0)) != (decide (d < 0))) = true
    · rw [if_pos hs] at e3 ⊢
      rw [e3]
    · rw [if_neg hs] at e3 ⊢
      rw [e3]
theorem rnew_tells {n d : Int} (hn : I64 n) (hd : I64 d) : Ev (fun k => marigraphref1_New.f k n d) (newQ n d) := by
  refine ⟨d.natAbs + 3, fun k hk => ?_⟩
  show marigraphref1_New.f k n d = _
  unfold marigraphref1_New.f
  by_cases h0 : d = 0
  · rw [if_pos h0]; unfold newQ; rw [if_pos h0]
  rw [if_neg h0, rparts hn, rparts hd]
  simp only [Option.bind_some]
  have hpos : 0 < Nat.gcd n.natAbs d.natAbs := Nat.gcd_pos_of_pos_right _ (by omega)
  have := hn; have := hd
  unfold I64 at *
  rw [rnew_loop n.natAbs d.natAbs _ _ (by omega) (by omega) d.natAbs n.natAbs k hpos (by omega), fin_newQ h0]
theorem rgcd_tells (b : Nat) : ∀ (a k : Nat), b < k → marigraphref1_gcd.l0 k (a : Int) (b : Int) = some ((Nat.gcd a b : Nat) : Int) := by
  induction b using Nat.strongRecOn with
  | _ b ih =>
    intro a k hk
    obtain ⟨k, rfl⟩ : ∃ m, k = m + 1 := ⟨k - 1, by omega⟩
    simp only [marigraphref1_gcd.l0]
    by_cases hb : b = 0
    · subst hb
      rw [if_pos (by omega), Nat.gcd_zero_right]
    · rw [if_neg (by omega)]
      have e : Int.tmod (a : Int) (b : Int) = ((a % b : Nat) : Int) := by rw [Int.ofNat_tmod]
      have hl : a % b < b := Nat.mod_lt _ (by omega)
      rw [e, ih (a % b) hl b k (by omega), Nat.gcd_comm a b, Nat.gcd_rec b a, Nat.gcd_comm]
theorem rightQ_gcd {n d : Int} (h1 : 1 ≤ d) (h2 : d ≤ 2147483647) (h3 : -2147483647 ≤ n) (h4 : n ≤ 2147483647) : rightQ n d = (((Nat.gcd n.natAbs d.natAbs : Nat) : Int) == 1) := by
  have h0 : d ≠ 0 := by omega
  obtain ⟨e1, e2, e3⟩ := new_parts n d h0
  have hpos : 0 < Nat.gcd n.natAbs d.natAbs := Nat.gcd_pos_of_pos_right _ (by omega)
  have hdv : Nat.gcd n.natAbs d.natAbs ∣ d.natAbs := Nat.gcd_dvd_right _ _
  rw [Bool.eq_iff_iff, beq_iff_eq]
  constructor
  · intro h
    have hr := Rt.of_right h
    have hden := hr.den
    rw [e1] at hden
    generalize Nat.gcd n.natAbs d.natAbs = g at *
    obtain ⟨c, hc⟩ := hdv
    rw [hc, Nat.mul_div_cancel_left _ hpos] at hden
    have hcd : c = d.natAbs := by omega
    rw [hcd] at hc
    have : g = 1 := Nat.eq_of_mul_eq_mul_right (show 0 < d.natAbs by omega) (by rw [Nat.one_mul]; exact hc.symm)
    omega
  · intro h
    have hg : Nat.gcd n.natAbs d.natAbs = 1 := by omega
    rw [hg, Nat.div_one] at e1 e3
    refine Rt.right ⟨h3, h4, h1, h2, ?_, by omega⟩
    by_cases hn : n < 0
    · rw [decide_eq_true hn, decide_eq_false (show ¬ d < 0 by omega)] at e3
      simp only [Bool.bne_false, if_true] at e3
      omega
    · rw [decide_eq_false hn, decide_eq_false (show ¬ d < 0 by omega)] at e3
      simp only [bne_self_eq_false, Bool.false_eq_true, if_false] at e3
      omega
theorem rright_tells {n d : Int} (hn : I64 n) (hd : I64 d) : Ev (fun k => marigraphref1_Right.f k n d) (rightQ n d) := by
  have jt : ∀ x y, Ev (fun k => marigraphref1_Right.j0 k true x y) false := fun x y => ⟨1, fun k hk => by
    obtain ⟨k, rfl⟩ : ∃ m, k = m + 1 := ⟨k - 1, by omega⟩
    simp only [marigraphref1_Right.j0, if_true]⟩
  have no : (¬ (1 ≤ d ∧ d ≤ 2147483647 ∧ -2147483647 ≤ n ∧ n ≤ 2147483647)) → rightQ n d = false := by
    intro h
    cases hr : rightQ n d with
    | false => rfl
    | true =>
      have := Rt.of_right hr
      exact absurd ⟨this.d1, this.d2, this.n1, this.n2⟩ h
  have un : ∀ k, marigraphref1_Right.f k n d = if d < 1 then (marigraphref1_Right.j0 k true n d) else (if d > 2147483647 then (marigraphref1_Right.j0 k true n d) else (if n < (-2147483647) then (marigraphref1_Right.j0 k true n d) else (marigraphref1_Right.j0 k (decide (n > 2147483647)) n d))) := fun k => rfl
  refine evEq un ?_
  by_cases h1 : d < 1
  · simp only [if_pos h1]
    rw [no (by omega)]
    exact jt _ _
  simp only [if_neg h1]
  by_cases h2 : d > 2147483647
  · simp only [if_pos h2]
    rw [no (by omega)]
    exact jt _ _
  simp only [if_neg h2]
  by_cases h3 : n < -2147483647
  · simp only [if_pos h3]
    rw [no (by omega)]
    exact jt _ _
  simp only [if_neg h3]
  by_cases h4 : n > 2147483647
  · rw [decide_eq_true h4, no (by omega)]
    exact jt _ _
  rw [decide_eq_false h4, rightQ_gcd (by omega) (by omega) (by omega) (by omega)]
  refine ⟨d.natAbs + 2, fun k hk => ?_⟩
  obtain ⟨k, rfl⟩ : ∃ m, k = m + 1 := ⟨k - 1, by omega⟩
  simp only [marigraphref1_Right.j0, Bool.false_eq_true, if_false]
  have ha : marigraphref1_abs.f n = some (n.natAbs : Int) := by
    unfold marigraphref1_abs.f
    by_cases hn0 : n < 0
    · rw [if_pos hn0, wrap64_id ⟨by omega, by omega⟩]
      congr 1
      omega
    · rw [if_neg hn0]
      congr 1
      omega
  rw [ha]
  simp only [Option.bind_some]
  unfold marigraphref1_gcd.f
  have := rgcd_tells d.natAbs n.natAbs k (by omega)
  rw [show ((d.natAbs : Nat) : Int) = d by omega] at this
  rw [this]
  simp only [Option.bind_some]
/-- What an operation tells of right numbers. -/
theorem rnew_end {f : Nat → Option (Int × Int × Int)} {n d : Int} {q : Int × Int × Int} (hn : I64 n) (hd : I64 d) (hq : newQ n d = q) (hf : ∀ k, f (k + 1) = (marigraphref1_New.f k n d).bind fun t => some (t.1, t.2.1, t.2.2)) : Ev f q := by
  refine Ev.step hf ?_
  have h := rnew_tells hn hd
  rw [hq] at h
  exact Ev.bind h (Ev.now _)
theorem rop_start {c n d m e : Int} {q : Int × Int × Int} (h : Rt n d) (k : Rt m e) (hj : Ev (fun K => marigraphref1_Op.j0 K c (if c = 47 then (m == 0) else false) n d m e) q) : Ev (fun K => marigraphref1_Op.f K c n d m e) q := by
  have r1 := rright_tells h.i64n h.i64d
  have r2 := rright_tells k.i64n k.i64d
  rw [h.right] at r1
  rw [k.right] at r2
  refine Ev.bind r1 ?_
  simp only [if_true]
  refine Ev.bind r2 ?_
  simp only [if_true]
  by_cases hc : c = 47
  · simp only [if_pos hc] at hj ⊢
    exact hj
  · simp only [if_neg hc] at hj ⊢
    exact hj
theorem rAdd_tells {n d m e : Int} (h : Rt n d) (k : Rt m e) : Ev (fun K => marigraphref1_Op.f K 43 n d m e) (Pure_ofQ (VQ n d + VQ m e)) := by
  have h1 := h.n1; have h2 := h.n2; have h3 := h.d1; have h4 := h.d2
  have k1 := k.n1; have k2 := k.n2; have k3 := k.d1; have k4 := k.d2
  have hd0 : d ≠ 0 := by omega
  have he0 : e ≠ 0 := by omega
  have p1 := mulM (x := n) (y := e) ⟨by omega, by omega⟩ ⟨by omega, by omega⟩
  have p2 := mulM (x := m) (y := d) ⟨by omega, by omega⟩ ⟨by omega, by omega⟩
  have p3 := mulM (x := d) (y := e) ⟨by omega, by omega⟩ ⟨by omega, by omega⟩
  have hde : d * e ≠ 0 := Int.mul_ne_zero hd0 he0
  refine rop_start h k (rnew_end (n := n * e + m * d) (d := d * e) ⟨by omega, by omega⟩ ⟨by omega, by omega⟩ ?_ fun K => ?_)
  · unfold newQ
    rw [if_neg hde]
    exact congrArg Pure_ofQ (Rat.divInt_add_divInt _ _ hd0 he0).symm
  · simp only [marigraphref1_Op.j0, if_neg (show ¬ (43 : Int) = 47 by decide), Bool.false_eq_true, if_false, if_true]
    rw [wrap64_id (x := d * e) ⟨by omega, by omega⟩]
    rw [wrap64_id (x := n * e) ⟨by omega, by omega⟩, wrap64_id (x := m * d) ⟨by omega, by omega⟩, wrap64_id (x := n * e + m * d) ⟨by omega, by omega⟩]
theorem rDiv_tells {n d m e : Int} (h : Rt n d) (k : Rt m e) : Ev (fun K => marigraphref1_Op.f K 47 n d m e) (newQ (n * e) (d * m)) := by
  have h1 := h.n1; have h2 := h.n2; have h3 := h.d1; have h4 := h.d2
  have k1 := k.n1; have k2 := k.n2; have k3 := k.d1; have k4 := k.d2
  have hd0 : d ≠ 0 := by omega
  have p1 := mulM (x := n) (y := e) ⟨by omega, by omega⟩ ⟨by omega, by omega⟩
  have p2 := mulM (x := d) (y := m) ⟨by omega, by omega⟩ ⟨by omega, by omega⟩
  refine rop_start h k ?_
  simp only [if_true]
  by_cases hm : m = 0
  · subst hm
    refine ⟨1, fun K hK => ?_⟩
    obtain ⟨K, rfl⟩ : ∃ z, K = z + 1 := ⟨K - 1, by omega⟩
    simp only [marigraphref1_Op.j0, beq_self_eq_true, if_true]
    unfold newQ
    rw [if_pos (by simp)]
  · rw [show (m == 0) = false by simpa using hm]
    refine rnew_end (n := n * e) (d := d * m) ⟨by omega, by omega⟩ ⟨by omega, by omega⟩ rfl fun K => ?_
    simp only [marigraphref1_Op.j0, if_neg (show ¬ (47 : Int) = 43 by decide), if_neg (show ¬ (47 : Int) = 45 by decide), if_neg (show ¬ (47 : Int) = 42 by decide), Bool.false_eq_true, if_false]
    rw [wrap64_id (x := n * e) ⟨by omega, by omega⟩, wrap64_id (x := d * m) ⟨by omega, by omega⟩]
theorem rcmp_tells {n d m e : Int} (h : Rt n d) (k : Rt m e) : Ev (fun K => marigraphref1_Cmp.f K n d m e) (cmpQ (VQ n d) (VQ m e)) := by
  have r1 := rright_tells h.i64n h.i64d
  have r2 := rright_tells k.i64n k.i64d
  rw [h.right] at r1
  rw [k.right] at r2
  refine Ev.bind r1 (Ev.bind r2 ?_)
  simp only [if_true]
  refine ⟨1, fun K hK => ?_⟩
  obtain ⟨K, rfl⟩ : ∃ m, K = m + 1 := ⟨K - 1, by omega⟩
  simp only [marigraphref1_Cmp.j0, Bool.false_eq_true, if_false, if_true]
  have h1 := h.n1; have h2 := h.n2; have h3 := h.d1; have h4 := h.d2
  have k1 := k.n1; have k2 := k.n2; have k3 := k.d1; have k4 := k.d2
  rw [prodw (x := n) (y := e) ⟨by omega, by omega⟩ ⟨by omega, by omega⟩, prodw (x := m) (y := d) ⟨by omega, by omega⟩ ⟨by omega, by omega⟩]
  unfold cmpQ
  by_cases hlt : n * e < m * d
  · rw [if_pos hlt, if_pos ((ratlt h k).1 hlt)]
  · rw [if_neg hlt, if_neg (fun hh => hlt ((ratlt h k).2 hh))]
    by_cases hgt : n * e > m * d
    · rw [if_pos hgt]
      have := (ratlt k h).1 hgt
      rw [if_neg (fun he => by rw [he] at this; exact absurd this (Rat.lt_irrefl))]
    · rw [if_neg hgt]
      have h5 : ¬ VQ m e < VQ n d := fun hh => hgt ((ratlt k h).2 hh)
      have h6 : ¬ VQ n d < VQ m e := fun hh => hlt ((ratlt h k).2 hh)
      rw [if_pos (Rat.le_antisymm (Rat.not_lt.1 h5) (Rat.not_lt.1 h6))]
/-- The i-th sample. -/
def at_ (l : List S31) (j : Nat) : S31 := l.getD j z31
theorem rd_at (l : List S31) (j : Nat) : rd_T31 l (j : Int) = at_ l j := rfl
/-- Samples that are right: times in the row, numbers right, each later than the one ahead. -/
def GoodL (l : List S31) : Prop := ∀ j : Nat, j < l.length → 0 ≤ (at_ l j).f0 ∧ (at_ l j).f0 ≤ 4294967295 ∧ Rt (at_ l j).f1.f0 (at_ l j).f1.f1 ∧ (0 < j → (at_ l (j - 1)).f0 < (at_ l j).f0)
theorem wrap_succ {j n : Nat} (h : j < n) (hn : n < 4611686014132420609) : wrap64 ((j : Int) + 1) = ((j + 1 : Nat) : Int) := by
  unfold wrap64; omega
theorem wrap_pred {j n : Nat} (h : j < n) (hn : n < 4611686014132420609) (h0 : 0 < j) : wrap64 ((j : Int) - 1) = ((j - 1 : Nat) : Int) := by
  unfold wrap64; omega
/-! ### any samples: Right, told by both -/
theorem evDown {α : Type} {g : Nat → Option α} {r : α} (h : Ev (fun k => g (k + 1)) r) : Ev g r := let ⟨K, hK⟩ := h; ⟨K + 1, fun k hk => by
  obtain ⟨m, rfl⟩ : ∃ m, k = m + 1 := ⟨k - 1, by omega⟩
  exact hK m (by omega)⟩
/-- rd_at, not by definition (a rewriting by definition leaves an if's instance as it was). -/
theorem rd_atN (l : List S31) (j : Nat) : rd_T31 l (j : Int) = at_ l j := by cases l <;> rfl
def NumL (l : List S31) : Prop := ∀ j : Nat, j < l.length → I64 (at_ l j).f0 ∧ I64 (at_ l j).f1.f0 ∧ I64 (at_ l j).f1.f1
def goodFrom (l : List S31) : Nat → Nat → Bool
  | 0, _ => true
  | n + 1, j => if (at_ l j).f0 < 0 then false else if (at_ l j).f0 > 4294967295 then false else if rightQ (at_ l j).f1.f0 (at_ l j).f1.f1 = true then (if 0 < j then (if (at_ l (j - 1)).f0 ≥ (at_ l j).f0 then false else goodFrom l n (j + 1)) else goodFrom l n (j + 1)) else false
theorem down_right_all (l : List S31) (hI : NumL l) (hn : l.length < 4611686014132420609) : ∀ n j : Nat, l.length - j = n → Ev (fun k => down_Right.l0 k l l (l.length : Int) (j : Int)) (goodFrom l n j) := by
  intro n
  induction n with
  | zero =>
    intro j hj
    refine evDown ?_
    simp only [down_Right.l0, if_neg (show ¬ (j : Int) < (l.length : Int) by omega)]
    exact Ev.now _
  | succ n ih =>
    intro j hj
    have hlt : j < l.length := by omega
    obtain ⟨i0, i1, i2⟩ := hI j hlt
    refine evDown ?_
    simp only [down_Right.l0, if_pos (show (j : Int) < (l.length : Int) by omega), if_pos (show 0 ≤ (j : Int) by omega), rd_atN]
    unfold goodFrom
    by_cases h0 : (at_ l j).f0 < 0
    · simp only [if_pos h0]; exact Ev.now _
    simp only [if_neg h0]
    by_cases h1 : (at_ l j).f0 > 4294967295
    · simp only [if_pos h1]; exact Ev.now _
    simp only [if_neg h1]
    refine Ev.bind (right_tells i1 i2) ?_
    by_cases h2 : rightQ (at_ l j).f1.f0 (at_ l j).f1.f1 = true
    · simp only [if_pos h2, wrap_succ hlt hn]
      by_cases h3 : 0 < j
      · simp only [wrap_pred hlt hn h3, rd_atN, if_pos h3, if_pos (show (j : Int) > 0 by omega), if_pos (show 0 ≤ ((j - 1 : Nat) : Int) by omega), if_pos (show ((j - 1 : Nat) : Int) < (l.length : Int) by omega)]
        by_cases h4 : (at_ l (j - 1)).f0 ≥ (at_ l j).f0
        · simp only [if_pos h4]; exact Ev.now _
        · simp only [if_neg h4]; exact ih (j + 1) (by omega)
      · simp only [if_neg h3, if_neg (show ¬ (j : Int) > 0 by omega)]
        exact ih (j + 1) (by omega)
    · simp only [if_neg h2]; exact Ev.now _
theorem ref_right_all (l : List S31) (hI : NumL l) (hn : l.length < 4611686014132420609) : ∀ n j : Nat, l.length - j = n → Ev (fun k => marigraphref21_Right.l0 k l (j : Int)) (goodFrom l n j) := by
  intro n
  induction n with
  | zero =>
    intro j hj
    refine evDown ?_
    simp only [marigraphref21_Right.l0, if_neg (show ¬ (j : Int) < (l.length : Int) by omega)]
    exact Ev.now _
  | succ n ih =>
    intro j hj
    have hlt : j < l.length := by omega
    obtain ⟨i0, i1, i2⟩ := hI j hlt
    refine evDown ?_
    simp only [marigraphref21_Right.l0, if_pos (show (j : Int) < (l.length : Int) by omega), if_pos (show 0 ≤ (j : Int) by omega), rd_atN]
    unfold goodFrom
    by_cases h0 : (at_ l j).f0 < 0
    · simp only [if_pos h0]; exact Ev.now _
    simp only [if_neg h0]
    by_cases h1 : (at_ l j).f0 > 4294967295
    · simp only [if_pos h1]; exact Ev.now _
    simp only [if_neg h1]
    refine Ev.bind (rright_tells i1 i2) ?_
    by_cases h2 : rightQ (at_ l j).f1.f0 (at_ l j).f1.f1 = true
    · simp only [if_pos h2, wrap_succ hlt hn]
      by_cases h3 : 0 < j
      · simp only [wrap_pred hlt hn h3, rd_atN, if_pos h3, if_pos (show (j : Int) > 0 by omega), if_pos (show 0 ≤ ((j - 1 : Nat) : Int) by omega), if_pos (show ((j - 1 : Nat) : Int) < (l.length : Int) by omega)]
        by_cases h4 : (at_ l (j - 1)).f0 ≥ (at_ l j).f0
        · simp only [if_pos h4]; exact Ev.now _
        · simp only [if_neg h4]; exact ih (j + 1) (by omega)
      · simp only [if_neg h3, if_neg (show ¬ (j : Int) > 0 by omega)]
        exact ih (j + 1) (by omega)
    · simp only [if_neg h2]; exact Ev.now _
theorem good_of (l : List S31) : ∀ n j : Nat, l.length - j = n → goodFrom l n j = true → ∀ i, j ≤ i → i < l.length → 0 ≤ (at_ l i).f0 ∧ (at_ l i).f0 ≤ 4294967295 ∧ Rt (at_ l i).f1.f0 (at_ l i).f1.f1 ∧ (0 < i → (at_ l (i - 1)).f0 < (at_ l i).f0) := by
  intro n
  induction n with
  | zero => intro j hj _ i h1 h2; omega
  | succ n ih =>
    intro j hj hg i h1 h2
    unfold goodFrom at hg
    by_cases h0 : (at_ l j).f0 < 0
    · rw [if_pos h0] at hg; cases hg
    rw [if_neg h0] at hg
    by_cases h3 : (at_ l j).f0 > 4294967295
    · rw [if_pos h3] at hg; cases hg
    rw [if_neg h3] at hg
    by_cases h4 : rightQ (at_ l j).f1.f0 (at_ l j).f1.f1 = true
    · rw [if_pos h4] at hg
      by_cases h5 : 0 < j
      · rw [if_pos h5] at hg
        by_cases h6 : (at_ l (j - 1)).f0 ≥ (at_ l j).f0
        · rw [if_pos h6] at hg; cases hg
        rw [if_neg h6] at hg
        by_cases hij : i = j
        · subst hij
          exact ⟨by omega, by omega, Rt.of_right h4, fun _ => by omega⟩
        · exact ih (j + 1) (by omega) hg i (by omega) h2
      · rw [if_neg h5] at hg
        by_cases hij : i = j
        · subst hij
          exact ⟨by omega, by omega, Rt.of_right h4, fun h => absurd h h5⟩
        · exact ih (j + 1) (by omega) hg i (by omega) h2
    · rw [if_neg h4] at hg; cases hg
theorem good_all {l : List S31} (h : goodFrom l l.length 0 = true) : GoodL l := fun j hj => good_of l l.length 0 rfl h j (Nat.zero_le _) hj
/-! ### fold.Do beside the document's, for any numbers -/
theorem ofQ_eta {q : Rat} (h : (Pure_ofQ q).2.2 = 0) : Rt (Pure_ofQ q).1 (Pure_ofQ q).2.1 := (Rt.ofQ (q := q) (n := (Pure_ofQ q).1) (d := (Pure_ofQ q).2.1) (by rw [← h])).1
def rat_ (l : List S29) (j : Nat) : S29 := l.getD j z29
theorem rd_rat (l : List S29) (j : Nat) : rd_T29 l (j : Int) = rat_ l j := by cases l <;> rfl
theorem rat_drop {l : List S29} {j : Nat} (h : j < l.length) : l.drop j = rat_ l j :: l.drop (j + 1) := by
  rw [List.drop_eq_getElem_cons h]
  unfold rat_
  rw [List.getD_eq_getElem?_getD, List.getElem?_eq_getElem h]
  rfl
theorem wrapS {j n : Nat} (h : j < n) (hn : n < 4611686014132420609) : wrap64 ((j : Int) + 1) = ((j + 1 : Nat) : Int) := by
  unfold wrap64
  omega
def NumP (l : List S29) : Prop := ∀ j : Nat, j < l.length → I64 (rat_ l j).f0 ∧ I64 (rat_ l j).f1
def allR : List S29 → Bool
  | [] => true
  | x :: l => rightQ x.f0 x.f1 && allR l
theorem NumP.tail {x : S29} {l : List S29} (h : NumP (x :: l)) : NumP l := fun j hj => h (j + 1) (by rw [List.length_cons]; omega)
theorem badI_tells : ∀ l : List S29, NumP l → Ev (fun k => badI k l) (!allR l) := by
  intro l
  induction l with
  | nil => intro _; exact Ev.now _
  | cons x l ih =>
    intro h
    obtain ⟨i0, i1⟩ := h 0 (by simp)
    have i0 : I64 x.f0 := i0
    have i1 : I64 x.f1 := i1
    have hd : Ev (fun k => fold_Do_1.f k x.f0 x.f1) (!rightQ x.f0 x.f1) := Ev.bind (right_tells i0 i1) (Ev.now _)
    have un : ∀ k, badI k (x :: l) = (fold_Do_1.f k x.f0 x.f1).bind fun t => if t = true then some true else badI k l := fun k => rfl
    refine evEq un (Ev.bind hd ?_)
    unfold allR
    cases rightQ x.f0 x.f1 with
    | true => simp only [Bool.not_true, Bool.false_eq_true, if_false, Bool.true_and]; exact ih h.tail
    | false => simp only [Bool.not_false, if_true, Bool.false_and]; exact Ev.now _
theorem allR_rt {l : List S29} (h : allR l = true) : ∀ j : Nat, j < l.length → Rt (rat_ l j).f0 (rat_ l j).f1 := by
  induction l with
  | nil => intro j hj; simp at hj
  | cons x l ih =>
    intro j hj
    unfold allR at h
    rw [Bool.and_eq_true] at h
    cases j with
    | zero => exact Rt.of_right h.1
    | succ j => exact ih h.2 j (by rw [List.length_cons] at hj; omega)
/-- One step of the folds that go on: sum, least, greatest, average. -/
def stX (how n d m e : Int) : Int × Int × Int :=
  if how = 2 then (if cmpQ (VQ m e) (VQ n d) < 0 then (m, e, 0) else (n, d, 0)) else if how = 3 then (if cmpQ (VQ m e) (VQ n d) > 0 then (m, e, 0) else (n, d, 0)) else Pure_ofQ (VQ n d + VQ m e)
theorem stX_rt {how n d m e : Int} (h : Rt n d) (k : Rt m e) (h0 : (stX how n d m e).2.2 = 0) : Rt (stX how n d m e).1 (stX how n d m e).2.1 := by
  unfold stX at h0 ⊢
  by_cases h2 : how = 2
  · rw [if_pos h2]
    split
    · exact k
    · exact h
  rw [if_neg h2] at h0 ⊢
  by_cases h3 : how = 3
  · rw [if_pos h3]
    split
    · exact k
    · exact h
  rw [if_neg h3] at h0 ⊢
  exact ofQ_eta h0
theorem stepI_tells {how n d m e : Int} (h : Rt n d) (k : Rt m e) (hh : how ≠ 5 ∧ how ≠ 6 ∧ how ≠ 7) : Ev (fun K => stepI K how n d m e) (stX how n d m e) := by
  have un : ∀ K, stepI K how n d m e = if how = 2 then (fold_steps_2.f K n d m e).bind fun b => some (pickI b n d m e) else if how = 3 then (fold_steps_3.f K n d m e).bind fun b => some (pickI b n d m e) else rat_Add.f K n d m e := fun K => by
    unfold stepI
    by_cases h2 : how = 2
    · rw [if_pos h2, if_pos h2]
    rw [if_neg h2, if_neg h2]
    by_cases h3 : how = 3
    · rw [if_pos h3, if_pos h3]
    rw [if_neg h3, if_neg h3, if_neg (fun hc => hc.elim hh.2.1 hh.1), if_neg hh.2.2]
  refine evEq un ?_
  unfold stX
  by_cases h2 : how = 2
  · simp only [if_pos h2]
    have hs : Ev (fun K => fold_steps_2.f K n d m e) (decide (cmpQ (VQ m e) (VQ n d) < 0)) := Ev.bind (cmp_tells k h) (Ev.now _)
    refine Ev.bind hs ?_
    unfold pickI
    by_cases hc : cmpQ (VQ m e) (VQ n d) < 0
    · simp only [decide_eq_true hc, if_true, if_pos hc]; exact Ev.now _
    · simp only [decide_eq_false hc, Bool.false_eq_true, if_false, if_neg hc]; exact Ev.now _
  simp only [if_neg h2]
  by_cases h3 : how = 3
  · simp only [if_pos h3]
    have hs : Ev (fun K => fold_steps_3.f K n d m e) (decide (cmpQ (VQ m e) (VQ n d) > 0)) := Ev.bind (cmp_tells k h) (Ev.now _)
    refine Ev.bind hs ?_
    unfold pickI
    by_cases hc : cmpQ (VQ m e) (VQ n d) > 0
    · simp only [decide_eq_true hc, if_true, if_pos hc]; exact Ev.now _
    · simp only [decide_eq_false hc, Bool.false_eq_true, if_false, if_neg hc]; exact Ev.now _
  simp only [if_neg h3]
  exact Add_tells h k
def fdX (how : Int) : List S29 → Int → Int → Int × Int × Int
  | [], n, d => (n, d, 0)
  | x :: l, n, d => if (stX how n d x.f0 x.f1).2.2 = 0 then fdX how l (stX how n d x.f0 x.f1).1 (stX how n d x.f0 x.f1).2.1 else (0, 0, (stX how n d x.f0 x.f1).2.2)
theorem foldI_tells {how : Int} (hh : how ≠ 5 ∧ how ≠ 6 ∧ how ≠ 7) : ∀ (l : List S29) (n d : Int), Rt n d → allR l = true → Ev (fun k => foldI k how l n d) (fdX how l n d) ∧ ((fdX how l n d).2.2 = 0 → Rt (fdX how l n d).1 (fdX how l n d).2.1) := by
  intro l
  induction l with
  | nil => intro n d h _; exact ⟨Ev.now _, fun _ => h⟩
  | cons x l ih =>
    intro n d h ha
    unfold allR at ha
    rw [Bool.and_eq_true] at ha
    have hx := Rt.of_right ha.1
    have un : ∀ k, foldI k how (x :: l) n d = (stepI k how n d x.f0 x.f1).bind fun r => if r.2.2 = 0 then foldI k how l r.1 r.2.1 else some (0, 0, r.2.2) := fun k => rfl
    have hs := stepI_tells h hx hh
    unfold fdX
    by_cases h0 : (stX how n d x.f0 x.f1).2.2 = 0
    · obtain ⟨e1, e2⟩ := ih _ _ (stX_rt h hx h0) ha.2
      rw [if_pos h0]
      refine ⟨evEq un (Ev.bind hs ?_), e2⟩
      simp only [if_pos h0]
      exact e1
    · rw [if_neg h0]
      refine ⟨evEq un (Ev.bind hs ?_), fun hc => absurd hc h0⟩
      simp only [if_neg h0]
      exact Ev.now _
/-! first, last, count -/
theorem fold_first (how : Int) (hh : how = 6 ∨ how = 5) : ∀ (l : List S29) (n d : Int) (k : Nat), foldI k how l n d = some (n, d, 0) := by
  intro l
  induction l with
  | nil => intro n d k; rfl
  | cons x l ih =>
    intro n d k
    have e : stepI k how n d x.f0 x.f1 = some (n, d, 0) := by
      unfold stepI
      rw [if_neg (by omega), if_neg (by omega), if_pos hh]
      rfl
    show (stepI k how n d x.f0 x.f1).bind _ = _
    rw [e]
    show (if (0 : Int) = 0 then foldI k how l n d else some (0, 0, 0)) = _
    rw [if_pos rfl]
    exact ih n d k
def lastP : List S29 → S29 → S29
  | [], x => x
  | y :: l, _ => lastP l y
theorem fold_last : ∀ (l : List S29) (x : S29) (k : Nat), foldI k 7 l x.f0 x.f1 = some ((lastP l x).f0, (lastP l x).f1, 0) := by
  intro l
  induction l with
  | nil => intro x k; rfl
  | cons y l ih =>
    intro x k
    show (stepI k 7 x.f0 x.f1 y.f0 y.f1).bind _ = _
    have e : stepI k 7 x.f0 x.f1 y.f0 y.f1 = some (y.f0, y.f1, 0) := rfl
    rw [e]
    show (if (0 : Int) = 0 then foldI k 7 l y.f0 y.f1 else some (0, 0, 0)) = _
    rw [if_pos rfl]
    exact ih y k
theorem rat_last : ∀ (l : List S29) (x : S29), rat_ (x :: l) l.length = lastP l x := by
  intro l
  induction l with
  | nil => intro x; rfl
  | cons y l ih => intro x; exact ih y
theorem of_len {n : Nat} (hn : n ≤ 2147483647) : newQ (n : Int) 1 = ((n : Int), 1, 0) := by
  have r := rt_one (n := (n : Int)) (by omega) (by omega)
  unfold newQ Pure_ofQ
  have h1 := r.num
  have h2 := r.den
  rw [if_neg (by decide), h1]
  have h3 : (Rat.divInt (n : Int) 1).den = 1 := by omega
  rw [h3, if_neg (by omega)]
  rfl
/-! the document's fold.Do -/
/-- The document's test of all numbers. -/
theorem l0_tells {how : Int} {l : List S29} (h : NumP l) (hn : l.length < 4611686014132420609) : ∀ n j : Nat, l.length - j = n → j ≤ l.length →
    (allR (l.drop j) = false → Ev (fun k => marigraphref20_Do.l0 k how l (j : Int)) (0, 0, 1)) ∧
    (allR (l.drop j) = true → ∀ r, Ev (fun k => marigraphref20_Do.l0 k how l (l.length : Int)) r → Ev (fun k => marigraphref20_Do.l0 k how l (j : Int)) r) := by
  intro n
  induction n with
  | zero =>
    intro j hj hle
    have e : j = l.length := by omega
    subst e
    refine ⟨fun hb => ?_, fun _ r hr => hr⟩
    rw [List.drop_length] at hb
    exact absurd hb (by decide)
  | succ n ih =>
    intro j hj hle
    have hlt : j < l.length := by omega
    obtain ⟨i0, i1⟩ := h j hlt
    have hw := wrapS hlt hn
    obtain ⟨g1, g2⟩ := ih (j + 1) (by omega) (by omega)
    have go : ∀ r, Ev (fun k => (marigraphref1_Right.f k (rat_ l j).f0 (rat_ l j).f1).bind fun t => (if t = true then (marigraphref20_Do.l0 k how l ((j + 1 : Nat) : Int)) else (some (0, 0, 1)))) r → Ev (fun k => marigraphref20_Do.l0 k how l (j : Int)) r := by
      intro r hr
      refine evDown ?_
      simp only [marigraphref20_Do.l0, if_pos (show (j : Int) < (l.length : Int) by omega), if_pos (show 0 ≤ (j : Int) by omega), rd_rat, hw]
      exact hr
    rw [rat_drop hlt]
    unfold allR
    cases hq : rightQ (rat_ l j).f0 (rat_ l j).f1 with
    | true =>
      have hr := rright_tells i0 i1
      rw [hq] at hr
      simp only [Bool.true_and]
      refine ⟨fun hb => go _ (Ev.bind hr ?_), fun hb r hr2 => go _ (Ev.bind hr ?_)⟩
      · simp only [if_true]; exact g1 hb
      · simp only [if_true]; exact g2 hb r hr2
    | false =>
      have hr := rright_tells i0 i1
      rw [hq] at hr
      simp only [Bool.false_and]
      refine ⟨fun _ => go _ (Ev.bind hr ?_), fun hb => by cases hb⟩
      simp only [Bool.false_eq_true, if_false]
      exact Ev.now _
/-- The document's loop. -/
theorem l1_tells {how : Int} (hh : how ≠ 5 ∧ how ≠ 6 ∧ how ≠ 7) {l : List S29} (hn : l.length < 4611686014132420609) : ∀ m j : Nat, ∀ n d : Int, l.length - j = m → j ≤ l.length → Rt n d → allR (l.drop j) = true →
    ((fdX how (l.drop j) n d).2.2 ≠ 0 → Ev (fun k => marigraphref20_Do.l1 k how l (j : Int) n d) (0, 0, (fdX how (l.drop j) n d).2.2)) ∧
    ((fdX how (l.drop j) n d).2.2 = 0 → ∀ r, Ev (fun k => marigraphref20_Do.l1 k how l (l.length : Int) (fdX how (l.drop j) n d).1 (fdX how (l.drop j) n d).2.1) r → Ev (fun k => marigraphref20_Do.l1 k how l (j : Int) n d) r) := by
  intro m
  induction m with
  | zero =>
    intro j n d hj hle h ha
    have e : j = l.length := by omega
    subst e
    rw [List.drop_length]
    exact ⟨fun hc => absurd rfl hc, fun _ r hr => hr⟩
  | succ m ih =>
    intro j n d hj hle h ha
    have hlt : j < l.length := by omega
    have hw := wrapS hlt hn
    rw [rat_drop hlt] at ha ⊢
    unfold allR at ha
    rw [Bool.and_eq_true] at ha
    have hx := Rt.of_right ha.1
    have hc := rcmp_tells hx h
    have hs0 := fun z => ih (j + 1) (stX how n d (rat_ l j).f0 (rat_ l j).f1).1 (stX how n d (rat_ l j).f0 (rat_ l j).f1).2.1 (by omega) (by omega) (stX_rt h hx z) ha.2
    have go : ∀ r, ((stX how n d (rat_ l j).f0 (rat_ l j).f1).2.2 = 0 → Ev (fun k => marigraphref20_Do.l1 k how l ((j + 1 : Nat) : Int) (stX how n d (rat_ l j).f0 (rat_ l j).f1).1 (stX how n d (rat_ l j).f0 (rat_ l j).f1).2.1) r) → ((stX how n d (rat_ l j).f0 (rat_ l j).f1).2.2 ≠ 0 → r = (0, 0, (stX how n d (rat_ l j).f0 (rat_ l j).f1).2.2)) → Ev (fun k => marigraphref20_Do.l1 k how l (j : Int) n d) r := by
      intro r h0 h1
      refine evDown ?_
      simp only [marigraphref20_Do.l1, if_pos (show (j : Int) < (l.length : Int) by omega), if_pos (show 0 ≤ (j : Int) by omega), rd_rat, hw]
      refine Ev.bind hc ?_
      unfold stX at h0 h1
      by_cases h2 : how = 2
      · simp only [if_pos h2] at h0 h1 ⊢
        by_cases h3 : cmpQ (VQ (rat_ l j).f0 (rat_ l j).f1) (VQ n d) < 0
        · simp only [if_pos h3] at h0 ⊢; exact h0 trivial
        · simp only [if_neg h3] at h0 ⊢; exact h0 trivial
      simp only [if_neg h2] at h0 h1 ⊢
      by_cases h4 : how = 3
      · simp only [if_pos h4] at h0 h1 ⊢
        by_cases h3 : cmpQ (VQ (rat_ l j).f0 (rat_ l j).f1) (VQ n d) > 0
        · simp only [if_pos h3] at h0 ⊢; exact h0 trivial
        · simp only [if_neg h3] at h0 ⊢; exact h0 trivial
      simp only [if_neg h4] at h0 h1 ⊢
      refine Ev.bind (rAdd_tells h hx) ?_
      by_cases h5 : (Pure_ofQ (VQ n d + VQ (rat_ l j).f0 (rat_ l j).f1)).2.2 = 0
      · simp only [if_pos h5]; exact h0 h5
      · simp only [if_neg h5]; rw [h1 h5]; exact Ev.now _
    unfold fdX
    by_cases z : (stX how n d (rat_ l j).f0 (rat_ l j).f1).2.2 = 0
    · obtain ⟨g1, g2⟩ := hs0 z
      rw [if_pos z]
      exact ⟨fun hb => go _ (fun _ => g1 hb) (fun hc2 => absurd z hc2), fun hb r hr => go _ (fun _ => g2 hb r hr) (fun hc2 => absurd z hc2)⟩
    · rw [if_neg z]
      exact ⟨fun _ => go _ (fun hc2 => absurd hc2 z) (fun _ => rfl), fun hb => absurd hb z⟩
theorem do_same (how : Int) (l : List S29) (hI : NumP l) (hn : l.length ≤ 1000) : ∃ r, Ev (fun k => fold_Do.f k how l) r ∧ Ev (fun k => marigraphref20_Do.f k how l) r := by
  have hrr : fold_Right.f how = marigraphref20_Right.f how := rfl
  have bad : Ev (fun k => marigraphref20_Do.j0 k how l true) (0, 0, 1) := by
    refine evDown ?_
    simp only [marigraphref20_Do.j0, if_true]
    exact Ev.now _
  obtain ⟨b, hb⟩ : ∃ b, fold_Right.f how = some b := by
    unfold fold_Right.f
    split <;> exact ⟨_, rfl⟩
  have hb2 := hb
  rw [hrr] at hb2
  unfold fold_Do.f marigraphref20_Do.f
  simp only [if_pos (show l.length < 4611686014132420609 by omega), hb, hb2, Option.bind_some]
  cases b with
  | false => exact ⟨(0, 0, 1), by simp only [Bool.false_eq_true, if_false]; exact Ev.now _, by simp only [Bool.false_eq_true, if_false]; exact bad⟩
  | true =>
    simp only [if_true]
    cases l with
    | nil => exact ⟨(0, 0, 1), Ev.now _, bad⟩
    | cons x xs =>
      have hz : (((x :: xs).length : Int) == 0) = false := by rw [List.length_cons, beq_eq_false_iff_ne]; omega
      simp only [hz]
      have hbad := badI_tells (x :: xs) hI
      obtain ⟨g1, g2⟩ := l0_tells (how := how) hI (show (x :: xs).length < 4611686014132420609 by omega) _ 0 rfl (Nat.zero_le _)
      rw [List.drop_zero] at g1 g2
      cases ha : allR (x :: xs) with
      | false =>
        rw [ha] at hbad
        refine ⟨(0, 0, 1), Ev.bind hbad ?_, evDown ?_⟩
        · simp only [Bool.not_false, if_true]; exact Ev.now _
        · simp only [marigraphref20_Do.j0, Bool.false_eq_true, if_false]; exact g1 ha
      | true =>
        rw [ha] at hbad
        have hrt := allR_rt ha
        have hx : Rt x.f0 x.f1 := hrt 0 (by simp)
        have ha2 : allR xs = true := by unfold allR at ha; rw [Bool.and_eq_true] at ha; exact ha.2
        have mine : ∀ r, Ev (fun k => (foldI k how xs x.f0 x.f1).bind fun r => if r.2.2 = 0 then fold_Do.rest k how (x :: xs).length r.1 r.2.1 else some (0, 0, r.2.2)) r → Ev (fun k => (badI k (x :: xs)).bind fun b => if b = true then some (0, 0, 1) else (foldI k how xs x.f0 x.f1).bind fun r => if r.2.2 = 0 then fold_Do.rest k how (x :: xs).length r.1 r.2.1 else some (0, 0, r.2.2)) r := by
          intro r h
          refine Ev.bind hbad ?_
          simp only [Bool.not_true, Bool.false_eq_true, if_false]
          exact h
        have theirs : ∀ r, Ev (fun k => if how = 5 then ((marigraphref1_New.f k ((x :: xs).length : Int) 1).bind fun bt227 => (some (bt227.1, bt227.2.1, bt227.2.2))) else (if how = 6 then (some ((rat_ (x :: xs) 0).f0, (rat_ (x :: xs) 0).f1, 0)) else (if how = 7 then (some ((rat_ (x :: xs) xs.length).f0, (rat_ (x :: xs) xs.length).f1, 0)) else (marigraphref20_Do.l1 k how (x :: xs) 1 ((rat_ (x :: xs) 0).f0) ((rat_ (x :: xs) 0).f1))))) r → Ev (fun k => marigraphref20_Do.j0 k how (x :: xs) false) r := by
          intro r h
          refine evDown ?_
          simp only [marigraphref20_Do.j0, Bool.false_eq_true, if_false]
          refine g2 ha r (evDown ?_)
          have hw : wrap64 (((x :: xs).length : Int) - 1) = (xs.length : Int) := by rw [List.length_cons]; rw [List.length_cons] at hn; unfold wrap64; omega
          have r0 : rd_T29 (x :: xs) 0 = rat_ (x :: xs) 0 := rfl
          simp only [marigraphref20_Do.l0, if_neg (show ¬ ((x :: xs).length : Int) < ((x :: xs).length : Int) by omega), if_pos (show 0 < ((x :: xs).length : Int) by rw [List.length_cons]; omega), hw, r0, if_pos (show 0 ≤ (xs.length : Int) by omega), if_pos (show (xs.length : Int) < ((x :: xs).length : Int) by rw [List.length_cons]; omega), rd_rat]
          exact h
        have hlen := of_len (n := (x :: xs).length) (by omega)
        have hof : Ev (fun k => rat_Of.f k ((x :: xs).length : Int)) (((x :: xs).length : Int), 1, 0) := by
          have := of_tells (n := ((x :: xs).length : Int)) (by omega) (by omega)
          exact this
        have rest : ∀ n d r, (if how = 5 then Ev (fun _ => some (((x :: xs).length : Int), (1 : Int), (0 : Int))) r else if how = 4 then Ev (fun k => rat_Div.f k n d ((x :: xs).length : Int) 1) r else r = (n, d, 0)) → Ev (fun k => fold_Do.rest k how (x :: xs).length n d) r := by
          intro n d r h
          refine Ev.bind hof ?_
          simp only [if_true]
          by_cases h5 : how = 5
          · rw [if_pos h5] at h; simp only [if_pos h5]; exact h
          · rw [if_neg h5] at h; simp only [if_neg h5]
            by_cases h4 : how = 4
            · rw [if_pos h4] at h; simp only [if_pos h4]; exact h
            · rw [if_neg h4] at h; simp only [if_neg h4]; rw [h]; exact Ev.now _
        by_cases h56 : how = 6 ∨ how = 5
        · have hf : ∀ k, (foldI k how xs x.f0 x.f1) = some (x.f0, x.f1, 0) := fun k => fold_first how h56 xs _ _ k
          by_cases h5 : how = 5
          · refine ⟨(((x :: xs).length : Int), 1, 0), mine _ ?_, theirs _ ?_⟩
            · simp only [hf, Option.bind_some, if_true]
              refine rest _ _ _ ?_
              rw [if_pos h5]
              exact Ev.now _
            · simp only [if_pos h5]
              have hN := rnew_tells (n := ((x :: xs).length : Int)) (d := 1) ⟨by omega, by omega⟩ ⟨by decide, by decide⟩
              rw [hlen] at hN
              exact Ev.bind hN (Ev.now _)
          · have h6 : how = 6 := by omega
            refine ⟨(x.f0, x.f1, 0), mine _ ?_, theirs _ ?_⟩
            · simp only [hf, Option.bind_some, if_true]
              refine rest _ _ _ ?_
              rw [if_neg h5, if_neg (by omega)]
            · simp only [if_neg h5, if_pos h6]
              exact Ev.now _
        · by_cases h7 : how = 7
          · subst h7
            refine ⟨((lastP xs x).f0, (lastP xs x).f1, 0), mine _ ?_, theirs _ ?_⟩
            · simp only [fold_last, Option.bind_some, if_true]
              refine rest _ _ _ ?_
              rw [if_neg (by decide), if_neg (by decide)]
            · simp only [if_neg (show ¬ (7 : Int) = 5 by decide), if_neg (show ¬ (7 : Int) = 6 by decide), if_true, rat_last]
              exact Ev.now _
          · have hh : how ≠ 5 ∧ how ≠ 6 ∧ how ≠ 7 := ⟨fun h => h56 (Or.inr h), fun h => h56 (Or.inl h), h7⟩
            obtain ⟨e1, e2⟩ := foldI_tells hh xs x.f0 x.f1 hx ha2
            obtain ⟨f1, f2⟩ := l1_tells hh (l := x :: xs) (by omega) _ 1 x.f0 x.f1 rfl (by simp) hx (by exact ha2)
            have ed : (x :: xs).drop 1 = xs := rfl
            rw [ed] at f1 f2
            have th : ∀ r, Ev (fun k => marigraphref20_Do.l1 k how (x :: xs) ((1 : Nat) : Int) x.f0 x.f1) r → Ev (fun k => marigraphref20_Do.j0 k how (x :: xs) false) r := by
              intro r h
              refine theirs r ?_
              simp only [if_neg hh.1, if_neg hh.2.1, if_neg hh.2.2]
              exact h
            by_cases z : (fdX how xs x.f0 x.f1).2.2 = 0
            · have rr := e2 z
              have r1 := rt_one (n := ((x :: xs).length : Int)) (by omega) (by omega)
              have fin : ∀ r, Ev (fun k => if how = 4 then ((marigraphref1_Op.f k 47 (fdX how xs x.f0 x.f1).1 (fdX how xs x.f0 x.f1).2.1 ((x :: xs).length : Int) 1).bind fun bt231 => (some (bt231.1, bt231.2.1, bt231.2.2))) else (some ((fdX how xs x.f0 x.f1).1, (fdX how xs x.f0 x.f1).2.1, 0))) r → Ev (fun k => marigraphref20_Do.j0 k how (x :: xs) false) r := by
                intro r h
                refine th r (f2 z r (evDown ?_))
                simp only [marigraphref20_Do.l1, if_neg (show ¬ ((x :: xs).length : Int) < ((x :: xs).length : Int) by omega)]
                exact h
              by_cases h4 : how = 4
              · refine ⟨newQ ((fdX how xs x.f0 x.f1).1 * 1) ((fdX how xs x.f0 x.f1).2.1 * ((x :: xs).length : Int)), mine _ (Ev.bind e1 ?_), fin _ ?_⟩
                · simp only [if_pos z]
                  refine rest _ _ _ ?_
                  rw [if_neg hh.1, if_pos h4]
                  exact Div_tells rr r1
                · simp only [if_pos h4]
                  exact Ev.bind (rDiv_tells rr r1) (Ev.now _)
              · refine ⟨((fdX how xs x.f0 x.f1).1, (fdX how xs x.f0 x.f1).2.1, 0), mine _ (Ev.bind e1 ?_), fin _ ?_⟩
                · simp only [if_pos z]
                  refine rest _ _ _ ?_
                  rw [if_neg hh.1, if_neg h4]
                · simp only [if_neg h4]
                  exact Ev.now _
            · refine ⟨(0, 0, (fdX how xs x.f0 x.f1).2.2), mine _ (Ev.bind e1 ?_), th _ (f1 z)⟩
              simp only [if_neg z]
              exact Ev.now _
structure Ok (x : S31) : Prop where
  rt : Rt x.f1.f0 x.f1.f1
  lo : -60 ≤ x.f1.f0
  hi : x.f1.f0 ≤ 60
  dd : x.f1.f1 ≤ 12
structure Smp (l : List S31) : Prop where
  len : l.length ≤ 30
  ok : ∀ j : Nat, j < l.length → Ok (at_ l j)
  t0 : ∀ j : Nat, j < l.length → 0 ≤ (at_ l j).f0 ∧ (at_ l j).f0 ≤ 40 * j
  up : ∀ j : Nat, j < l.length → 0 < j → (at_ l (j - 1)).f0 < (at_ l j).f0
theorem at_left {l : List S31} {x : S31} {j : Nat} (h : j < l.length) : at_ (l ++ [x]) j = at_ l j := by
  unfold at_; rw [List.getD_eq_getElem?_getD, List.getD_eq_getElem?_getD, List.getElem?_append_left h]
theorem at_last {l : List S31} {x : S31} : at_ (l ++ [x]) l.length = x := by
  unfold at_; rw [List.getD_eq_getElem?_getD, List.getElem?_append_right (Nat.le_refl _), Nat.sub_self]; rfl
theorem Smp.snoc {l : List S31} (h : Smp l) (hl : l.length < 30) {t : Int} {n d : Int} (hok : Ok ⟨t, ⟨n, d⟩⟩) (t0 : 0 ≤ t) (t1 : t ≤ 40 * l.length) (t2 : ∀ j : Nat, j < l.length → (at_ l j).f0 < t) : Smp (l ++ [⟨t, ⟨n, d⟩⟩]) := by
  have hlen : (l ++ [(⟨t, ⟨n, d⟩⟩ : S31)]).length = l.length + 1 := by rw [List.length_append]; rfl
  refine ⟨by omega, fun j hj => ?_, fun j hj => ?_, fun j hj h0 => ?_⟩
  · by_cases hlt : j < l.length
    · rw [at_left hlt]; exact h.ok j hlt
    · obtain rfl : j = l.length := by omega
      rw [at_last]; exact hok
  · by_cases hlt : j < l.length
    · rw [at_left hlt]; exact h.t0 j hlt
    · obtain rfl : j = l.length := by omega
      rw [at_last]; exact ⟨t0, t1⟩
  · by_cases hlt : j < l.length
    · rw [at_left hlt, at_left (by omega)]; exact h.up j hlt h0
    · obtain rfl : j = l.length := by omega
      rw [at_last, at_left (by omega)]; exact t2 _ (by omega)
theorem rdI_mem {l : List Int} {j : Nat} (h : j < l.length) : rd l (j : Int) ∈ l := by
  unfold rd
  rw [Int.toNat_natCast, List.getD_eq_getElem?_getD, List.getElem?_eq_getElem h]
  exact List.getElem_mem h
theorem samples_loop {xs ys : List Int} (hx : ∀ x ∈ xs, I64 x) (hy : ∀ y ∈ ys, I64 y) : ∀ (n i : Nat) (l : List S31) (t : Int), 30 - i = n → l.length = i → i ≤ 30 → Smp l → 0 ≤ t → t ≤ 40 * i → (∀ j : Nat, j < l.length → (at_ l j).f0 < t) →
    ∃ m, Smp m ∧ Ev (fun K => marigraphkeep_Samples.l0 K xs ys 30 l t (i : Int)) m := by
  intro n
  induction n with
  | zero =>
    intro i l t hn hl hi h t0 t1 t2
    have hj : Ev (fun K => marigraphkeep_Samples.j1 K xs ys 30 l t (i : Int) false) l := by
      refine Ev.step (f := fun _ => some l) (fun K => ?_) (Ev.now _)
      simp only [marigraphkeep_Samples.j1]
      rw [if_neg (by decide)]
    refine ⟨l, h, Ev.step (fun K => ?_) hj⟩
    simp only [marigraphkeep_Samples.l0]
    by_cases c : (i : Int) < (xs.length : Int)
    · rw [if_pos c, decide_eq_false (by omega)]
    · rw [if_neg c]
  | succ n ih =>
    intro i l t hn hl hi h t0 t1 t2
    by_cases c : i < xs.length
    · obtain ⟨r, hr, r1, r2, _⟩ := within_ev (lo := 1) (hi := 40) (by omega) (by omega) (by omega) (by omega) (hx _ (rdI_mem c))
      have e1 : wrap64 (t + r) = t + r := wrap64_id ⟨by omega, by omega⟩
      have e2 : wrap64 ((i : Int) + 1) = ((i + 1 : Nat) : Int) := wrap_succ (n := 30) (by omega) (by omega)
      have hnext : ∀ N D : Int, Rt N D → -60 ≤ N → N ≤ 60 → D ≤ 12 → ∃ m, Smp m ∧ Ev (fun K => marigraphkeep_Samples.l0 K xs ys 30 (l ++ [(⟨t, (⟨N, D⟩ : S29)⟩ : S31)]) (t + r) ((i + 1 : Nat) : Int)) m := by
        intro N D h1 h2 h3 h4
        have hlen : (l ++ [(⟨t, (⟨N, D⟩ : S29)⟩ : S31)]).length = l.length + 1 := by rw [List.length_append]; rfl
        refine ih (i + 1) _ (t + r) (by omega) (by omega) (by omega) (h.snoc (by omega) ⟨h1, h2, h3, h4⟩ t0 (by omega) t2) (by omega) (by omega) (fun j hj => ?_)
        by_cases hlt : j < l.length
        · rw [at_left hlt]; have := t2 j hlt; omega
        · obtain rfl : j = l.length := by omega
          rw [at_last]; show t < t + r; omega
      have hstep : ∀ m, Ev (fun K => marigraphkeep_Samples.j1 K xs ys 30 l t (i : Int) true) m → Ev (fun K => marigraphkeep_Samples.l0 K xs ys 30 l t (i : Int)) m := by
        intro m hm
        refine Ev.step (fun K => ?_) hm
        simp only [marigraphkeep_Samples.l0]
        rw [if_pos (by omega), decide_eq_true (by omega)]
      have hz : l.length < 5864062014805 := by omega
      by_cases cy : i < ys.length
      · have hw : I64 (wrap64 (1 + (Int.tmod (wrap64 ((Int.tmod (rd ys (i : Int)) 5) * (rd ys (i : Int)))) 5))) := by unfold I64 wrap64; omega
        obtain ⟨N, D, hk, k1, k2, k3, k4, k5⟩ := keep_tells (hy _ (rdI_mem cy)) hw
        obtain ⟨m, hm, he⟩ := hnext N D k1 k2 k3 k5
        refine ⟨m, hm, hstep m ?_⟩
        refine Ev.step (f := fun K => (marigraphkeep_Rat.f K (rd ys (i : Int)) (wrap64 (1 + (Int.tmod (wrap64 ((Int.tmod (rd ys (i : Int)) 5) * (rd ys (i : Int)))) 5)))).bind fun bt105 => ((marigraphbook_Within.f K (rd xs (i : Int)) 1 40).bind fun t111 => (marigraphkeep_Samples.l0 K xs ys 30 (l ++ [(⟨t, (⟨bt105.1, bt105.2⟩ : S29)⟩ : S31)]) (wrap64 (t + t111)) ((i + 1 : Nat) : Int)))) (fun K => ?_) ?_
        · simp only [marigraphkeep_Samples.j1]
          rw [if_pos trivial, if_pos (by omega), if_pos (by omega)]
          simp only [if_pos hz, if_pos (show (i : Int) < (xs.length : Int) by omega), e2]
        · refine Ev.bind hk (Ev.bind hr ?_)
          simp only [e1]
          exact he
      · obtain ⟨N, D, hk, k1, k2, k3, k4, k5⟩ := keep_tells (x := 0) (y := 1 + ((((0 : Int) % 5) * 0) % 5)) ⟨by decide, by decide⟩ ⟨by decide, by decide⟩
        obtain ⟨m, hm, he⟩ := hnext N D k1 k2 k3 k5
        refine ⟨m, hm, hstep m ?_⟩
        refine Ev.step (f := fun K => (marigraphkeep_Rat.f K 0 (1 + ((((0 : Int) % 5) * 0) % 5))).bind fun bt105 => ((marigraphbook_Within.f K (rd xs (i : Int)) 1 40).bind fun t111 => (marigraphkeep_Samples.l0 K xs ys 30 (l ++ [(⟨t, (⟨bt105.1, bt105.2⟩ : S29)⟩ : S31)]) (wrap64 (t + t111)) ((i + 1 : Nat) : Int)))) (fun K => ?_) ?_
        · simp only [marigraphkeep_Samples.j1]
          rw [if_pos trivial, if_neg (by omega)]
          simp only [if_pos hz, if_pos (show 0 ≤ (i : Int) by omega), if_pos (show (i : Int) < (xs.length : Int) by omega), e2]
        · refine Ev.bind hk (Ev.bind hr ?_)
          simp only [e1]
          exact he
    · have hj : Ev (fun K => marigraphkeep_Samples.j1 K xs ys 30 l t (i : Int) false) l := by
        refine Ev.step (f := fun _ => some l) (fun K => ?_) (Ev.now _)
        simp only [marigraphkeep_Samples.j1]
        rw [if_neg (by decide)]
      refine ⟨l, h, Ev.step (fun K => ?_) hj⟩
      simp only [marigraphkeep_Samples.l0]
      rw [if_neg (by omega)]
theorem samples_tells {xs ys : List Int} (hx : ∀ x ∈ xs, I64 x) (hy : ∀ y ∈ ys, I64 y) : ∃ m, Smp m ∧ Ev (fun K => marigraphkeep_Samples.f K xs ys 30) m :=
  samples_loop hx hy 30 0 [] 0 rfl rfl (by decide) ⟨by decide, fun j hj => absurd hj (Nat.not_lt_zero _), fun j hj => absurd hj (Nat.not_lt_zero _), fun j hj => absurd hj (Nat.not_lt_zero _)⟩ (Int.le_refl _) (by decide) (fun j hj => absurd hj (Nat.not_lt_zero _))
/-! ### buckets, as lists -/
/-- Where a bucket begins. -/
def bkt (e t : Int) : Int := t - Int.tmod t e
theorem bkt_low {e t : Int} (he : 1 ≤ e) (ht : 0 ≤ t) : 0 ≤ bkt e t ∧ bkt e t ≤ t ∧ t < bkt e t + e := by
  unfold bkt
  have h1 := Int.tmod_lt_of_pos t (show 0 < e by omega)
  have h2 := Int.tmod_nonneg e ht
  have h3 : Int.tmod t e ≤ t := by
    rw [Int.tmod_eq_emod_of_nonneg ht]
    have q1 := Int.emod_add_mul_ediv t e
    have q2 := Int.mul_nonneg (show 0 ≤ e by omega) (Int.ediv_nonneg ht (show 0 ≤ e by omega))
    omega
  omega
theorem bkt_dvd {e t : Int} : e ∣ bkt e t := by
  unfold bkt
  exact Int.dvd_self_sub_tmod
theorem bkt_mono {e s t : Int} (he : 1 ≤ e) (hs : 0 ≤ s) (hst : s ≤ t) : bkt e s ≤ bkt e t := by
  obtain ⟨a0, a1, a2⟩ := bkt_low he hs
  obtain ⟨b0, b1, b2⟩ := bkt_low he (show 0 ≤ t by omega)
  obtain ⟨m, hm⟩ := bkt_dvd (e := e) (t := s)
  obtain ⟨n, hn⟩ := bkt_dvd (e := e) (t := t)
  rw [hm] at a0 a1 a2 ⊢
  rw [hn] at b0 b1 b2 ⊢
  by_cases h : m ≤ n
  · exact Int.mul_le_mul_of_nonneg_left h (by omega)
  · exfalso
    have : e * (n + 1) ≤ e * m := Int.mul_le_mul_of_nonneg_left (by omega) (by omega)
    rw [Int.mul_add] at this
    omega
/-- A number goes into its bucket: the first one that isn't ahead of it; else into a new one at the end. -/
def upd (a : Int) (v : S29) : List S53 → List S53
  | [] => [⟨a, [v]⟩]
  | g :: r => if g.f0 < a then g :: upd a v r else ⟨g.f0, g.f1 ++ [v]⟩ :: r
/-- So many buckets are ahead of it. -/
def pos (a : Int) : List S53 → Nat
  | [] => 0
  | g :: r => if g.f0 < a then pos a r + 1 else 0
def gat (l : List S53) (j : Nat) : S53 := l.getD j z53
theorem pos_le (a : Int) : ∀ l, pos a l ≤ l.length
  | [] => Nat.le_refl _
  | g :: r => by
    unfold pos
    split
    · have := pos_le a r; rw [List.length_cons]; omega
    · exact Nat.zero_le _
theorem pos_ahead (a : Int) : ∀ (l : List S53) (j : Nat), j < pos a l → (gat l j).f0 < a
  | [], j, h => absurd h (Nat.not_lt_zero _)
  | g :: r, 0, h => by
    unfold pos at h
    split at h
    · assumption
    · exact absurd h (Nat.not_lt_zero _)
  | g :: r, j + 1, h => by
    unfold pos at h
    split at h
    · exact pos_ahead a r j (by omega)
    · exact absurd h (Nat.not_lt_zero _)
theorem pos_there (a : Int) : ∀ (l : List S53), pos a l < l.length → ¬ (gat l (pos a l)).f0 < a
  | [], h => absurd h (Nat.not_lt_zero _)
  | g :: r, h => by
    unfold pos at h ⊢
    by_cases hg : g.f0 < a
    · rw [if_pos hg] at h ⊢
      exact pos_there a r (by rw [List.length_cons] at h; omega)
    · rw [if_neg hg]
      exact hg
theorem pos_ge {a : Int} : ∀ {l : List S53} {i : Nat}, i ≤ l.length → (∀ j, j < i → (gat l j).f0 < a) → i ≤ pos a l
  | [], i, h, _ => h
  | g :: r, 0, _, _ => Nat.zero_le _
  | g :: r, i + 1, h, hj => by
    have h0 : g.f0 < a := hj 0 (by omega)
    unfold pos
    rw [if_pos h0]
    have := pos_ge (l := r) (i := i) (by rw [List.length_cons] at h; omega) (fun j hjj => hj (j + 1) (by omega))
    omega
theorem upd_new {a : Int} {v : S29} : ∀ {l : List S53}, pos a l = l.length → upd a v l = l ++ [⟨a, [v]⟩]
  | [], _ => rfl
  | g :: r, h => by
    unfold pos at h
    by_cases hg : g.f0 < a
    · rw [if_pos hg] at h
      unfold upd
      rw [if_pos hg, upd_new (l := r) (by rw [List.length_cons] at h; omega)]
      rfl
    · rw [if_neg hg] at h
      simp at h
theorem upd_set {a : Int} {v : S29} : ∀ {l : List S53}, pos a l < l.length → upd a v l = l.set (pos a l) ⟨(gat l (pos a l)).f0, (gat l (pos a l)).f1 ++ [v]⟩
  | [], h => absurd h (Nat.not_lt_zero _)
  | g :: r, h => by
    unfold pos at h ⊢
    unfold upd
    by_cases hg : g.f0 < a
    · simp only [if_pos hg] at h ⊢
      rw [upd_set (l := r) (by rw [List.length_cons] at h; omega)]
      rfl
    · simp only [if_neg hg]
      rfl
theorem upd_ahead {a : Int} {v : S29} : ∀ (l : List S53) (j : Nat), j < pos a l → gat (upd a v l) j = gat l j
  | [], j, h => absurd h (Nat.not_lt_zero _)
  | g :: r, j, h => by
    unfold pos at h
    by_cases hg : g.f0 < a
    · rw [if_pos hg] at h
      unfold upd
      rw [if_pos hg]
      cases j with
      | zero => rfl
      | succ j => exact upd_ahead r j (by omega)
    · rw [if_neg hg] at h
      exact absurd h (Nat.not_lt_zero _)
theorem upd_len (a : Int) (v : S29) : ∀ l, (upd a v l).length ≤ l.length + 1
  | [] => Nat.le_refl _
  | g :: r => by
    unfold upd
    split
    · have := upd_len a v r; rw [List.length_cons, List.length_cons]; omega
    · rw [List.length_cons, List.length_cons]; omega
theorem upd_all {p : S29 → Prop} {n : Nat} {a : Int} {v : S29} (hv : p v) : ∀ {l : List S53}, (∀ g ∈ l, g.f1.length ≤ n ∧ ∀ x ∈ g.f1, p x) → ∀ g ∈ upd a v l, g.f1.length ≤ n + 1 ∧ ∀ x ∈ g.f1, p x
  | [], _, g, hg => by
    obtain rfl := List.mem_singleton.1 hg
    exact ⟨by simp, fun x hx => by obtain rfl := List.mem_singleton.1 hx; exact hv⟩
  | h :: r, hl, g, hg => by
    unfold upd at hg
    split at hg
    · rcases List.mem_cons.1 hg with rfl | hg
      · have := hl g (List.mem_cons_self ..)
        exact ⟨by omega, this.2⟩
      · exact upd_all hv (fun y hy => hl y (List.mem_cons_of_mem _ hy)) g hg
    · rcases List.mem_cons.1 hg with rfl | hg
      · have := hl h (List.mem_cons_self ..)
        refine ⟨by rw [List.length_append, List.length_singleton]; omega, fun x hx => ?_⟩
        rcases List.mem_append.1 hx with hx | hx
        · exact this.2 x hx
        · obtain rfl := List.mem_singleton.1 hx; exact hv
      · have := hl g (List.mem_cons_of_mem _ hg)
        exact ⟨by omega, this.2⟩
theorem upd_pre {a : Int} {v : S29} {t : List S53} : ∀ {p : List S53}, (∀ g ∈ p, g.f0 < a) → upd a v (p ++ t) = p ++ upd a v t
  | [], _ => rfl
  | g :: r, h => by
    rw [List.cons_append, List.cons_append]
    conv => lhs; unfold upd
    rw [if_pos (h g (List.mem_cons_self ..)), upd_pre (fun y hy => h y (List.mem_cons_of_mem _ hy))]
/-- Is a sample's time between the ends? -/
def inR (a b : Int) (x : S31) : Prop := a ≤ x.f0 ∧ x.f0 ≤ b
instance (a b : Int) (x : S31) : Decidable (inR a b x) := by unfold inR; infer_instance
/-- The numbers of samples, each in its bucket. -/
def feed (a b e : Int) : List S31 → List S53 → List S53
  | [], o => o
  | x :: r, o => if inR a b x then feed a b e r (upd (bkt e x.f0) x.f1 o) else feed a b e r o
/-- Times that rise, none below nought. -/
inductive Ris : List S31 → Prop
  | nil : Ris []
  | cons {x : S31} {r : List S31} : 0 ≤ x.f0 → (∀ y ∈ r, x.f0 < y.f0) → Ris r → Ris (x :: r)
theorem feed_pre {a b e : Int} {p : List S53} : ∀ {l : List S31} {t : List S53}, (∀ y ∈ l, inR a b y → ∀ g ∈ p, g.f0 < bkt e y.f0) → feed a b e l (p ++ t) = p ++ feed a b e l t
  | [], _, _ => rfl
  | x :: r, t, h => by
    unfold feed
    split
    · rename_i hx
      rw [upd_pre (h x (List.mem_cons_self ..) hx), feed_pre (fun y hy => h y (List.mem_cons_of_mem _ hy))]
    · rw [feed_pre (fun y hy => h y (List.mem_cons_of_mem _ hy))]
/-- The samples of one bucket at the row's head; what stands behind them. -/
def runV (b e k : Int) : List S31 → List S29
  | [] => []
  | x :: r => if x.f0 ≤ b ∧ bkt e x.f0 = k then x.f1 :: runV b e k r else []
def runR (b e k : Int) : List S31 → List S31
  | [] => []
  | x :: r => if x.f0 ≤ b ∧ bkt e x.f0 = k then runR b e k r else x :: r
theorem runR_len (b e k : Int) : ∀ l, (runR b e k l).length ≤ l.length
  | [] => Nat.le_refl _
  | x :: r => by
    unfold runR
    split
    · have := runR_len b e k r; rw [List.length_cons]; omega
    · exact Nat.le_refl _
theorem runR_ris {b e k : Int} : ∀ {l : List S31}, Ris l → Ris (runR b e k l)
  | [], _ => .nil
  | x :: r, h => by
    unfold runR
    split
    · cases h with
      | cons _ _ h => exact runR_ris h
    · exact h
/-- Behind a bucket's samples all buckets are later. -/
theorem runR_later {a b e k : Int} (he : 1 ≤ e) : ∀ {l : List S31}, Ris l → (∀ y ∈ l, inR a b y → k ≤ bkt e y.f0) → (∀ y ∈ l, a ≤ y.f0) → ∀ y ∈ runR b e k l, inR a b y → k < bkt e y.f0
  | [], _, _, _, _, h, _ => by cases h
  | x :: r, hr, hk, ha, y, hy, hi => by
    cases hr with
    | cons h0 h1 h2 =>
      unfold runR at hy
      split at hy
      · exact runR_later he h2 (fun z hz => hk z (List.mem_cons_of_mem _ hz)) (fun z hz => ha z (List.mem_cons_of_mem _ hz)) y hy hi
      · rename_i hx
        by_cases hb : x.f0 ≤ b
        · have hkx := hk x (List.mem_cons_self ..) ⟨ha x (List.mem_cons_self ..), hb⟩
          have hne : bkt e x.f0 ≠ k := fun h => hx ⟨hb, h⟩
          rcases List.mem_cons.1 hy with rfl | hy
          · omega
          · have := bkt_mono he h0 (Int.le_of_lt (h1 y hy))
            omega
        · exfalso
          rcases List.mem_cons.1 hy with rfl | hy
          · exact hb hi.2
          · have := h1 y hy; have := hi.2; omega
/-- A bucket takes all that stand in it; the rest goes behind. -/
theorem feed_run {a b e k : Int} (he : 1 ≤ e) : ∀ {l : List S31} {vs : List S29} {t : List S53}, Ris l → (∀ y ∈ l, inR a b y → k ≤ bkt e y.f0) → (∀ y ∈ l, a ≤ y.f0) →
    feed a b e l (⟨k, vs⟩ :: t) = ⟨k, vs ++ runV b e k l⟩ :: feed a b e (runR b e k l) t
  | [], vs, t, _, _, _ => by simp [feed, runV, runR]
  | x :: r, vs, t, hr, hk, ha => by
    by_cases hx : x.f0 ≤ b ∧ bkt e x.f0 = k
    · have hin : inR a b x := ⟨ha x (List.mem_cons_self ..), hx.1⟩
      cases hr with
      | cons h0 h1 h2 =>
        have := feed_run he (vs := vs ++ [x.f1]) (t := t) h2 (fun z hz => hk z (List.mem_cons_of_mem _ hz)) (fun z hz => ha z (List.mem_cons_of_mem _ hz))
        have e1 : feed a b e (x :: r) (⟨k, vs⟩ :: t) = feed a b e r (⟨k, vs ++ [x.f1]⟩ :: t) := by
          conv => lhs; unfold feed
          rw [if_pos hin]
          conv => lhs; unfold upd
          rw [if_neg (show ¬ (⟨k, vs⟩ : S53).f0 < bkt e x.f0 by rw [hx.2]; exact Int.lt_irrefl _)]
        have e2 : runV b e k (x :: r) = x.f1 :: runV b e k r := by conv => lhs; unfold runV
                                                                   rw [if_pos hx]
        have e3 : runR b e k (x :: r) = runR b e k r := by conv => lhs; unfold runR
                                                           rw [if_pos hx]
        rw [e1, e2, e3, this, List.append_assoc]
        rfl
    · have hl := runR_later he hr hk ha
      have e1 : runR b e k (x :: r) = x :: r := by unfold runR; rw [if_neg hx]
      have e2 : runV b e k (x :: r) = [] := by unfold runV; rw [if_neg hx]
      rw [e1] at hl
      rw [e1, e2, List.append_nil]
      exact feed_pre (p := [⟨k, vs⟩]) (fun y hy hi g hg => by obtain rfl := List.mem_singleton.1 hg; exact hl y hy hi)
/-- Empty buckets from a place on, up to another one. -/
def zerosN (e : Int) : Nat → Int → List S53
  | 0, _ => []
  | n + 1, x => ⟨x, []⟩ :: zerosN e n (x + e)
def cntZ (e lo hi : Int) : Nat := if hi < lo then 0 else ((hi - lo) / e + 1).toNat
def zeros (e lo hi : Int) : List S53 := zerosN e (cntZ e lo hi) lo
theorem cntZ_none {e lo hi : Int} (h : hi < lo) : cntZ e lo hi = 0 := by unfold cntZ; rw [if_pos h]
theorem cntZ_some {e lo hi : Int} (he : 1 ≤ e) (h : lo ≤ hi) : cntZ e lo hi = cntZ e (lo + e) hi + 1 := by
  unfold cntZ
  rw [if_neg (by omega)]
  by_cases h2 : hi < lo + e
  · rw [if_pos h2, Int.ediv_eq_zero_of_lt (by omega) (by omega)]; rfl
  · rw [if_neg h2]
    have e1 : hi - lo = (hi - (lo + e)) + e * 1 := by omega
    have h3 : 0 ≤ (hi - (lo + e)) / e := Int.ediv_nonneg (by omega) (by omega)
    rw [e1, Int.add_mul_ediv_left _ _ (by omega)]
    omega
theorem zeros_none {e lo hi : Int} (h : hi < lo) : zeros e lo hi = [] := by unfold zeros; rw [cntZ_none h]; rfl
theorem zeros_some {e lo hi : Int} (he : 1 ≤ e) (h : lo ≤ hi) : zeros e lo hi = ⟨lo, []⟩ :: zeros e (lo + e) hi := by unfold zeros; rw [cntZ_some he h]; rfl
theorem zeros_len {e lo hi : Int} : (zeros e lo hi).length = cntZ e lo hi := by
  unfold zeros
  generalize cntZ e lo hi = n
  induction n generalizing lo with
  | zero => rfl
  | succ n ih => unfold zerosN; rw [List.length_cons, ih]
theorem zeros_mem {e : Int} (he : 1 ≤ e) : ∀ (n : Nat) {lo hi : Int}, cntZ e lo hi = n → ∀ g ∈ zeros e lo hi, lo ≤ g.f0 ∧ g.f0 ≤ hi ∧ g.f1 = []
  | 0, lo, hi, h, g, hg => by
    have := zeros_len (e := e) (lo := lo) (hi := hi)
    rw [h] at this
    rw [List.length_eq_zero_iff.1 this] at hg
    cases hg
  | n + 1, lo, hi, h, g, hg => by
    by_cases hl : lo ≤ hi
    · rw [zeros_some he hl] at hg
      rw [cntZ_some he hl] at h
      rcases List.mem_cons.1 hg with rfl | hg
      · exact ⟨Int.le_refl _, hl, rfl⟩
      · have := zeros_mem he n (by omega) g hg
        exact ⟨by omega, this.2⟩
    · rw [cntZ_none (by omega)] at h; cases h
/-- Cut where a bucket stands. -/
theorem zeros_cut {e k hi : Int} (he : 1 ≤ e) (hk : k ≤ hi) : ∀ (n : Nat) {lo : Int}, lo + e * (n : Int) = k → zeros e lo hi = zeros e lo (k - 1) ++ ⟨k, []⟩ :: zeros e (k + e) hi
  | 0, lo, h => by
    obtain rfl : lo = k := by simpa using h
    rw [zeros_none (show lo - 1 < lo by omega), zeros_some he hk]
    rfl
  | n + 1, lo, h => by
    have h1 : e * ((n + 1 : Nat) : Int) = e * (n : Int) + e := by rw [Int.natCast_add, Int.mul_add]; simp
    have h2 : 0 ≤ e * (n : Int) := Int.mul_nonneg (by omega) (by omega)
    have := zeros_cut he hk n (lo := lo + e) (by omega)
    rw [zeros_some he (show lo ≤ hi by omega), zeros_some he (show lo ≤ k - 1 by omega), this]
    rfl
/-- As the document has it: bucket by bucket, the empty ones between them. -/
def grp (a b e : Int) (zero : Bool) (last : Int) : Nat → List S31 → Int → List S53
  | 0, _, _ => []
  | _ + 1, [], next => if zero then zeros e next last else []
  | n + 1, x :: r, next => if inR a b x then (if zero then zeros e next (bkt e x.f0 - 1) else []) ++ ⟨bkt e x.f0, x.f1 :: runV b e (bkt e x.f0) r⟩ :: grp a b e zero last n (runR b e (bkt e x.f0) r) (bkt e x.f0 + e)
    else grp a b e zero last n r next
theorem feed_grp {a b e last : Int} (he : 1 ≤ e) (hlast : last = bkt e b) (zero : Bool) : ∀ (n : Nat) {l : List S31} {next : Int}, l.length < n → Ris l → e ∣ next → (∀ y ∈ l, inR a b y → next ≤ bkt e y.f0) →
    feed a b e l (if zero then zeros e next last else []) = grp a b e zero last n l next
  | 0, _, _, h, _, _, _ => absurd h (Nat.not_lt_zero _)
  | n + 1, [], next, _, _, _, _ => by simp [feed, grp]
  | n + 1, x :: r, next, hn, hr, hd, hk => by
    have hr' := hr
    cases hr with
    | cons h0 h1 h2 =>
      unfold feed grp
      by_cases hx : inR a b x
      · rw [if_pos hx, if_pos hx]
        have hkx := hk x (List.mem_cons_self ..) hx
        have hin : ∀ y ∈ r, inR a b y → bkt e x.f0 ≤ bkt e y.f0 := fun y hy _ => bkt_mono he h0 (Int.le_of_lt (h1 y hy))
        have ha : ∀ y ∈ r, a ≤ y.f0 := fun y hy => by have := h1 y hy; have := hx.1; omega
        have hlr := runR_later he h2 hin ha
        have hlen := runR_len b e (bkt e x.f0) r
        have hnx : ∀ y ∈ runR b e (bkt e x.f0) r, inR a b y → bkt e x.f0 + e ≤ bkt e y.f0 := fun y hy hi => by
          have hlt := hlr y hy hi
          obtain ⟨p, hp⟩ := bkt_dvd (e := e) (t := x.f0)
          obtain ⟨q, hq⟩ := bkt_dvd (e := e) (t := y.f0)
          rw [hp, hq] at hlt ⊢
          have hpq : p < q := Int.lt_of_mul_lt_mul_left hlt (by omega)
          have : e * (p + 1) ≤ e * q := Int.mul_le_mul_of_nonneg_left (by omega) (by omega)
          rw [Int.mul_add] at this
          omega
        have ih := feed_grp he hlast zero n (l := runR b e (bkt e x.f0) r) (next := bkt e x.f0 + e) (by rw [List.length_cons] at hn; omega) (runR_ris h2) (Int.dvd_add bkt_dvd (Int.dvd_refl e)) hnx
        have hpre : ∀ g ∈ zeros e next (bkt e x.f0 - 1), g.f0 < bkt e x.f0 := fun g hg => by have := zeros_mem he _ rfl g hg; omega
        have one : ∀ t : List S53, feed a b e r (⟨bkt e x.f0, [x.f1]⟩ :: t) = ⟨bkt e x.f0, x.f1 :: runV b e (bkt e x.f0) r⟩ :: feed a b e (runR b e (bkt e x.f0) r) t := fun t => feed_run he h2 hin ha
        cases zero with
        | false =>
          simp only [Bool.false_eq_true, if_false] at ih ⊢
          rw [List.nil_append]
          show feed a b e r [⟨bkt e x.f0, [x.f1]⟩] = _
          rw [one, ih]
        | true =>
          simp only [if_true] at ih ⊢
          have hkl : bkt e x.f0 ≤ last := by rw [hlast]; exact bkt_mono he h0 hx.2
          obtain ⟨m, hm⟩ : ∃ m : Nat, next + e * (m : Int) = bkt e x.f0 := by
            obtain ⟨p, hp⟩ := hd
            obtain ⟨q, hq⟩ := bkt_dvd (e := e) (t := x.f0)
            rw [hp, hq] at hkx ⊢
            have hpq : p ≤ q := Int.le_of_mul_le_mul_left hkx (by omega)
            refine ⟨(q - p).toNat, ?_⟩
            rw [Int.toNat_of_nonneg (by omega), ← Int.mul_add]
            congr 1
            omega
          rw [zeros_cut he hkl m hm, upd_pre hpre]
          have e3 : upd (bkt e x.f0) x.f1 (⟨bkt e x.f0, []⟩ :: zeros e (bkt e x.f0 + e) last) = ⟨bkt e x.f0, [x.f1]⟩ :: zeros e (bkt e x.f0 + e) last := by
            unfold upd
            rw [if_neg (Int.lt_irrefl _)]
            rfl
          rw [e3, feed_pre (fun y hy hi g hg => by have := hpre g hg; have := hin y hy hi; omega), one, ih]
      · rw [if_neg hx, if_neg hx]
        exact feed_grp he hlast zero n (by rw [List.length_cons] at hn; omega) h2 hd (fun y hy => hk y (List.mem_cons_of_mem _ hy))
/-! ### the loops of down -/
theorem feed_not {a b e : Int} {x : S31} {r : List S31} {o : List S53} (h : ¬ inR a b x) : feed a b e (x :: r) o = feed a b e r o := by
  conv => lhs; unfold feed
  rw [if_neg h]
theorem feed_in {a b e : Int} {x : S31} {r : List S31} {o : List S53} (h : inR a b x) : feed a b e (x :: r) o = feed a b e r (upd (bkt e x.f0) x.f1 o) := by
  conv => lhs; unfold feed
  rw [if_pos h]
theorem rd_gat (l : List S53) (j : Nat) : rd_T53 l (j : Int) = gat l j := by cases l <;> rfl
theorem at_drop {l : List S31} {j : Nat} (h : j < l.length) : l.drop j = at_ l j :: l.drop (j + 1) := by
  rw [List.drop_eq_getElem_cons h]
  congr 1
  unfold at_
  rw [List.getD_eq_getElem?_getD, List.getElem?_eq_getElem h]
  rfl
theorem gat_drop {l : List S53} {j : Nat} (h : j < l.length) : l.drop j = gat l j :: l.drop (j + 1) := by
  rw [List.drop_eq_getElem_cons h]
  congr 1
  unfold gat
  rw [List.getD_eq_getElem?_getD, List.getElem?_eq_getElem h]
  rfl
theorem gat_mem {l : List S53} {j : Nat} (h : j < l.length) : gat l j ∈ l := by
  unfold gat
  rw [List.getD_eq_getElem?_getD, List.getElem?_eq_getElem h]
  exact List.getElem_mem h
theorem gat_left {l : List S53} {x : S53} : gat (l ++ [x]) l.length = x := by
  unfold gat
  rw [List.getD_eq_getElem?_getD, List.getElem?_append_right (Nat.le_refl _), Nat.sub_self]
  rfl
theorem wj {j : Nat} (h : j < 4611686018427387904) : wrap64 ((j : Int) + 1) = ((j + 1 : Nat) : Int) := by unfold wrap64; omega
theorem bucket_tells {t e : Int} (ht : 0 ≤ t) (h2 : t ≤ 4294967295) (he : 1 ≤ e) : down_Bucket.f t e = some (bkt e t) := by
  obtain ⟨a0, a1, a2⟩ := bkt_low he ht
  unfold down_Bucket.f
  rw [if_neg (by omega), if_neg (by omega), if_neg (by omega)]
  congr 1
  unfold bkt at a0 a1 a2 ⊢
  generalize Int.tmod t e = m at *
  unfold wrap64
  omega
theorem fill_loop {e hi : Int} (he : 1 ≤ e) (he2 : e ≤ 4294967295) (hh : hi ≤ 4294967295) : ∀ (n : Nat) (lo : Int) (o : List S53), 0 ≤ lo → cntZ e lo hi = n → o.length + n ≤ 100000 → Ev (fun k => down_fill.l0 k hi e true o lo) (o ++ zeros e lo hi) := by
  intro n
  induction n with
  | zero =>
    intro lo o h0 hn _
    have hlo : ¬ lo ≤ hi := fun h => by rw [cntZ_some he h] at hn; cases hn
    refine evDown ?_
    simp only [down_fill.l0, if_true, if_neg hlo]
    rw [zeros_none (by omega), List.append_nil]
    exact Ev.now _
  | succ n ih =>
    intro lo o h0 hn hb
    have hlo : lo ≤ hi := by
      by_cases h : lo ≤ hi
      · exact h
      · rw [cntZ_none (by omega)] at hn; cases hn
    rw [cntZ_some he hlo] at hn
    refine evDown ?_
    have hw : wrap64 (lo + e) = lo + e := by unfold wrap64; omega
    simp only [down_fill.l0, if_true, if_pos hlo, if_pos (show o.length < 4398046511104 by omega), hw]
    rw [zeros_some he hlo]
    have := ih (lo + e) (o ++ [⟨lo, []⟩]) (by omega) (by omega) (by rw [List.length_append, List.length_singleton]; omega)
    rw [List.append_assoc] at this
    exact this
theorem fill_tells {e lo hi : Int} (zero : Bool) (he : 1 ≤ e) (he2 : e ≤ 4294967295) (hh : hi ≤ 4294967295) (h0 : 0 ≤ lo) (hn : zero = true → cntZ e lo hi ≤ 50000) : Ev (fun k => down_fill.f k lo hi e zero) (if zero then zeros e lo hi else []) := by
  cases zero with
  | true => exact fill_loop he he2 hh _ lo [] h0 rfl (by have := hn rfl; simp only [List.length_nil]; omega)
  | false =>
    unfold down_fill.f
    refine evDown ?_
    simp only [down_fill.l0, Bool.false_eq_true, if_false]
    exact Ev.now _
theorem part_inner {a b e k2 : Int} {o : List S53} {l : List S31} {N i17 : Int} {t n d : Int} {R : List S53} (hol : o.length ≤ 100000) (hof : ∀ g ∈ o, g.f1.length ≤ 100000)
    (hR : Ev (fun k => down_part.l0 k a b e (upd k2 ⟨n, d⟩ o) (pos k2 o : Int) l N (wrap64 (i17 + 1))) R) : ∀ m i : Nat, pos k2 o - i = m → i ≤ pos k2 o → Ev (fun k => down_part.l1 k a b e o (i : Int) k2 l N i17 t n d) R := by
  have hp := pos_le k2 o
  intro m
  induction m with
  | zero =>
    intro i hi hle
    obtain rfl : i = pos k2 o := by omega
    refine evDown ?_
    by_cases hlt : pos k2 o < o.length
    · have hnot := pos_there k2 o hlt
      have hf := hof _ (gat_mem hlt)
      rw [upd_set hlt] at hR
      simp only [down_part.l1, if_pos (show ((pos k2 o : Nat) : Int) < (o.length : Int) by omega), if_pos (show 0 ≤ ((pos k2 o : Nat) : Int) by omega), rd_gat, if_neg hnot, if_neg (show ¬ ((pos k2 o : Nat) : Int) = (o.length : Int) by omega), if_pos (show (gat o (pos k2 o)).f1.length < 8796093022208 by omega), Int.toNat_natCast]
      exact hR
    · have he : pos k2 o = o.length := by omega
      rw [upd_new he] at hR
      have hg : gat (o ++ [(⟨k2, []⟩ : S53)]) (pos k2 o) = ⟨k2, []⟩ := by rw [he]; exact gat_left
      have hs : (o ++ [(⟨k2, []⟩ : S53)]).set (pos k2 o) ⟨k2, [] ++ [⟨n, d⟩]⟩ = o ++ [⟨k2, [⟨n, d⟩]⟩] := by
        rw [he, List.set_append_right _ _ (Nat.le_refl _), Nat.sub_self]
        rfl
      simp only [down_part.l1, if_neg (show ¬ ((pos k2 o : Nat) : Int) < (o.length : Int) by omega), if_pos (show ((pos k2 o : Nat) : Int) = (o.length : Int) by omega), if_pos (show o.length < 4398046511104 by omega), Option.bind_some, if_pos (show 0 ≤ ((pos k2 o : Nat) : Int) by omega), rd_gat, hg, Int.toNat_natCast, hs]
      rw [show (o ++ [(⟨k2, []⟩ : S53)]).length = o.length + 1 from by rw [List.length_append]; rfl]
      simp only [if_pos (show ((pos k2 o : Nat) : Int) < ((o.length + 1 : Nat) : Int) by omega), List.length_nil, if_pos (show 0 < 8796093022208 by omega)]
      exact hR
  | succ m ih =>
    intro i hi hle
    have hlt : i < pos k2 o := by omega
    have ha := pos_ahead k2 o i hlt
    refine evDown ?_
    simp only [down_part.l1, if_pos (show (i : Int) < (o.length : Int) by omega), if_pos (show 0 ≤ (i : Int) by omega), rd_gat, if_pos ha, wj (show i < 4611686018427387904 by omega)]
    exact ih (i + 1) (by omega) (by omega)
/-- Samples that may be, as a list. -/
structure Tms (l : List S31) : Prop where
  ris : Ris l
  low : ∀ x ∈ l, 0 ≤ x.f0 ∧ x.f0 ≤ 4294967295
  len : l.length ≤ 1000
theorem ris_drop : ∀ {l : List S31} (j : Nat), Ris l → Ris (l.drop j)
  | _, 0, h => h
  | [], j + 1, h => h
  | x :: r, j + 1, h => by cases h with | cons _ _ h => exact ris_drop (l := r) j h
theorem part_loop {a b e : Int} (he : 1 ≤ e) {l : List S31} (hl : Tms l) : ∀ (n j : Nat) (i : Nat) (o : List S53), l.length - j = n → j ≤ l.length → i ≤ o.length → o.length + n ≤ 100000 → (∀ g ∈ o, g.f1.length + n ≤ 100000) →
    (∀ y ∈ l.drop j, inR a b y → ∀ q, q < i → (gat o q).f0 < bkt e y.f0) → Ev (fun k => down_part.l0 k a b e o (i : Int) l (l.length : Int) (j : Int)) (feed a b e (l.drop j) o) := by
  have hn7 := hl.len
  intro n
  induction n with
  | zero =>
    intro j i o hj hle hi hb hg hq
    refine evDown ?_
    simp only [down_part.l0, if_neg (show ¬ (j : Int) < (l.length : Int) by omega)]
    rw [List.drop_of_length_le (by omega)]
    exact Ev.now _
  | succ n ih =>
    intro j i o hj hle hi hb hg hq
    have hlt : j < l.length := by omega
    have hd := at_drop hlt
    have hris : Ris (l.drop j) := ris_drop j hl.ris
    have hm : at_ l j ∈ l := by
      have : at_ l j ∈ l.drop j := by rw [hd]; exact List.mem_cons_self ..
      exact List.mem_of_mem_drop this
    obtain ⟨t0, t1⟩ := hl.low _ hm
    rw [hd] at hq hris ⊢
    have hj1 : ∀ (c : Bool) {R : List S53}, c = decide (¬ inR a b (at_ l j)) → (c = true → Ev (fun k => down_part.l0 k a b e o (i : Int) l (l.length : Int) ((j + 1 : Nat) : Int)) R) →
        (c = false → Ev (fun k => down_part.l0 k a b e (upd (bkt e (at_ l j).f0) (at_ l j).f1 o) (pos (bkt e (at_ l j).f0) o : Int) l (l.length : Int) ((j + 1 : Nat) : Int)) R) →
        Ev (fun k => down_part.j1 k a b e o (i : Int) l (l.length : Int) (j : Int) c (at_ l j).f0 (at_ l j).f1.f0 (at_ l j).f1.f1) R := by
      intro c R hc h1 h2
      refine evDown ?_
      cases c with
      | true =>
        simp only [down_part.j1, if_true, wj (show j < 4611686018427387904 by omega)]
        exact h1 rfl
      | false =>
        have hin : inR a b (at_ l j) := by
          have := of_decide_eq_false hc.symm
          exact Decidable.of_not_not this
        simp only [down_part.j1, Bool.false_eq_true, if_false, bucket_tells t0 t1 he, Option.bind_some]
        refine part_inner (by omega) (fun g hgm => by have := hg g hgm; omega) ?_ _ i rfl (pos_ge hi (hq _ (List.mem_cons_self ..) hin))
        rw [wj (show j < 4611686018427387904 by omega)]
        exact h2 rfl
    refine evDown ?_
    simp only [down_part.l0, if_pos (show (j : Int) < (l.length : Int) by omega), if_pos (show 0 ≤ (j : Int) by omega), rd_atN]
    have fin : ∀ c : Bool, c = decide (¬ inR a b (at_ l j)) → Ev (fun k => down_part.j1 k a b e o (i : Int) l (l.length : Int) (j : Int) c (at_ l j).f0 (at_ l j).f1.f0 (at_ l j).f1.f1) (feed a b e (at_ l j :: l.drop (j + 1)) o) := by
      intro c hc
      refine hj1 c hc (fun h => ?_) (fun h => ?_)
      · rw [h] at hc
        have hno := of_decide_eq_true hc.symm
        rw [feed_not hno]
        exact ih (j + 1) i o (by omega) (by omega) hi (by omega) (fun g hgm => by have := hg g hgm; omega) (fun y hy => hq y (List.mem_cons_of_mem _ hy))
      · rw [h] at hc
        have hin : inR a b (at_ l j) := Decidable.of_not_not (of_decide_eq_false hc.symm)
        rw [feed_in hin]
        have hul := upd_len (bkt e (at_ l j).f0) (at_ l j).f1 o
        have hpl := pos_le (bkt e (at_ l j).f0) o
        have hpu : pos (bkt e (at_ l j).f0) o ≤ (upd (bkt e (at_ l j).f0) (at_ l j).f1 o).length := by
          by_cases h : pos (bkt e (at_ l j).f0) o < o.length
          · rw [upd_set h, List.length_set]; omega
          · rw [upd_new (by omega), List.length_append]; omega
        refine ih (j + 1) _ _ (by omega) (by omega) hpu (by omega) (fun g hgm => ?_) (fun y hy hyi q hqp => ?_)
        · have := (upd_all (p := fun _ => True) (n := 100000 - (n + 1)) (a := bkt e (at_ l j).f0) (v := (at_ l j).f1) trivial (l := o) (fun g hgm => ⟨by have := hg g hgm; omega, fun _ _ => trivial⟩) g hgm).1
          have h0 : n + 1 ≤ 100000 := by omega
          omega
        · rw [upd_ahead o q hqp]
          have h1 := pos_ahead _ o q hqp
          cases hris with
          | cons g0 g1 g2 =>
            have := bkt_mono he t0 (Int.le_of_lt (g1 y hy))
            omega
    by_cases ha : (at_ l j).f0 < a
    · simp only [if_pos ha]
      exact fin true (decide_eq_true (show ¬ inR a b (at_ l j) from fun h => by have := h.1; omega)).symm
    · simp only [if_neg ha]
      refine fin _ ?_
      rw [decide_eq_decide]
      unfold inR
      omega
theorem part_tells {a b e : Int} (he : 1 ≤ e) {l : List S31} (hl : Tms l) {o : List S53} (ho : o.length ≤ 50000) (hof : ∀ g ∈ o, g.f1 = []) : Ev (fun k => down_part.f k l a b e o) (feed a b e l o) := by
  have hn7 := hl.len
  have := part_loop he hl (a := a) (b := b) l.length 0 0 o rfl (Nat.zero_le _) (Nat.zero_le _) (by omega) (fun g hg => by rw [hof g hg]; simp only [List.length_nil]; omega) (fun y _ _ q hq => absurd hq (Nat.not_lt_zero _))
  rw [List.drop_zero] at this
  exact this
/-- Each bucket's number, one behind the other; the first refusal ends it. -/
def collect (val : List S29 → Int × Int × Int) : List S53 → List S31 → List S31 × Int
  | [], acc => (acc, 0)
  | g :: r, acc => if 0 < g.f1.length then (if (val g.f1).2.2 = 0 then collect val r (acc ++ [⟨g.f0, ⟨(val g.f1).1, (val g.f1).2.1⟩⟩]) else ([], (val g.f1).2.2)) else collect val r (acc ++ [⟨g.f0, ⟨0, 1⟩⟩])
theorem do_loop {how : Int} {val : List S29 → Int × Int × Int} {gs : List S53} (hv : ∀ g ∈ gs, 0 < g.f1.length → Ev (fun k => fold_Do.f k how g.f1) (val g.f1)) (hgl : gs.length ≤ 100000) : ∀ (n j : Nat) (acc : List S31), gs.length - j = n → j ≤ gs.length → acc.length + n ≤ 200000 →
    Ev (fun k => down_Do.l0 k how acc gs (gs.length : Int) (j : Int)) (collect val (gs.drop j) acc) := by
  intro n
  induction n with
  | zero =>
    intro j acc hj hle _
    refine evDown ?_
    simp only [down_Do.l0, if_neg (show ¬ (j : Int) < (gs.length : Int) by omega)]
    rw [List.drop_of_length_le (by omega)]
    exact Ev.now _
  | succ n ih =>
    intro j acc hj hle hb
    have hlt : j < gs.length := by omega
    rw [gat_drop hlt]
    unfold collect
    have hgm := gat_mem hlt
    refine evDown ?_
    simp only [down_Do.l0, if_pos (show (j : Int) < (gs.length : Int) by omega), if_pos (show 0 ≤ (j : Int) by omega), rd_gat, wj (show j < 4611686018427387904 by omega), if_pos (show acc.length < 5864062014805 by omega)]
    by_cases h : 0 < (gat gs j).f1.length
    · simp only [if_pos h, if_pos (show ((gat gs j).f1.length : Int) > 0 by omega)]
      refine Ev.bind (hv _ hgm h) ?_
      by_cases h0 : (val (gat gs j).f1).2.2 = 0
      · simp only [if_pos h0]
        exact ih (j + 1) _ (by omega) (by omega) (by rw [List.length_append, List.length_singleton]; omega)
      · simp only [if_neg h0]
        exact Ev.now _
    · simp only [if_neg h, if_neg (show ¬ ((gat gs j).f1.length : Int) > 0 by omega)]
      exact ih (j + 1) _ (by omega) (by omega) (by rw [List.length_append, List.length_singleton]; omega)
/-- May the ends, the buckets, the fold be? -/
def askOk (a b e how : Int) : Bool := decide (0 ≤ a) && decide (a ≤ b) && decide (b ≤ 4294967295) && decide (1 ≤ e) && decide (e ≤ 4294967295) && decide (1 ≤ how ∧ how ≤ 7)
theorem feed_len (a b e : Int) : ∀ (l : List S31) (o : List S53), (feed a b e l o).length ≤ o.length + l.length
  | [], o => Nat.le_refl _
  | x :: r, o => by
    unfold feed
    split
    · have := feed_len a b e r (upd (bkt e x.f0) x.f1 o)
      have := upd_len (bkt e x.f0) x.f1 o
      rw [List.length_cons]; omega
    · have := feed_len a b e r o
      rw [List.length_cons]; omega
theorem feed_all {p : S29 → Prop} {a b e : Int} : ∀ {l : List S31} {o : List S53} {n : Nat}, (∀ x ∈ l, p x.f1) → (∀ g ∈ o, g.f1.length ≤ n ∧ ∀ x ∈ g.f1, p x) → ∀ g ∈ feed a b e l o, g.f1.length ≤ n + l.length ∧ ∀ x ∈ g.f1, p x
  | [], o, n, _, ho, g, hg => ho g hg
  | x :: r, o, n, hl, ho, g, hg => by
    unfold feed at hg
    split at hg
    · have := feed_all (n := n + 1) (fun y hy => hl y (List.mem_cons_of_mem _ hy)) (upd_all (hl x (List.mem_cons_self ..)) ho) g hg
      rw [List.length_cons]
      exact ⟨by omega, this.2⟩
    · have := feed_all (n := n) (fun y hy => hl y (List.mem_cons_of_mem _ hy)) ho g hg
      rw [List.length_cons]
      exact ⟨by omega, this.2⟩
/-- The buckets of samples, between their ends. -/
def bks (l : List S31) (a b e : Int) (zero : Bool) : List S53 := feed a b e l (if zero then zeros e (bkt e a) (bkt e b) else [])
def manyZ (a b e : Int) (zero : Bool) : Bool := zero && decide (cntZ e (bkt e a) (bkt e b) > 4096)
theorem tdiv_cnt {a b e : Int} (ha : 0 ≤ a) (hab : a ≤ b) (hb : b ≤ 4294967295) (he : 1 ≤ e) : wrap64 (Int.tdiv (wrap64 (bkt e b - bkt e a)) e) = (cntZ e (bkt e a) (bkt e b) : Int) - 1 ∧ 1 ≤ cntZ e (bkt e a) (bkt e b) ∧ cntZ e (bkt e a) (bkt e b) ≤ 4294967296 := by
  have hm := bkt_mono he ha hab
  obtain ⟨p0, p1, p2⟩ := bkt_low he ha
  obtain ⟨q0, q1, q2⟩ := bkt_low he (show 0 ≤ b by omega)
  generalize bkt e a = x at *
  generalize bkt e b = y at *
  have e1 : wrap64 (y - x) = y - x := by unfold wrap64; omega
  rw [e1, Int.tdiv_eq_ediv_of_nonneg (by omega)]
  have h1 : 0 ≤ (y - x) / e := Int.ediv_nonneg (by omega) (by omega)
  have h2 : (y - x) / e ≤ y - x := Int.ediv_le_self _ (by omega)
  unfold cntZ
  rw [if_neg (by omega)]
  generalize (y - x) / e = q at *
  have e2 : wrap64 q = q := by unfold wrap64; omega
  rw [e2]
  omega
theorem do_ask {l : List S31} {a b e how : Int} {zero : Bool} (hr : Ev (fun k => down_Right.f k l) true) (hl : Tms l) (hok : askOk a b e how = true) {val : List S29 → Int × Int × Int}
    (hv : ∀ g ∈ bks l a b e zero, 0 < g.f1.length → Ev (fun k => fold_Do.f k how g.f1) (val g.f1)) : Ev (fun k => down_Do.f k l a b e how zero) (if manyZ a b e zero = true then ([], 3) else collect val (bks l a b e zero) []) := by
  have hn7 := hl.len
  unfold askOk at hok
  simp only [Bool.and_eq_true, decide_eq_true_eq] at hok
  obtain ⟨⟨⟨⟨⟨h0, h1⟩, h2⟩, h3⟩, h4⟩, h5⟩ := hok
  obtain ⟨c1, c2, c3⟩ := tdiv_cnt h0 h1 h2 h3
  obtain ⟨q0, q1, q2⟩ := bkt_low h3 (show 0 ≤ b by omega)
  obtain ⟨p0, p1, p2⟩ := bkt_low h3 h0
  have hrt : fold_Right.f how = some true := by unfold fold_Right.f; rw [if_pos h5.1, decide_eq_true h5.2]
  have hj1 : ∀ c : Bool, c = manyZ a b e zero → Ev (fun k => down_Do.j1 k l a b e how zero (bkt e a) (bkt e b) c) (if manyZ a b e zero = true then ([], 3) else collect val (bks l a b e zero) []) := by
    intro c hc
    rw [← hc]
    refine evDown ?_
    cases c with
    | true =>
      simp only [down_Do.j1, if_true]
      exact Ev.now _
    | false =>
      have hcz : zero = true → cntZ e (bkt e a) (bkt e b) ≤ 4096 := by
        intro hz
        unfold manyZ at hc
        rw [hz, Bool.true_and] at hc
        have := of_decide_eq_false hc.symm
        omega
      simp only [down_Do.j1, Bool.false_eq_true, if_false]
      refine Ev.bind (fill_tells zero h3 h4 (by omega) p0 (fun h => by have := hcz h; omega)) ?_
      have hfl : (if zero = true then zeros e (bkt e a) (bkt e b) else []).length ≤ 4096 := by
        cases zero with
        | true => simp only [if_true, zeros_len]; exact hcz rfl
        | false => simp
      refine Ev.bind (part_tells h3 hl (by omega) (fun g hg => ?_)) ?_
      · cases zero with
        | true => simp only [if_true] at hg; exact (zeros_mem h3 _ rfl g hg).2.2
        | false => simp at hg
      · have hfd := feed_len a b e l (if zero = true then zeros e (bkt e a) (bkt e b) else [])
        have := do_loop (how := how) (val := val) (gs := bks l a b e zero) hv (by unfold bks; omega) _ 0 [] rfl (Nat.zero_le _) (by unfold bks; simp only [List.length_nil]; omega)
        rw [List.drop_zero] at this
        exact this
  unfold down_Do.f
  refine Ev.bind hr ?_
  simp only [if_true, if_neg (show ¬ a < 0 by omega), if_neg (show ¬ a > b by omega), if_neg (show ¬ b > 4294967295 by omega), if_neg (show ¬ e < 1 by omega), if_neg (show ¬ e > 4294967295 by omega), hrt, Option.bind_some, Bool.not_true]
  refine evDown ?_
  simp only [down_Do.j0, Bool.false_eq_true, if_false, bucket_tells h0 (show a ≤ 4294967295 by omega) h3, bucket_tells (show 0 ≤ b by omega) h2 h3, Option.bind_some]
  cases zero with
  | true =>
    simp only [if_true, if_neg (show ¬ e = 0 by omega), c1]
    refine hj1 _ ?_
    unfold manyZ
    rw [Bool.true_and, decide_eq_decide]
    omega
  | false =>
    simp only [Bool.false_eq_true, if_false]
    exact hj1 _ rfl
/-- What isn't asked rightly is refused. -/
theorem do_bad {l : List S31} {a b e how : Int} {zero : Bool} {g : Bool} (hr : Ev (fun k => down_Right.f k l) g) (hok : (g && askOk a b e how) = false) : Ev (fun k => down_Do.f k l a b e how zero) ([], 1) := by
  have hj : Ev (fun k => down_Do.j0 k l a b e how zero true) ([], 1) := by
    refine evDown ?_
    simp only [down_Do.j0, if_true]
    exact Ev.now _
  unfold down_Do.f
  refine Ev.bind hr ?_
  cases g with
  | false => simp only [Bool.false_eq_true, if_false]; exact hj
  | true =>
    rw [Bool.true_and] at hok
    simp only [if_true]
    by_cases h1 : a < 0
    · simp only [if_pos h1]; exact hj
    by_cases h2 : a > b
    · simp only [if_neg h1, if_pos h2]; exact hj
    by_cases h3 : b > 4294967295
    · simp only [if_neg h1, if_neg h2, if_pos h3]; exact hj
    by_cases h4 : e < 1
    · simp only [if_neg h1, if_neg h2, if_neg h3, if_pos h4]; exact hj
    by_cases h5 : e > 4294967295
    · simp only [if_neg h1, if_neg h2, if_neg h3, if_neg h4, if_pos h5]; exact hj
    have h6 : fold_Right.f how = some false := by
      unfold askOk at hok
      rw [decide_eq_true (show 0 ≤ a by omega), decide_eq_true (show a ≤ b by omega), decide_eq_true (show b ≤ 4294967295 by omega), decide_eq_true (show 1 ≤ e by omega), decide_eq_true (show e ≤ 4294967295 by omega)] at hok
      have h7 : ¬ (1 ≤ how ∧ how ≤ 7) := by simpa using hok
      unfold fold_Right.f
      by_cases hh : how ≥ 1
      · rw [if_pos hh, decide_eq_false (by omega)]
      · rw [if_neg hh]
    simp only [if_neg h1, if_neg h2, if_neg h3, if_neg h4, if_neg h5, h6, Option.bind_some, Bool.not_false]
    exact hj
/-! ### the document's answer -/
theorem rbucket_tells {t e : Int} (ht : 0 ≤ t) (h2 : t ≤ 4294967295) (he : 1 ≤ e) : marigraphref21_Bucket.f t e = some (bkt e t) := by
  have h := bucket_tells ht h2 he
  unfold down_Bucket.f at h
  rw [if_neg (by omega), if_neg (by omega)] at h
  unfold marigraphref21_Bucket.f
  rw [if_neg (by omega), if_neg (by omega)]
  exact h
theorem collect_zero {val : List S29 → Int × Int × Int} {x : Int} {r : List S53} {acc : List S31} : collect val (⟨x, []⟩ :: r) acc = collect val r (acc ++ [⟨x, ⟨0, 1⟩⟩]) := by
  conv => lhs; unfold collect
  rw [if_neg (show ¬ 0 < (⟨x, []⟩ : S53).f1.length from Nat.lt_irrefl _)]
theorem ref_l3 {val : List S29 → Int × Int × Int} {e last : Int} (he : 1 ≤ e) (he2 : e ≤ 4294967295) (hl : last ≤ 4294967295) (zero : Bool) : ∀ (n : Nat) (next : Int) (out : List S31), (zero = true → cntZ e next last = n) → (zero = true → 0 ≤ next) → out.length + n ≤ 200000 →
    Ev (fun k => marigraphref21_Down.l3 k e zero last out next) (collect val (if zero then zeros e next last else []) out) := by
  cases zero with
  | false =>
    intro n next out _ _ _
    refine evDown ?_
    simp only [marigraphref21_Down.l3, Bool.false_eq_true, if_false]
    exact Ev.now _
  | true =>
    intro n
    induction n with
    | zero =>
      intro next out hn _ _
      have hn := hn rfl
      have hlo : ¬ next ≤ last := fun h => by rw [cntZ_some he h] at hn; cases hn
      refine evDown ?_
      simp only [marigraphref21_Down.l3, if_true, if_neg hlo]
      rw [zeros_none (by omega)]
      exact Ev.now _
    | succ n ih =>
      intro next out hn h0 hb
      have hn := hn rfl
      have h0 := h0 rfl
      have hlo : next ≤ last := by
        by_cases h : next ≤ last
        · exact h
        · rw [cntZ_none (by omega)] at hn; cases hn
      rw [cntZ_some he hlo] at hn
      have hw : wrap64 (next + e) = next + e := by unfold wrap64; omega
      refine evDown ?_
      simp only [marigraphref21_Down.l3, if_true, if_pos hlo, if_pos (show out.length < 5864062014805 by omega), hw]
      rw [zeros_some he hlo, collect_zero]
      have := ih (next + e) (out ++ [⟨next, ⟨0, 1⟩⟩]) (fun _ => by omega) (fun _ => by omega) (by rw [List.length_append, List.length_singleton]; omega)
      simpa only [if_true] using this
theorem ref_l2 {val : List S29 → Int × Int × Int} {a b e how last k2 i : Int} {l : List S31} {zero : Bool} {vals : List S29} {rest : List S53} (he : 1 ≤ e) (he2 : e ≤ 4294967295) (hk0 : 0 ≤ k2) (hk : k2 ≤ 4294967295) (hv : Ev (fun k => marigraphref20_Do.f k how vals) (val vals)) (hp : 0 < vals.length)
    (hc : ∀ out : List S31, out.length + rest.length ≤ 200000 → Ev (fun k => marigraphref21_Down.l0 k l a b e how zero last out (k2 + e) i) (collect val rest out)) : ∀ (n : Nat) (next : Int) (out : List S31), (zero = true → cntZ e next (k2 - 1) = n) → (zero = true → 0 ≤ next) → out.length + n + 1 + rest.length ≤ 200000 →
    Ev (fun k => marigraphref21_Down.l2 k l a b e how zero last out next i k2 vals) (collect val ((if zero then zeros e next (k2 - 1) else []) ++ ⟨k2, vals⟩ :: rest) out) := by
  have hw : wrap64 (k2 + e) = k2 + e := by unfold wrap64; omega
  have fin : ∀ out : List S31, out.length + 1 + rest.length ≤ 200000 → Ev (fun K => (marigraphref20_Do.f K how vals).bind fun bt326 => (if bt326.2.2 = 0 then (if out.length < 5864062014805 then (marigraphref21_Down.l0 K l a b e how zero last (out ++ [(⟨k2, (⟨bt326.1, bt326.2.1⟩ : S29)⟩ : S31)]) (wrap64 (k2 + e)) i) else (none)) else (some (([] : List (S31)), bt326.2.2)))) (collect val (⟨k2, vals⟩ :: rest) out) := by
    intro out hb
    refine Ev.bind hv ?_
    have ec : collect val (⟨k2, vals⟩ :: rest) out = if (val vals).2.2 = 0 then collect val rest (out ++ [⟨k2, ⟨(val vals).1, (val vals).2.1⟩⟩]) else ([], (val vals).2.2) := by
      conv => lhs; unfold collect
      rw [if_pos (show 0 < (⟨k2, vals⟩ : S53).f1.length from hp)]
    rw [ec]
    by_cases h0 : (val vals).2.2 = 0
    · simp only [if_pos h0, if_pos (show out.length < 5864062014805 by omega), hw]
      exact hc _ (by rw [List.length_append, List.length_singleton]; omega)
    · simp only [if_neg h0]
      exact Ev.now _
  cases zero with
  | false =>
    intro n next out _ _ hb
    refine evDown ?_
    simp only [marigraphref21_Down.l2, Bool.false_eq_true, if_false]
    exact fin out (by omega)
  | true =>
    intro n
    induction n with
    | zero =>
      intro next out hn _ hb
      have hn := hn rfl
      have hlo : ¬ next < k2 := fun h => by rw [cntZ_some he (show next ≤ k2 - 1 by omega)] at hn; cases hn
      refine evDown ?_
      simp only [marigraphref21_Down.l2, if_true, if_neg hlo]
      rw [zeros_none (by omega)]
      exact fin out (by omega)
    | succ n ih =>
      intro next out hn h0 hb
      have hn := hn rfl
      have h0 := h0 rfl
      have hlo : next ≤ k2 - 1 := by
        by_cases h : next ≤ k2 - 1
        · exact h
        · rw [cntZ_none (by omega)] at hn; cases hn
      rw [cntZ_some he hlo] at hn
      have hw2 : wrap64 (next + e) = next + e := by unfold wrap64; omega
      refine evDown ?_
      simp only [marigraphref21_Down.l2, if_true, if_pos (show next < k2 by omega), if_pos (show out.length < 5864062014805 by omega), hw2]
      rw [zeros_some he hlo, List.cons_append, collect_zero]
      have := ih (next + e) (out ++ [⟨next, ⟨0, 1⟩⟩]) (fun _ => by omega) (fun _ => by omega) (by rw [List.length_append, List.length_singleton]; omega)
      simpa only [if_true] using this
theorem ref_l1 {a b e how last k2 next : Int} {l : List S31} {zero : Bool} {out : List S31} {R : List S31 × Int} (he : 1 ≤ e) (hl : Tms l) : ∀ (m i : Nat) (vs : List S29), l.length - i = m → i ≤ l.length → vs.length + m ≤ 200000 →
    (∀ i' : Nat, i ≤ i' → i' ≤ l.length → l.drop i' = runR b e k2 (l.drop i) → Ev (fun k => marigraphref21_Down.j5 k l a b e how zero last out next (i' : Int) k2 (vs ++ runV b e k2 (l.drop i))) R) →
    Ev (fun k => marigraphref21_Down.l1 k l a b e how zero last out next (i : Int) k2 vs) R := by
  have hn7 := hl.len
  intro m
  induction m with
  | zero =>
    intro i vs hm hle _ hc
    have hd : l.drop i = [] := List.drop_of_length_le (by omega)
    refine evDown ?_
    simp only [marigraphref21_Down.l1, if_neg (show ¬ (i : Int) < (l.length : Int) by omega)]
    have := hc i (Nat.le_refl _) hle (by rw [hd]; rfl)
    rw [hd] at this
    rw [show vs ++ runV b e k2 [] = vs from List.append_nil _] at this
    exact this
  | succ m ih =>
    intro i vs hm hle hb hc
    have hlt : i < l.length := by omega
    have hd := at_drop hlt
    have hmm : at_ l i ∈ l := by
      have : at_ l i ∈ l.drop i := by rw [hd]; exact List.mem_cons_self ..
      exact List.mem_of_mem_drop this
    obtain ⟨t0, t1⟩ := hl.low _ hmm
    have stop : ¬ ((at_ l i).f0 ≤ b ∧ bkt e (at_ l i).f0 = k2) → Ev (fun k => marigraphref21_Down.j5 k l a b e how zero last out next (i : Int) k2 vs) R := by
      intro h
      have e1 : runR b e k2 (l.drop i) = l.drop i := by
        rw [hd]
        conv => lhs; unfold runR
        rw [if_neg h]
      have e2 : runV b e k2 (l.drop i) = [] := by
        rw [hd]
        conv => lhs; unfold runV
        rw [if_neg h]
      have := hc i (Nat.le_refl _) hle e1.symm
      rw [e2, List.append_nil] at this
      exact this
    refine evDown ?_
    simp only [marigraphref21_Down.l1, if_pos (show (i : Int) < (l.length : Int) by omega), if_pos (show 0 ≤ (i : Int) by omega), rd_atN]
    by_cases hb2 : (at_ l i).f0 ≤ b
    · simp only [if_pos hb2, rbucket_tells t0 t1 he, Option.bind_some]
      by_cases hk : bkt e (at_ l i).f0 = k2
      · simp only [if_pos hk, if_pos (show vs.length < 8796093022208 by omega), wj (show i < 4611686018427387904 by omega)]
        have e1 : runR b e k2 (l.drop i) = runR b e k2 (l.drop (i + 1)) := by
          rw [hd]
          conv => lhs; unfold runR
          rw [if_pos ⟨hb2, hk⟩]
        have e2 : runV b e k2 (l.drop i) = (at_ l i).f1 :: runV b e k2 (l.drop (i + 1)) := by
          rw [hd]
          conv => lhs; unfold runV
          rw [if_pos ⟨hb2, hk⟩]
        rw [e1, e2] at hc
        refine ih (i + 1) _ (by omega) (by omega) (by rw [List.length_append, List.length_singleton]; omega) (fun i' h1 h2 h3 => ?_)
        have := hc i' (by omega) h2 h3
        rw [List.append_assoc]
        exact this
      · simp only [if_neg hk]
        exact stop (fun h => hk h.2)
    · simp only [if_neg hb2]
      exact stop (fun h => hb2 h.1)
theorem runV_all {p : S29 → Prop} {b e k : Int} : ∀ {l : List S31}, (∀ x ∈ l, p x.f1) → (runV b e k l).length ≤ l.length ∧ ∀ v ∈ runV b e k l, p v
  | [], _ => ⟨Nat.le_refl _, fun _ h => by cases h⟩
  | x :: r, h => by
    have ih := runV_all (p := p) (b := b) (e := e) (k := k) (l := r) (fun y hy => h y (List.mem_cons_of_mem _ hy))
    unfold runV
    split
    · refine ⟨by rw [List.length_cons, List.length_cons]; omega, fun v hv => ?_⟩
      rcases List.mem_cons.1 hv with rfl | hv
      · exact h x (List.mem_cons_self ..)
      · exact ih.2 v hv
    · exact ⟨by simp, fun _ h => by cases h⟩
theorem ref_l0 {val : List S29 → Int × Int × Int} {a b e how last : Int} {zero : Bool} {l : List S31} (he : 1 ≤ e) (he2 : e ≤ 4294967295) (hla : last ≤ 4294967295) (hl : Tms l) (hv : ∀ vs : List S29, 0 < vs.length → vs.length ≤ 1000 → (∀ v ∈ vs, ∃ x ∈ l, v = x.f1) → Ev (fun k => marigraphref20_Do.f k how vs) (val vs)) :
    ∀ (n i : Nat) (next : Int) (out : List S31), (l.drop i).length < n → i ≤ l.length → (zero = true → 0 ≤ next) → out.length + (grp a b e zero last n (l.drop i) next).length ≤ 200000 →
    Ev (fun k => marigraphref21_Down.l0 k l a b e how zero last out next (i : Int)) (collect val (grp a b e zero last n (l.drop i) next) out) := by
  have hn7 := hl.len
  intro n
  induction n with
  | zero => intro i next out h _ _ _; exact absurd h (Nat.not_lt_zero _)
  | succ n ih =>
    intro i next out hn hle h0 hb
    by_cases hlt : i < l.length
    · have hd := at_drop hlt
      have hmm : at_ l i ∈ l := by
        have : at_ l i ∈ l.drop i := by rw [hd]; exact List.mem_cons_self ..
        exact List.mem_of_mem_drop this
      obtain ⟨t0, t1⟩ := hl.low _ hmm
      obtain ⟨k0, k1, _⟩ := bkt_low he t0
      rw [hd] at hn hb ⊢
      rw [List.length_cons] at hn
      have hj3 : ∀ c : Bool, c = decide (¬ inR a b (at_ l i)) → Ev (fun k => marigraphref21_Down.j3 k l a b e how zero last out next (i : Int) c) (collect val (grp a b e zero last (n + 1) (at_ l i :: l.drop (i + 1)) next) out) := by
        intro c hc
        refine evDown ?_
        cases c with
        | true =>
          have hno := of_decide_eq_true hc.symm
          have eg : grp a b e zero last (n + 1) (at_ l i :: l.drop (i + 1)) next = grp a b e zero last n (l.drop (i + 1)) next := by
            conv => lhs; unfold grp
            rw [if_neg hno]
          rw [eg] at hb ⊢
          simp only [marigraphref21_Down.j3, if_true, wj (show i < 4611686018427387904 by omega)]
          exact ih (i + 1) next out (by omega) (by omega) h0 hb
        | false =>
          have hin : inR a b (at_ l i) := Decidable.of_not_not (of_decide_eq_false hc.symm)
          have eg : grp a b e zero last (n + 1) (at_ l i :: l.drop (i + 1)) next = (if zero then zeros e next (bkt e (at_ l i).f0 - 1) else []) ++ ⟨bkt e (at_ l i).f0, (at_ l i).f1 :: runV b e (bkt e (at_ l i).f0) (l.drop (i + 1))⟩ :: grp a b e zero last n (runR b e (bkt e (at_ l i).f0) (l.drop (i + 1))) (bkt e (at_ l i).f0 + e) := by
            conv => lhs; unfold grp
            rw [if_pos hin]
          rw [eg] at hb ⊢
          simp only [marigraphref21_Down.j3, Bool.false_eq_true, if_false, if_pos (show 0 ≤ (i : Int) by omega), if_pos (show (i : Int) < (l.length : Int) by omega), rd_atN, rbucket_tells t0 t1 he, Option.bind_some]
          refine ref_l1 he hl _ i [] rfl hle (by simp only [List.length_nil]; omega) (fun i' h1 h2 h3 => ?_)
          have e1 : runR b e (bkt e (at_ l i).f0) (l.drop i) = runR b e (bkt e (at_ l i).f0) (l.drop (i + 1)) := by
            rw [hd]
            conv => lhs; unfold runR
            rw [if_pos ⟨hin.2, rfl⟩]
          have e2 : runV b e (bkt e (at_ l i).f0) (l.drop i) = (at_ l i).f1 :: runV b e (bkt e (at_ l i).f0) (l.drop (i + 1)) := by
            rw [hd]
            conv => lhs; unfold runV
            rw [if_pos ⟨hin.2, rfl⟩]
          have hrv := runV_all (p := fun v => ∃ x ∈ l, v = x.f1) (b := b) (e := e) (k := bkt e (at_ l i).f0) (l := l.drop i) (fun x hx => ⟨x, List.mem_of_mem_drop hx, rfl⟩)
          have hrl := runR_len b e (bkt e (at_ l i).f0) (l.drop (i + 1))
          rw [e2] at hrv
          rw [e1] at h3
          rw [e2, List.nil_append]
          rw [← h3] at hb hrl ⊢
          refine evDown ?_
          simp only [marigraphref21_Down.j5]
          have hz : (if zero = true then zeros e next (bkt e (at_ l i).f0 - 1) else []).length = if zero = true then cntZ e next (bkt e (at_ l i).f0 - 1) else 0 := by
            cases zero with
            | true => simp only [if_true, zeros_len]
            | false => rfl
          rw [List.length_append, List.length_cons, hz] at hb
          refine ref_l2 he he2 k0 (by omega) (hv _ (by simp) (by have := hrv.1; rw [List.length_drop] at this; omega) hrv.2) (by simp) (fun out' ho => ?_) (if zero = true then cntZ e next (bkt e (at_ l i).f0 - 1) else 0) next out (fun hz1 => by rw [if_pos hz1]) h0 (by omega)
          exact ih i' _ out' (Nat.lt_of_le_of_lt hrl (by omega)) h2 (fun _ => by omega) (by omega)
      refine evDown ?_
      simp only [marigraphref21_Down.l0, if_pos (show (i : Int) < (l.length : Int) by omega), if_pos (show 0 ≤ (i : Int) by omega), rd_atN]
      by_cases ha : (at_ l i).f0 < a
      · simp only [if_pos ha]
        exact hj3 true (decide_eq_true (show ¬ inR a b (at_ l i) from fun h => by have := h.1; omega)).symm
      · simp only [if_neg ha]
        refine hj3 _ ?_
        rw [decide_eq_decide]
        unfold inR
        omega
    · have hd : l.drop i = [] := List.drop_of_length_le (by omega)
      rw [hd] at hb ⊢
      have eg : grp a b e zero last (n + 1) [] next = if zero then zeros e next last else [] := rfl
      rw [eg] at hb ⊢
      refine evDown ?_
      simp only [marigraphref21_Down.l0, if_neg (show ¬ (i : Int) < (l.length : Int) by omega)]
      refine ref_l3 he he2 hla zero (if zero = true then cntZ e next last else 0) next out (fun hz1 => by rw [if_pos hz1]) h0 ?_
      cases zero with
      | true => simp only [if_true, zeros_len] at hb ⊢; exact hb
      | false => simp only [Bool.false_eq_true, if_false, List.length_nil] at hb ⊢; exact hb
theorem ref_ask {l : List S31} {a b e how : Int} {zero : Bool} (hr : Ev (fun k => marigraphref21_Right.f k l) true) (hl : Tms l) (hok : askOk a b e how = true) {val : List S29 → Int × Int × Int}
    (hv : ∀ vs : List S29, 0 < vs.length → vs.length ≤ 1000 → (∀ v ∈ vs, ∃ x ∈ l, v = x.f1) → Ev (fun k => marigraphref20_Do.f k how vs) (val vs)) : Ev (fun k => marigraphref21_Down.f k l a b e how zero) (if manyZ a b e zero = true then ([], 3) else collect val (bks l a b e zero) []) := by
  have hn7 := hl.len
  unfold askOk at hok
  simp only [Bool.and_eq_true, decide_eq_true_eq] at hok
  obtain ⟨⟨⟨⟨⟨h0, h1⟩, h2⟩, h3⟩, h4⟩, h5⟩ := hok
  obtain ⟨c1, c2, c3⟩ := tdiv_cnt h0 h1 h2 h3
  obtain ⟨q0, q1, q2⟩ := bkt_low h3 (show 0 ≤ b by omega)
  obtain ⟨p0, p1, p2⟩ := bkt_low h3 h0
  have hrt : marigraphref20_Right.f how = some true := by unfold marigraphref20_Right.f; rw [if_pos h5.1, decide_eq_true h5.2]
  have hj1 : ∀ c : Bool, c = manyZ a b e zero → Ev (fun k => marigraphref21_Down.j1 k l a b e how zero (bkt e a) (bkt e b) c) (if manyZ a b e zero = true then ([], 3) else collect val (bks l a b e zero) []) := by
    intro c hc
    rw [← hc]
    refine evDown ?_
    cases c with
    | true =>
      simp only [marigraphref21_Down.j1, if_true]
      exact Ev.now _
    | false =>
      have hcz : zero = true → cntZ e (bkt e a) (bkt e b) ≤ 4096 := by
        intro hz
        unfold manyZ at hc
        rw [hz, Bool.true_and] at hc
        have := of_decide_eq_false hc.symm
        omega
      have hg : bks l a b e zero = grp a b e zero (bkt e b) (l.length + 1) l (bkt e a) := feed_grp h3 rfl zero (l.length + 1) (Nat.lt_succ_self _) hl.ris bkt_dvd (fun y hy hi => bkt_mono h3 h0 hi.1)
      have hfl : (if zero = true then zeros e (bkt e a) (bkt e b) else []).length ≤ 4096 := by
        cases zero with
        | true => simp only [if_true, zeros_len]; exact hcz rfl
        | false => simp
      have hfd := feed_len a b e l (if zero = true then zeros e (bkt e a) (bkt e b) else [])
      have hbl : (bks l a b e zero).length ≤ 10000 := by unfold bks; omega
      rw [hg] at hbl
      simp only [marigraphref21_Down.j1, Bool.false_eq_true, if_false]
      rw [hg]
      have := ref_l0 (val := val) (a := a) (b := b) (how := how) (zero := zero) h3 h4 (show bkt e b ≤ 4294967295 by omega) hl hv (l.length + 1) 0 (bkt e a) [] (by rw [List.drop_zero]; exact Nat.lt_succ_self _) (Nat.zero_le _) (fun _ => p0) (by rw [List.drop_zero]; simp only [List.length_nil]; omega)
      rw [List.drop_zero] at this
      exact this
  unfold marigraphref21_Down.f
  refine Ev.bind hr ?_
  simp only [if_true, if_neg (show ¬ a < 0 by omega), if_neg (show ¬ b < a by omega), if_neg (show ¬ b > 4294967295 by omega), if_neg (show ¬ e < 1 by omega), if_neg (show ¬ e > 4294967295 by omega), hrt, Option.bind_some, Bool.not_true]
  refine evDown ?_
  simp only [marigraphref21_Down.j0, Bool.false_eq_true, if_false, rbucket_tells h0 (show a ≤ 4294967295 by omega) h3, rbucket_tells (show 0 ≤ b by omega) h2 h3, Option.bind_some]
  cases zero with
  | true =>
    have c4 : wrap64 ((cntZ e (bkt e a) (bkt e b) : Int) - 1 + 1) = (cntZ e (bkt e a) (bkt e b) : Int) := by unfold wrap64; omega
    simp only [if_true, if_neg (show ¬ e = 0 by omega), c1, c4]
    refine hj1 _ ?_
    unfold manyZ
    rw [Bool.true_and, decide_eq_decide]
    omega
  | false =>
    simp only [Bool.false_eq_true, if_false]
    exact hj1 _ rfl
theorem ref_bad {l : List S31} {a b e how : Int} {zero : Bool} {g : Bool} (hr : Ev (fun k => marigraphref21_Right.f k l) g) (hok : (g && askOk a b e how) = false) : Ev (fun k => marigraphref21_Down.f k l a b e how zero) ([], 1) := by
  have hj : Ev (fun k => marigraphref21_Down.j0 k l a b e how zero true) ([], 1) := by
    refine evDown ?_
    simp only [marigraphref21_Down.j0, if_true]
    exact Ev.now _
  unfold marigraphref21_Down.f
  refine Ev.bind hr ?_
  cases g with
  | false => simp only [Bool.false_eq_true, if_false]; exact hj
  | true =>
    rw [Bool.true_and] at hok
    simp only [if_true]
    by_cases h1 : a < 0
    · simp only [if_pos h1]; exact hj
    by_cases h2 : b < a
    · simp only [if_neg h1, if_pos h2]; exact hj
    by_cases h3 : b > 4294967295
    · simp only [if_neg h1, if_neg h2, if_pos h3]; exact hj
    by_cases h4 : e < 1
    · simp only [if_neg h1, if_neg h2, if_neg h3, if_pos h4]; exact hj
    by_cases h5 : e > 4294967295
    · simp only [if_neg h1, if_neg h2, if_neg h3, if_neg h4, if_pos h5]; exact hj
    have h6 : marigraphref20_Right.f how = some false := by
      unfold askOk at hok
      rw [decide_eq_true (show 0 ≤ a by omega), decide_eq_true (show a ≤ b by omega), decide_eq_true (show b ≤ 4294967295 by omega), decide_eq_true (show 1 ≤ e by omega), decide_eq_true (show e ≤ 4294967295 by omega)] at hok
      have h7 : ¬ (1 ≤ how ∧ how ≤ 7) := by simpa using hok
      unfold marigraphref20_Right.f
      by_cases hh : how ≥ 1
      · rw [if_pos hh, decide_eq_false (by omega)]
      · rw [if_neg hh]
    simp only [if_neg h1, if_neg h2, if_neg h3, if_neg h4, if_neg h5, h6, Option.bind_some, Bool.not_false]
    exact hj
/-! ### samples that may be, or not; a fold by both -/
theorem good_tms {l : List S31} (h : GoodL l) (hn : l.length ≤ 1000) : Tms l := by
  have up : ∀ d j : Nat, j + d + 1 < l.length → (at_ l j).f0 < (at_ l (j + d + 1)).f0 := by
    intro d
    induction d with
    | zero => intro j hj; exact (h (j + 1) hj).2.2.2 (by omega)
    | succ d ih =>
      intro j hj
      have h1 := ih j (by omega)
      have h2 := (h (j + (d + 1) + 1) hj).2.2.2 (by omega)
      rw [show j + (d + 1) + 1 - 1 = j + d + 1 by omega] at h2
      exact Int.lt_trans h1 h2
  have mem : ∀ x ∈ l, ∃ j, j < l.length ∧ x = at_ l j := by
    intro x hx
    obtain ⟨j, hj, rfl⟩ := List.getElem_of_mem hx
    refine ⟨j, hj, ?_⟩
    unfold at_
    rw [List.getD_eq_getElem?_getD, List.getElem?_eq_getElem hj]
    rfl
  refine ⟨?_, fun x hx => ?_, hn⟩
  · have : ∀ n j : Nat, l.length - j = n → j ≤ l.length → Ris (l.drop j) := by
      intro n
      induction n with
      | zero => intro j hj hle; rw [List.drop_of_length_le (by omega)]; exact .nil
      | succ n ih =>
        intro j hj hle
        have hlt : j < l.length := by omega
        rw [at_drop hlt]
        refine .cons (h j hlt).1 (fun y hy => ?_) (ih (j + 1) (by omega) (by omega))
        obtain ⟨q, hq, rfl⟩ := List.getElem_of_mem hy
        rw [List.length_drop] at hq
        rw [List.getElem_drop]
        have := up q j (by omega)
        have e : at_ l (j + q + 1) = l[j + 1 + q]'(by omega) := by
          unfold at_
          rw [List.getD_eq_getElem?_getD, show j + q + 1 = j + 1 + q by omega, List.getElem?_eq_getElem (by omega)]
          rfl
        rw [e] at this
        exact this
    have := this l.length 0 rfl (Nat.zero_le _)
    rwa [List.drop_zero] at this
  · obtain ⟨j, hj, rfl⟩ := mem x hx
    exact ⟨(h j hj).1, (h j hj).2.1⟩
/-- All numbers that stand in memory may stand there. -/
def NumX (l : List S31) : Prop := ∀ x ∈ l, I64 x.f0 ∧ I64 x.f1.f0 ∧ I64 x.f1.f1
theorem NumX.at_ {l : List S31} (h : NumX l) : NumL l := by
  intro j hj
  have hm : Pure.at_ l j ∈ l := by
    unfold Pure.at_
    rw [List.getD_eq_getElem?_getD, List.getElem?_eq_getElem hj]
    exact List.getElem_mem hj
  exact h _ hm
theorem nump_of {l : List S29} (h : ∀ x ∈ l, I64 x.f0 ∧ I64 x.f1) : NumP l := by
  intro j hj
  have hx : rat_ l j ∈ l := by
    unfold rat_
    rw [List.getD_eq_getElem?_getD, List.getElem?_eq_getElem hj]
    exact List.getElem_mem hj
  exact h _ hx
open Classical in
/-- What a fold tells of numbers. -/
noncomputable def valR (how : Int) (l : List S29) : Int × Int × Int := if h : NumP l ∧ l.length ≤ 1000 then Classical.choose (do_same how l h.1 h.2) else (0, 1, 0)
theorem valR_tells (how : Int) {l : List S29} (h : NumP l) (hn : l.length ≤ 1000) : Ev (fun k => fold_Do.f k how l) (valR how l) ∧ Ev (fun k => marigraphref20_Do.f k how l) (valR how l) := by
  unfold valR
  rw [dif_pos ⟨h, hn⟩]
  exact Classical.choose_spec (do_same how l h hn)
theorem bks_all {l : List S31} {a b e : Int} {zero : Bool} (he : 1 ≤ e) {p : S29 → Prop} (hl : ∀ x ∈ l, p x.f1) : ∀ g ∈ bks l a b e zero, g.f1.length ≤ l.length ∧ ∀ v ∈ g.f1, p v := by
  intro g hg
  have := feed_all (n := 0) hl (fun g hg => by
    cases zero with
    | true => simp only [if_true] at hg; rw [(zeros_mem he _ rfl g hg).2.2]; exact ⟨Nat.le_refl _, fun _ h => by cases h⟩
    | false => simp at hg) g hg
  exact ⟨by omega, this.2⟩
theorem rsame_loop (a : List S31) (hs : a.length < 4611686018427387904) : ∀ n j : Nat, a.length - j = n → j ≤ a.length → Ev (fun k => marigraphref21_Same.l0 k a a (j : Int)) true := by
  intro n
  induction n with
  | zero =>
    intro j hj hle
    refine evDown ?_
    simp only [marigraphref21_Same.l0, if_neg (show ¬ (j : Int) < (a.length : Int) by omega)]
    exact Ev.now _
  | succ n ih =>
    intro j hj hle
    refine evDown ?_
    simp only [marigraphref21_Same.l0, if_pos (show (j : Int) < (a.length : Int) by omega), if_pos (show 0 ≤ (j : Int) by omega), beq_self_eq_true, Bool.not_true, Bool.or_self, Bool.false_eq_true, if_false, wj (show j < 4611686018427387904 by omega)]
    exact ih (j + 1) (by omega) (by omega)
theorem rsame_tells {a : List S31} (hs : a.length < 4611686018427387904) : Ev (fun k => marigraphref21_Same.f k a a) true := by
  unfold marigraphref21_Same.f
  simp only [if_true]
  exact rsame_loop a hs a.length 0 rfl (Nat.zero_le _)
theorem collect_len {val : List S29 → Int × Int × Int} : ∀ (gs : List S53) (acc : List S31), (collect val gs acc).1.length ≤ acc.length + gs.length
  | [], acc => Nat.le_refl _
  | g :: r, acc => by
    unfold collect
    split
    · split
      · have := collect_len (val := val) r (acc ++ [⟨g.f0, ⟨(val g.f1).1, (val g.f1).2.1⟩⟩])
        rw [List.length_append, List.length_singleton] at this
        rw [List.length_cons]; omega
      · simp
    · have := collect_len (val := val) r (acc ++ [⟨g.f0, ⟨0, 1⟩⟩])
      rw [List.length_append, List.length_singleton] at this
      rw [List.length_cons]; omega
theorem same_tells {l : List S31} (hI : NumX l) (hn : l.length ≤ 1000) (a b e how : Int) (zero : Bool) : Ev (fun k => marigraphlaw21_same.f k l a b e how zero) true := by
  have hr1 : Ev (fun k => down_Right.f k l) (goodFrom l l.length 0) := down_right_all l hI.at_ (by omega) _ 0 rfl
  have hr2 : Ev (fun k => marigraphref21_Right.f k l) (goodFrom l l.length 0) := ref_right_all l hI.at_ (by omega) _ 0 rfl
  have both : ∃ r : List S31 × Int, r.1.length < 4611686018427387904 ∧ Ev (fun k => down_Do.f k l a b e how zero) r ∧ Ev (fun k => marigraphref21_Down.f k l a b e how zero) r := by
    by_cases h : (goodFrom l l.length 0 && askOk a b e how) = true
    · simp only [Bool.and_eq_true] at h
      obtain ⟨hg, hok⟩ := h
      rw [hg] at hr1 hr2
      have hl := good_tms (good_all hg) hn
      have he : 1 ≤ e := by
        unfold askOk at hok
        simp only [Bool.and_eq_true, decide_eq_true_eq] at hok
        exact hok.1.1.2
      have hP : ∀ x ∈ l, I64 x.f1.f0 ∧ I64 x.f1.f1 := fun x hx => (hI x hx).2
      refine ⟨_, ?_, do_ask hr1 hl hok (val := valR how) (fun g hg _ => ?_), ref_ask hr2 hl hok (val := valR how) (fun vs _ hv2 hv3 => ?_)⟩
      · by_cases hm : manyZ a b e zero = true
        · rw [if_pos hm]; simp
        · rw [if_neg hm]
          have h1 := collect_len (val := valR how) (bks l a b e zero) []
          have h2 := feed_len a b e l (if zero then zeros e (bkt e a) (bkt e b) else [])
          have h3 : (if zero = true then zeros e (bkt e a) (bkt e b) else []).length ≤ 4096 := by
            cases zero with
            | false => simp
            | true =>
              unfold manyZ at hm
              simp only [Bool.true_and, decide_eq_true_eq] at hm
              simp only [if_true, zeros_len]
              omega
          unfold bks at h1 ⊢
          simp only [List.length_nil] at h1
          omega
      · have := bks_all he (p := fun v => I64 v.f0 ∧ I64 v.f1) hP g hg
        exact (valR_tells how (nump_of this.2) (by omega)).1
      · refine (valR_tells how (nump_of (fun v hv => ?_)) hv2).2
        obtain ⟨x, hx, rfl⟩ := hv3 v hv
        exact hP x hx
    · rw [Bool.not_eq_true] at h
      exact ⟨([], 1), by simp, do_bad hr1 h, ref_bad hr2 h⟩
  obtain ⟨r, hlen, e1, e2⟩ := both
  unfold marigraphlaw21_same.f
  refine Ev.bind e1 (Ev.bind e2 ?_)
  simp only [if_true]
  refine Ev.bind (rsame_tells hlen) ?_
  simp only [if_true]
  refine Ev.bind hr1 (Ev.bind hr2 ?_)
  simp only [beq_self_eq_true]
  exact Ev.now _
theorem known21 : Ev (fun k => marigraphlaw21_known.f k) true := Ev.of (k := 60) marigraphlaw21_known.mono (by decide +kernel)
/-- The law's plain form. -/
def DownTellsPure : Prop := ∀ (l0 l1 : List Int) (fr tw ev how : Int) (zero : Bool) (lR : List S31), (∀ x ∈ l0, (Lit.int .i64 x).wf = true) → (∀ x ∈ l1, (Lit.int .i64 x).wf = true) → (Lit.int .i64 fr).wf = true → (Lit.int .i64 tw).wf = true → (Lit.int .i64 ev).wf = true → (Lit.int .i64 how).wf = true →
    (∀ x ∈ lR, (Lit.int .i64 x.f0).wf = true ∧ (Lit.int .i64 x.f1.f0).wf = true ∧ (Lit.int .i64 x.f1.f1).wf = true) →
  ∃ (k : Nat) (l : List S31) (p q r s hw : Int), marigraphkeep_Samples.f k l0 l1 30 = some l ∧ marigraphbook_Within.f k fr 0 400 = some p ∧ marigraphbook_Within.f k tw 0 700 = some q ∧ marigraphbook_Within.f k ev 1 100 = some r ∧ marigraphbook_Within.f k how 0 1048576 = some s ∧
    0 ≤ s ∧ s ≤ 1048576 ∧ hw = 1 + Int.tmod s 7 ∧ marigraphlaw21_same.f k l p q r hw zero = some true ∧ marigraphlaw21_same.f k l 0 2000 r hw zero = some true ∧ marigraphlaw21_same.f k l fr tw ev how zero = some true ∧ marigraphlaw21_same.f k (lR.take 8) p q r hw zero = some true ∧ marigraphlaw21_known.f k = some true
theorem smp_num {l : List S31} (h : Smp l) : NumX l := by
  intro x hx
  obtain ⟨j, hj, rfl⟩ := List.getElem_of_mem hx
  have e : l[j] = at_ l j := by
    unfold at_
    rw [List.getD_eq_getElem?_getD, List.getElem?_eq_getElem hj]
    rfl
  rw [e]
  have h0 := h.t0 j hj
  have hl := h.len
  have ho := h.ok j hj
  have a1 := ho.lo
  have a2 := ho.hi
  have a3 := ho.dd
  have a4 := ho.rt.d1
  unfold I64
  omega
theorem DownTells : DownTellsPure := by
  intro l0 l1 fr tw ev how zero lR h0 h1 hf ht he hh hR
  obtain ⟨l, hl, ⟨K1, e1⟩⟩ := samples_tells (fun x hx => i64_of (h0 x hx)) (fun x hx => i64_of (h1 x hx))
  obtain ⟨p, ⟨K2, e2⟩, p0, p1, _⟩ := within_ev (n := fr) (lo := 0) (hi := 400) (by decide) (by decide) (by decide) (by decide) (i64_of hf)
  obtain ⟨q, ⟨K3, e3⟩, q0, q1, _⟩ := within_ev (n := tw) (lo := 0) (hi := 700) (by decide) (by decide) (by decide) (by decide) (i64_of ht)
  obtain ⟨r, ⟨K4, e4⟩, r0, r1, _⟩ := within_ev (n := ev) (lo := 1) (hi := 100) (by decide) (by decide) (by decide) (by decide) (i64_of he)
  obtain ⟨s, ⟨K5, e5⟩, s0, s1, _⟩ := within_ev (n := how) (lo := 0) (hi := 1048576) (by decide) (by decide) (by decide) (by decide) (i64_of hh)
  have hx := smp_num hl
  have hn : l.length ≤ 1000 := by have := hl.len; omega
  have hxR : NumX (lR.take 8) := fun x hx => by
    have := hR x (List.mem_of_mem_take hx)
    exact ⟨i64_of this.1, i64_of this.2.1, i64_of this.2.2⟩
  have hnR : (lR.take 8).length ≤ 1000 := by rw [List.length_take]; omega
  obtain ⟨K6, e6⟩ := same_tells hx hn p q r (1 + Int.tmod s 7) zero
  obtain ⟨K7, e7⟩ := same_tells hx hn 0 2000 r (1 + Int.tmod s 7) zero
  obtain ⟨K8, e8⟩ := same_tells hx hn fr tw ev how zero
  obtain ⟨K9, e9⟩ := same_tells hxR hnR p q r (1 + Int.tmod s 7) zero
  obtain ⟨K10, e10⟩ := known21
  have hK : ∀ i, i ≤ K1 + K2 + K3 + K4 + K5 + K6 + K7 + K8 + K9 + K10 → True := fun _ _ => trivial
  exact ⟨K1 + K2 + K3 + K4 + K5 + K6 + K7 + K8 + K9 + K10, l, p, q, r, s, _, e1 _ (by omega), e2 _ (by omega), e3 _ (by omega), e4 _ (by omega), e5 _ (by omega), s0, s1, rfl, e6 _ (by omega), e7 _ (by omega), e8 _ (by omega), e9 _ (by omega), e10 _ (by omega)⟩

end Go.Proofs.Ytlmhgjnlbokceaa.Pure

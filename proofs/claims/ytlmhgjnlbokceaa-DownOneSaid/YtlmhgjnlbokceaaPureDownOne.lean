/- DownOne: buckets of one second have the samples as they are, but counted; one bucket has what fold tells of all. -/
import Derived.Test.YtlmhgjnlbokceaaPDownOnex14
namespace Go.Proofs.Ytlmhgjnlbokceaa.Pure
open Go.RowKit Go.Proofs.Ytlmhgjnlbokceaa.PDownOne Go.Proofs.YtlmhgjnlbokceaaW.PrintWords Go.Proofs.YtlmhgjnlbokceaaW.PrintLast
set_option linter.unusedVariables false
set_option linter.unusedSimpArgs false

theorem evEq {α : Type} {f g : Nat → Option α} {r : α} (hf : ∀ k, f k = g k) (h : Ev g r) : Ev f r := by rw [funext hf]; exact h
theorem i64_of {a : Int} (h : (Lit.int .i64 a).wf = true) : -9223372036854775808 ≤ a ∧ a ≤ 9223372036854775807 := by
  have h1 : IntKind.i64.min = -9223372036854775808 := rfl
  have h2 : IntKind.i64.max = 9223372036854775807 := rfl
  simp only [Lit.wf, Bool.and_eq_true, decide_eq_true_eq] at h
  omega
/-! ### rationals: New, Right -/
def Pure_ofQ (q : Rat) : Int × Int × Int := if q.num.natAbs > 2147483647 ∨ q.den > 2147483647 then (0, 0, 23) else (q.num, (q.den : Int), 0)
def newQ (n d : Int) : Int × Int × Int := if d = 0 then (0, 0, 1) else Pure_ofQ (Rat.divInt n d)
def I64 (n : Int) : Prop := -9223372036854775808 ≤ n ∧ n ≤ 9223372036854775807
theorem wrapU {x : Int} (h0 : 0 ≤ x) (h1 : x < 18446744073709551616) : IntKind.u64.wrap x = x := by
  have : IntKind.u64.wrap x = x % 18446744073709551616 := by simp [IntKind.wrap, IntKind.bits, IntKind.signed]
  rw [this]; exact Int.emod_eq_of_lt h0 h1
theorem wrapU_eq (x : Int) : IntKind.u64.wrap x = x % 18446744073709551616 := by simp [IntKind.wrap, IntKind.bits, IntKind.signed]
theorem wrap64_id {x : Int} (h : I64 x) : wrap64 x = x := by unfold I64 at h; unfold wrap64; omega
theorem size_tells {n : Int} (h : I64 n) : rat_size.f n = some (n.natAbs : Int) := by
  unfold I64 at h
  unfold rat_size.f
  by_cases hn : n < 0
  · rw [if_pos hn, wrapU_eq, wrapU_eq]
    congr 1
    omega
  · rw [if_neg hn, wrapU_eq]
    congr 1
    omega
theorem common_tells (b : Nat) : ∀ (a k : Nat), b < k → rat_common.l0 k (a : Int) (b : Int) = some ((Nat.gcd a b : Nat) : Int) := by
  induction b using Nat.strongRecOn with
  | _ b ih =>
    intro a k hk
    obtain ⟨k, rfl⟩ : ∃ m, k = m + 1 := ⟨k - 1, by omega⟩
    simp only [rat_common.l0]
    by_cases hb : b = 0
    · subst hb
      rw [if_neg (by omega), Nat.gcd_zero_right]
    · rw [if_pos (by omega), if_neg (by omega)]
      have e : Int.tmod (a : Int) (b : Int) = ((a % b : Nat) : Int) := by rw [Int.ofNat_tmod]
      have hl : a % b < b := Nat.mod_lt _ (by omega)
      rw [e, ih (a % b) hl b k (by omega), Nat.gcd_comm a b, Nat.gcd_rec b a, Nat.gcd_comm]
theorem new_parts (n d : Int) (hd : d ≠ 0) : (Rat.divInt n d).den = d.natAbs / Nat.gcd n.natAbs d.natAbs ∧ (Rat.divInt n d).num.natAbs = n.natAbs / Nat.gcd n.natAbs d.natAbs ∧
    (if (decide (n < 0)) != (decide (d < 0)) then (Rat.divInt n d).num = -((n.natAbs / Nat.gcd n.natAbs d.natAbs : Nat) : Int) else (Rat.divInt n d).num = ((n.natAbs / Nat.gcd n.natAbs d.natAbs : Nat) : Int)) := by
  have hg : Int.gcd d n = Nat.gcd n.natAbs d.natAbs := by unfold Int.gcd; exact Nat.gcd_comm _ _
  have hpos : 0 < Nat.gcd n.natAbs d.natAbs := Nat.gcd_pos_of_pos_right _ (by omega)
  refine ⟨by rw [Rat.den_divInt, if_neg hd, hg], ?_⟩
  rw [Rat.num_divInt, hg]
  obtain ⟨c, hc⟩ : ∃ c : Int, n = (Nat.gcd n.natAbs d.natAbs : Int) * c := by
    have : ((Nat.gcd n.natAbs d.natAbs : Nat) : Int) ∣ n := Int.natAbs_dvd_natAbs.1 (by rw [Int.natAbs_natCast]; exact Nat.gcd_dvd_left _ _)
    exact this
  generalize Nat.gcd n.natAbs d.natAbs = g at *
  have hA : n.natAbs / g = c.natAbs := by
    rw [hc, Int.natAbs_mul, Int.natAbs_natCast]
    exact Nat.mul_div_cancel_left _ hpos
  have hnc : (n < 0 ↔ c < 0) := by
    have hg0 : (0 : Int) < (g : Int) := by omega
    constructor
    · intro h
      by_cases h' : c < 0
      · exact h'
      · have := Int.mul_nonneg (Int.le_of_lt hg0) (Int.not_lt.1 h'); omega
    · intro h
      have := Int.mul_neg_of_pos_of_neg hg0 h; omega
  rw [hA]
  have hq : d.sign * n / (g : Int) = d.sign * c := by
    rw [hc, ← Int.mul_assoc, Int.mul_comm d.sign, Int.mul_assoc]
    exact Int.mul_ediv_cancel_left _ (by omega)
  rw [hq]
  rcases Int.lt_trichotomy d 0 with h | h | h
  · rw [Int.sign_eq_neg_one_of_neg h]
    have h1 : decide (d < 0) = true := decide_eq_true h
    rw [h1]
    by_cases hn : n < 0
    · have h2 := hnc.1 hn
      rw [decide_eq_true hn]
      simp only [bne_self_eq_false, Bool.false_eq_true, if_false]
      omega
    · have h2 : ¬ c < 0 := fun h => hn (hnc.2 h)
      rw [decide_eq_false hn]
      simp only [Bool.bne_true, Bool.not_false, if_true]
      omega
  · exact absurd h hd
  · rw [Int.sign_eq_one_of_pos h]
    have h1 : decide (d < 0) = false := decide_eq_false (by omega)
    rw [h1]
    by_cases hn : n < 0
    · have h2 := hnc.1 hn
      rw [decide_eq_true hn]
      simp only [Bool.bne_false, if_true]
      omega
    · have h2 : ¬ c < 0 := fun h => hn (hnc.2 h)
      rw [decide_eq_false hn]
      simp only [bne_self_eq_false, Bool.false_eq_true, if_false]
      omega
theorem new_at (n d : Int) (hn : I64 n) (hd : I64 d) (k : Nat) (hk : d.natAbs + 2 < k) : rat_New.f k n d = some (newQ n d) := by
  unfold rat_New.f newQ
  by_cases h0 : d = 0
  · rw [if_pos h0, if_pos h0]
  rw [if_neg h0, if_neg h0, size_tells hn, size_tells hd]
  simp only [Option.bind_some]
  unfold rat_common.f
  rw [common_tells d.natAbs n.natAbs k (by omega)]
  simp only [Option.bind_some]
  obtain ⟨e1, e2, e3⟩ := new_parts n d h0
  have hpos : 0 < Nat.gcd n.natAbs d.natAbs := Nat.gcd_pos_of_pos_right _ (by omega)
  generalize Nat.gcd n.natAbs d.natAbs = g at *
  have t1 : IntKind.u64.wrap (Int.tdiv (n.natAbs : Int) (g : Int)) = ((n.natAbs / g : Nat) : Int) := by
    rw [← Int.ofNat_tdiv]
    have := Nat.div_le_self n.natAbs g
    unfold I64 at hn
    exact wrapU (by omega) (by omega)
  have t2 : IntKind.u64.wrap (Int.tdiv (d.natAbs : Int) (g : Int)) = ((d.natAbs / g : Nat) : Int) := by
    rw [← Int.ofNat_tdiv]
    have := Nat.div_le_self d.natAbs g
    unfold I64 at hd
    exact wrapU (by omega) (by omega)
  rw [t1, t2, if_neg (by omega)]
  unfold Pure_ofQ
  rw [e1, e2]
  generalize n.natAbs / g = A at *
  generalize d.natAbs / g = B at *
  obtain ⟨k, rfl⟩ : ∃ m, k = m + 1 := ⟨k - 1, by omega⟩
  by_cases hA : (A : Int) > 2147483647
  · rw [if_pos hA, if_pos (Or.inl (by omega))]
    simp only [rat_New.j0, if_true]
  · rw [if_neg hA]
    by_cases hB : (B : Int) > 2147483647
    · rw [decide_eq_true hB, if_pos (Or.inr (by omega))]
      simp only [rat_New.j0, if_true]
    · rw [decide_eq_false hB, if_neg (by omega)]
      simp only [rat_New.j0, Bool.false_eq_true, if_false]
      have w1 : wrap64 (A : Int) = (A : Int) := wrap64_id (by unfold I64; omega)
      have w2 : wrap64 (B : Int) = (B : Int) := wrap64_id (by unfold I64; omega)
      have w3 : wrap64 (-(A : Int)) = -(A : Int) := wrap64_id (by unfold I64; omega)
      rw [w1, w2, w3]
      by_cases hs : ((decide (n < 0)) != (decide (d < 0))) = true
      · rw [if_pos hs] at e3 ⊢
        rw [e3]
      · rw [if_neg hs] at e3 ⊢
        rw [e3]
theorem new_tells {n d : Int} (hn : I64 n) (hd : I64 d) : Ev (fun k => rat_New.f k n d) (newQ n d) := ⟨d.natAbs + 3, fun k hk => new_at n d hn hd k (by omega)⟩
/-- A number that is right: in lowest terms, within the bounds. -/
structure Rt (n d : Int) : Prop where
  n1 : -2147483647 ≤ n
  n2 : n ≤ 2147483647
  d1 : 1 ≤ d
  d2 : d ≤ 2147483647
  num : (Rat.divInt n d).num = n
  den : ((Rat.divInt n d).den : Int) = d
def rightQ (n d : Int) : Bool := decide (d > 0) && decide (newQ n d = (n, d, 0))
theorem Rt.right {n d : Int} (h : Rt n d) : rightQ n d = true := by
  unfold rightQ newQ Pure_ofQ
  have h1 := h.n1
  have h2 := h.n2
  have h3 := h.d1
  have h4 := h.d2
  have h5 := h.num
  have h6 := h.den
  rw [if_neg (by omega), if_neg (by omega), h5, h6]
  simp only [decide_true, Bool.and_true, decide_eq_true_eq]
  omega
theorem Rt.of_right {n d : Int} (h : rightQ n d = true) : Rt n d := by
  unfold rightQ newQ Pure_ofQ at h
  rw [Bool.and_eq_true, decide_eq_true_eq, decide_eq_true_eq] at h
  obtain ⟨hd, h⟩ := h
  rw [if_neg (by omega)] at h
  by_cases hb : (Rat.divInt n d).num.natAbs > 2147483647 ∨ (Rat.divInt n d).den > 2147483647
  · rw [if_pos hb] at h
    simp only [Prod.mk.injEq] at h
    omega
  · rw [if_neg hb] at h
    simp only [Prod.mk.injEq, and_true] at h
    obtain ⟨h1, h2⟩ := h
    exact ⟨by omega, by omega, by omega, by omega, h1, h2⟩
theorem right_tells {n d : Int} (hn : I64 n) (hd : I64 d) : Ev (fun k => rat_Right.f k n d) (rightQ n d) := by
  refine Ev.bind (new_tells hn hd) ?_
  unfold rightQ
  by_cases h0 : d > 0
  · simp only [if_pos h0, decide_eq_true h0, Bool.true_and]
    obtain ⟨a, b, c⟩ := newQ n d
    simp only [Prod.mk.injEq]
    by_cases hc : c = 0
    · simp only [if_pos hc]
      refine ⟨0, fun _ _ => ?_⟩
      show some _ = some _
      congr 1
      rw [Bool.eq_iff_iff]
      simp [hc]
    · simp only [if_neg hc]
      refine ⟨0, fun _ _ => ?_⟩
      show some _ = some _
      congr 1
      simp [hc]
  · simp only [if_neg h0, decide_eq_false h0, Bool.false_and]
    exact Ev.now _
theorem Rt.i64n {n d : Int} (h : Rt n d) : I64 n := ⟨by have := h.n1; omega, by have := h.n2; omega⟩
theorem Rt.i64d {n d : Int} (h : Rt n d) : I64 d := ⟨by have := h.d1; omega, by have := h.d2; omega⟩
theorem Rt.ofQ {q : Rat} {n d : Int} (h : Pure_ofQ q = (n, d, 0)) : Rt n d ∧ Rat.divInt n d = q := by
  unfold Pure_ofQ at h
  by_cases hb : q.num.natAbs > 2147483647 ∨ q.den > 2147483647
  · rw [if_pos hb] at h; simp at h
  · rw [if_neg hb] at h
    simp only [Prod.mk.injEq, and_true] at h
    obtain ⟨rfl, rfl⟩ := h
    have e := Rat.num_divInt_den q
    have hd := q.den_pos
    exact ⟨⟨by omega, by omega, by omega, by omega, by rw [e], by rw [e]⟩, e⟩
theorem Rt.same {a b c d : Int} (h : Rt a b) (k : Rt c d) (e : Rat.divInt a b = Rat.divInt c d) : a = c ∧ b = d := by
  have h1 := h.num; have h2 := h.den; have k1 := k.num; have k2 := k.den
  rw [e] at h1 h2
  omega
theorem mulM {x y : Int} (hx : -2147483647 ≤ x ∧ x ≤ 2147483647) (hy : -2147483647 ≤ y ∧ y ≤ 2147483647) : -4611686014132420609 ≤ x * y ∧ x * y ≤ 4611686014132420609 := by
  have h := Nat.mul_le_mul (show x.natAbs ≤ 2147483647 by omega) (show y.natAbs ≤ 2147483647 by omega)
  rw [← Int.natAbs_mul] at h
  omega
/-! ### marigraphkeep.Rat: a right number, small -/
theorem within_ev {n lo hi : Int} (h1 : 0 ≤ lo + 1000) (h2 : lo ≤ hi) (h3 : hi < 2000000) (h4 : -1000 ≤ lo) (hn : I64 n) : ∃ r, Ev (fun k => marigraphbook_Within.f k n lo hi) r ∧ lo ≤ r ∧ r ≤ hi ∧ (lo ≤ n → n ≤ hi → r = n) := by
  unfold I64 at hn
  have e1 : wrap64 (wrap64 (hi - lo) + 1) = hi - lo + 1 := by unfold wrap64; omega
  have hj : ∀ b : Bool, (b = true ↔ (lo ≤ n ∧ n ≤ hi)) → ∃ r, (∀ k, marigraphbook_Within.j0 (k + 1) n lo hi b = some r) ∧ lo ≤ r ∧ r ≤ hi ∧ (lo ≤ n → n ≤ hi → r = n) := by
    intro b hb
    simp only [marigraphbook_Within.j0, e1]
    cases b with
    | true =>
      have := hb.1 rfl
      exact ⟨n, fun _ => by rw [if_pos rfl], this.1, this.2, fun _ _ => rfl⟩
    | false =>
      have hno : ¬ (lo ≤ n ∧ n ≤ hi) := fun h => by have := hb.2 h; cases this
      simp only [Bool.false_eq_true, if_false]
      rw [if_neg (by omega)]
      have hm : (0 : Int) < hi - lo + 1 := by omega
      have t1 : Int.tmod n (hi - lo + 1) < hi - lo + 1 := Int.tmod_lt_of_pos _ hm
      have t2 : -(hi - lo + 1) < Int.tmod n (hi - lo + 1) := by
        have := Int.tmod_lt_of_pos (-n) hm
        rw [Int.neg_tmod] at this
        omega
      generalize Int.tmod n (hi - lo + 1) = t at *
      by_cases ht : t < 0
      · rw [if_pos ht]
        have e : wrap64 (lo + wrap64 (wrap64 (wrap64 (t + hi) - lo) + 1)) = t + hi + 1 := by unfold wrap64; omega
        rw [e]
        exact ⟨_, fun _ => rfl, by omega, by omega, fun a b => absurd ⟨a, b⟩ hno⟩
      · rw [if_neg ht]
        have e : wrap64 (lo + t) = lo + t := by unfold wrap64; omega
        rw [e]
        exact ⟨_, fun _ => rfl, by omega, by omega, fun a b => absurd ⟨a, b⟩ hno⟩
  have fin : ∀ b : Bool, (∀ k, marigraphbook_Within.f k n lo hi = marigraphbook_Within.j0 k n lo hi b) → (b = true ↔ (lo ≤ n ∧ n ≤ hi)) → ∃ r, Ev (fun k => marigraphbook_Within.f k n lo hi) r ∧ lo ≤ r ∧ r ≤ hi ∧ (lo ≤ n → n ≤ hi → r = n) := by
    intro b hf hb
    obtain ⟨r, h, hr⟩ := hj b hb
    refine ⟨r, ⟨1, fun k hk => ?_⟩, hr⟩
    obtain ⟨k, rfl⟩ : ∃ m, k = m + 1 := ⟨k - 1, by omega⟩
    show marigraphbook_Within.f (k + 1) n lo hi = some r
    rw [hf]
    exact h k
  by_cases hlo : n ≥ lo
  · refine fin (decide (n ≤ hi)) (fun k => by unfold marigraphbook_Within.f; rw [if_pos hlo]) ?_
    rw [decide_eq_true_iff]
    exact ⟨fun h => ⟨hlo, h⟩, fun h => h.2⟩
  · refine fin false (fun k => by unfold marigraphbook_Within.f; rw [if_neg hlo]) ?_
    constructor
    · intro h; cases h
    · intro h; omega
def NoDiv (a b j : Int) : Prop := ∀ i : Int, 2 ≤ i → i < j → ¬ (i ∣ a ∧ i ∣ b)
theorem keep_loops (K : Nat) : (∀ (a b j : Int), 1 ≤ b → b ≤ 12 → -60 ≤ a → a ≤ 60 → 2 ≤ j → j ≤ 13 → 3 * b + 2 * (14 - j) + 1 ≤ K → NoDiv a b j → ∃ N D, marigraphkeep_Rat.l0 K a b j = some (N, D) ∧ 1 ≤ D ∧ D ≤ 12 ∧ -60 ≤ N ∧ N ≤ 60 ∧ NoDiv N D (D + 1)) ∧
    (∀ (a b j : Int), 1 ≤ b → b ≤ 12 → -60 ≤ a → a ≤ 60 → 2 ≤ j → j ≤ b → 3 * b + 2 * (14 - j) ≤ K → NoDiv a b j → ∃ N D, marigraphkeep_Rat.l1 K a b j = some (N, D) ∧ 1 ≤ D ∧ D ≤ 12 ∧ -60 ≤ N ∧ N ≤ 60 ∧ NoDiv N D (D + 1)) := by
  induction K with
  | zero => exact ⟨fun a b j h1 h2 h3 h4 h5 h6 hK => by omega, fun a b j h1 h2 h3 h4 h5 h6 hK => by omega⟩
  | succ K ih =>
    refine ⟨fun a b j h1 h2 h3 h4 h5 h6 hK hno => ?_, fun a b j h1 h2 h3 h4 h5 h6 hK hno => ?_⟩
    · simp only [marigraphkeep_Rat.l0]
      by_cases hj : j ≤ b
      · rw [if_pos hj]
        exact ih.2 a b j h1 h2 h3 h4 h5 hj (by omega) hno
      · rw [if_neg hj]
        exact ⟨a, b, rfl, h1, h2, h3, h4, fun i hi1 hi2 => hno i hi1 (by omega)⟩
    · simp only [marigraphkeep_Rat.l1]
      rw [if_neg (by omega)]
      have wj : wrap64 (j + 1) = j + 1 := wrap64_id ⟨by omega, by omega⟩
      have next : (¬ (j ∣ a ∧ j ∣ b)) → ∃ N D, marigraphkeep_Rat.l0 K a b (wrap64 (j + 1)) = some (N, D) ∧ 1 ≤ D ∧ D ≤ 12 ∧ -60 ≤ N ∧ N ≤ 60 ∧ NoDiv N D (D + 1) := by
        intro hnd
        rw [wj]
        refine ih.1 a b (j + 1) h1 h2 h3 h4 (by omega) (by omega) (by omega) (fun i hi1 hi2 hd => ?_)
        by_cases hij : i < j
        · exact hno i hi1 hij hd
        · obtain rfl : i = j := by omega
          exact hnd hd
      by_cases ha : Int.tmod a j = 0
      · rw [if_pos ha]
        have da : j ∣ a := Int.dvd_of_tmod_eq_zero ha
        by_cases hb : Int.tmod b j = 0
        · rw [if_pos hb]
          have db : j ∣ b := Int.dvd_of_tmod_eq_zero hb
          obtain ⟨x, rfl⟩ := da
          obtain ⟨y, rfl⟩ := db
          have ex : Int.tdiv (j * x) j = x := Int.mul_tdiv_cancel_left _ (by omega)
          have ey : Int.tdiv (j * y) j = y := Int.mul_tdiv_cancel_left _ (by omega)
          have y1 : 1 ≤ y := by
            by_cases hy : y ≤ 0
            · have := Int.mul_nonneg_of_nonpos_of_nonpos (show -j ≤ 0 by omega) hy
              rw [Int.neg_mul] at this
              omega
            · omega
          have y2 : 2 * y ≤ j * y := Int.mul_le_mul_of_nonneg_right h5 (by omega)
          have x1 : x.natAbs ≤ (j * x).natAbs := by
            rw [Int.natAbs_mul]
            exact Nat.le_mul_of_pos_left _ (by omega)
          rw [ex, ey, wrap64_id (show I64 x from ⟨by omega, by omega⟩), wrap64_id (show I64 y from ⟨by omega, by omega⟩)]
          have hno' : NoDiv x y j := fun i hi1 hi2 hd => hno i hi1 hi2 ⟨Int.dvd_trans hd.1 (Int.dvd_mul_left _ _), Int.dvd_trans hd.2 (Int.dvd_mul_left _ _)⟩
          by_cases hjy : j ≤ y
          · exact ih.2 x y j (by omega) (by omega) (by omega) (by omega) h5 hjy (by omega) hno'
          · obtain ⟨K', rfl⟩ : ∃ m, K = m + 1 := ⟨K - 1, by omega⟩
            simp only [marigraphkeep_Rat.l1]
            rw [if_neg (by omega)]
            have wj' : wrap64 (j + 1) = j + 1 := wj
            have stop : ∀ k' : Nat, 0 < k' → ∀ j' : Int, j ≤ j' → ∃ N D, marigraphkeep_Rat.l0 k' x y j' = some (N, D) ∧ 1 ≤ D ∧ D ≤ 12 ∧ -60 ≤ N ∧ N ≤ 60 ∧ NoDiv N D (D + 1) := by
              intro k' hk' j' hj'
              obtain ⟨k', rfl⟩ : ∃ m, k' = m + 1 := ⟨k' - 1, by omega⟩
              simp only [marigraphkeep_Rat.l0]
              rw [if_neg (by omega)]
              exact ⟨x, y, rfl, by omega, by omega, by omega, by omega, fun i hi1 hi2 => hno' i hi1 (by omega)⟩
            have hty : ¬ Int.tmod y j = 0 := by
              rw [Int.tmod_eq_of_lt (by omega) (by omega)]
              omega
            rw [wj', if_neg hty]
            by_cases hx : Int.tmod x j = 0
            · rw [if_pos hx]; exact stop K' (by omega) _ (by omega)
            · rw [if_neg hx]; exact stop K' (by omega) _ (by omega)
        · rw [if_neg hb]
          exact next (fun h => hb (Int.tmod_eq_zero_of_dvd h.2))
      · rw [if_neg ha]
        exact next (fun h => ha (Int.tmod_eq_zero_of_dvd h.1))
theorem rt_of_nodiv {N D : Int} (h1 : 1 ≤ D) (h2 : D ≤ 12) (h3 : -60 ≤ N) (h4 : N ≤ 60) (hno : NoDiv N D (D + 1)) : Rt N D := by
  have hg : Nat.gcd N.natAbs D.natAbs = 1 := by
    have hpos : 0 < Nat.gcd N.natAbs D.natAbs := Nat.gcd_pos_of_pos_right _ (by omega)
    have hle : Nat.gcd N.natAbs D.natAbs ≤ D.natAbs := Nat.le_of_dvd (by omega) (Nat.gcd_dvd_right _ _)
    by_cases h : Nat.gcd N.natAbs D.natAbs = 1
    · exact h
    · refine absurd ⟨?_, ?_⟩ (hno (Nat.gcd N.natAbs D.natAbs : Nat) (by omega) (by omega))
      · exact Int.natAbs_dvd_natAbs.1 (by rw [Int.natAbs_natCast]; exact Nat.gcd_dvd_left _ _)
      · exact Int.natAbs_dvd_natAbs.1 (by rw [Int.natAbs_natCast]; exact Nat.gcd_dvd_right _ _)
  obtain ⟨e1, _, e3⟩ := new_parts N D (by omega)
  rw [hg, Nat.div_one] at e1 e3
  rw [decide_eq_false (show ¬ D < 0 by omega)] at e3
  refine ⟨by omega, by omega, by omega, by omega, ?_, by omega⟩
  by_cases hn : N < 0
  · rw [decide_eq_true hn] at e3
    simp only [Bool.bne_false, if_true] at e3
    omega
  · rw [decide_eq_false hn] at e3
    simp only [bne_self_eq_false, Bool.false_eq_true, if_false] at e3
    omega
theorem keep_tells {x y : Int} (hx : I64 x) (hy : I64 y) : ∃ N D, Ev (fun k => marigraphkeep_Rat.f k x y) (N, D) ∧ Rt N D ∧ -60 ≤ N ∧ N ≤ 60 ∧ 1 ≤ D ∧ D ≤ 12 := by
  obtain ⟨a, ha, a1, a2, _⟩ := within_ev (lo := -60) (hi := 60) (by omega) (by omega) (by omega) (by omega) hx
  obtain ⟨b, hb, b1, b2, _⟩ := within_ev (lo := 1) (hi := 12) (by omega) (by omega) (by omega) (by omega) hy
  have hl : ∀ K : Nat, 100 ≤ K → ∃ N D, marigraphkeep_Rat.l0 K a b 2 = some (N, D) ∧ 1 ≤ D ∧ D ≤ 12 ∧ -60 ≤ N ∧ N ≤ 60 ∧ NoDiv N D (D + 1) :=
    fun K hK => (keep_loops K).1 a b 2 b1 b2 a1 a2 (by omega) (by omega) (by omega) (fun i h1 h2 => by omega)
  obtain ⟨N, D, h0, d1, d2, n1, n2, hno⟩ := hl 100 (by omega)
  refine ⟨N, D, ?_, rt_of_nodiv d1 d2 n1 n2 hno, n1, n2, d1, d2⟩
  refine Ev.bind ha (Ev.bind hb ?_)
  exact Ev.of (fun k => marigraphkeep_Rat.mono_l k |>.1 _ _ _) h0
/-! ### Cmp, Add, Sub, Mul, Div of right numbers -/
def VQ (n d : Int) : Rat := Rat.divInt n d
theorem ratlt {n d m e : Int} (h : Rt n d) (k : Rt m e) : n * e < m * d ↔ VQ n d < VQ m e := by
  rw [Rat.lt_iff]
  unfold VQ
  rw [h.num, h.den, k.num, k.den]
theorem rateq {n d m e : Int} (h : Rt n d) (k : Rt m e) : (n = m ∧ d = e) ↔ VQ n d = VQ m e := ⟨fun he => by rw [he.1, he.2], fun he => h.same k he⟩
def cmpQ (a b : Rat) : Int := if a < b then -1 else if a = b then 0 else 1
theorem prodw {x y : Int} (hx : -2147483647 ≤ x ∧ x ≤ 2147483647) (hy : -2147483647 ≤ y ∧ y ≤ 2147483647) : wrap64 (x * y) = x * y := by
  have := mulM hx hy
  exact wrap64_id ⟨by omega, by omega⟩
theorem exactQ {f : Nat → Option (Int × Int × Int)} {n d : Int} {q : Rat} (hn : I64 n) (hd : I64 d) (h0 : d ≠ 0) (hq : Rat.divInt n d = q) (hf : ∀ k, f (k + 1) = (rat_New.f k n d).bind fun t => some (t.1, t.2.1, t.2.2)) : Ev f (Pure_ofQ q) := by
  refine Ev.step hf ?_
  have h := new_tells hn hd
  have e : newQ n d = Pure_ofQ q := by unfold newQ; rw [if_neg h0, hq]
  rw [e] at h
  exact Ev.bind h (Ev.now _)
theorem cmp_tells {n d m e : Int} (h : Rt n d) (k : Rt m e) : Ev (fun K => rat_Cmp.f K n d m e) (cmpQ (VQ n d) (VQ m e)) := by
  have r1 := right_tells h.i64n h.i64d
  have r2 := right_tells k.i64n k.i64d
  rw [h.right] at r1
  rw [k.right] at r2
  refine Ev.bind r1 (Ev.bind r2 ?_)
  simp only [if_true, Bool.not_true]
  refine ⟨1, fun K hK => ?_⟩
  obtain ⟨K, rfl⟩ : ∃ m, K = m + 1 := ⟨K - 1, by omega⟩
  simp only [rat_Cmp.j0, Bool.false_eq_true, if_false, if_true]
  have h1 := h.n1; have h2 := h.n2; have h3 := h.d1; have h4 := h.d2
  have k1 := k.n1; have k2 := k.n2; have k3 := k.d1; have k4 := k.d2
  rw [prodw (x := n) (y := e) ⟨by omega, by omega⟩ ⟨by omega, by omega⟩, prodw (x := m) (y := d) ⟨by omega, by omega⟩ ⟨by omega, by omega⟩]
  unfold cmpQ
  by_cases hlt : n * e < m * d
  · rw [if_pos hlt, if_pos ((ratlt h k).1 hlt)]
  · rw [if_neg hlt, if_neg (fun hh => hlt ((ratlt h k).2 hh))]
    by_cases he : VQ n d = VQ m e
    · obtain ⟨e1, e2⟩ := (rateq h k).2 he
      rw [if_pos (by rw [e1, e2]; simp), if_pos he]
    · rw [if_neg (fun hh => he ((rateq h k).1 (by simpa using hh))), if_neg he]
theorem Add_tells {n d m e : Int} (h : Rt n d) (k : Rt m e) : Ev (fun K => rat_Add.f K n d m e) (Pure_ofQ (VQ n d + VQ m e)) := by
  have r1 := right_tells h.i64n h.i64d
  have r2 := right_tells k.i64n k.i64d
  rw [h.right] at r1
  rw [k.right] at r2
  have h1 := h.n1; have h2 := h.n2; have h3 := h.d1; have h4 := h.d2
  have k1 := k.n1; have k2 := k.n2; have k3 := k.d1; have k4 := k.d2
  have hd0 : d ≠ 0 := by omega
  have he0 : e ≠ 0 := by omega
  have p1 := mulM (x := n) (y := e) ⟨by omega, by omega⟩ ⟨by omega, by omega⟩
  have p2 := mulM (x := m) (y := d) ⟨by omega, by omega⟩ ⟨by omega, by omega⟩
  have p3 := mulM (x := d) (y := e) ⟨by omega, by omega⟩ ⟨by omega, by omega⟩
  have p4 := mulM (x := n) (y := m) ⟨by omega, by omega⟩ ⟨by omega, by omega⟩
  have hde : d * e ≠ 0 := Int.mul_ne_zero hd0 he0
  refine Ev.bind (g := fun K => rat_exact_of_rat_Add_1_rat_both.f K n d m e) (a := Pure_ofQ (VQ n d + VQ m e)) (f := fun _ b => some (b.1, b.2.1, b.2.2)) (Ev.bind r1 ?_) (Ev.now _)
  simp only [if_true]
  refine Ev.bind r2 ?_
  refine exactQ (n := n * e + m * d) (d := d * e) ⟨by omega, by omega⟩ ⟨by omega, by omega⟩ hde ?_ (fun K => ?_)
  · exact (Rat.divInt_add_divInt _ _ hd0 he0).symm
  · simp only [rat_exact_of_rat_Add_1_rat_both.j0, rat_Add_1.f, rat_both.f, Bool.not_true, Bool.false_eq_true, if_false, Option.bind_some]
    rw [wrap64_id (x := d * e) ⟨by omega, by omega⟩]
    rw [wrap64_id (x := n * e) ⟨by omega, by omega⟩, wrap64_id (x := m * d) ⟨by omega, by omega⟩, wrap64_id (x := n * e + m * d) ⟨by omega, by omega⟩]
theorem Div_tells {n d m e : Int} (h : Rt n d) (k : Rt m e) : Ev (fun K => rat_Div.f K n d m e) (newQ (n * e) (d * m)) := by
  have r1 := right_tells h.i64n h.i64d
  have r2 := right_tells k.i64n k.i64d
  rw [h.right] at r1
  rw [k.right] at r2
  have h1 := h.n1; have h2 := h.n2; have h3 := h.d1; have h4 := h.d2
  have k1 := k.n1; have k2 := k.n2; have k3 := k.d1; have k4 := k.d2
  have p1 := mulM (x := n) (y := e) ⟨by omega, by omega⟩ ⟨by omega, by omega⟩
  have p2 := mulM (x := d) (y := m) ⟨by omega, by omega⟩ ⟨by omega, by omega⟩
  refine Ev.bind (g := fun K => rat_exact_of_rat_Div_1_rat_Div_2.f K n d m e) (a := newQ (n * e) (d * m)) (f := fun _ b => some (b.1, b.2.1, b.2.2)) (Ev.bind r1 ?_) (Ev.now _)
  simp only [if_true]
  refine Ev.bind r2 ?_
  refine Ev.step (f := fun K => (rat_New.f K (n * e) (d * m)).bind fun t => some (t.1, t.2.1, t.2.2)) (fun K => ?_) (Ev.bind (new_tells ⟨by omega, by omega⟩ ⟨by omega, by omega⟩) (Ev.now _))
  simp only [rat_exact_of_rat_Div_1_rat_Div_2.j0, rat_Div_1.f, rat_Div_2.f, Bool.not_true, Bool.false_eq_true, if_false, Option.bind_some]
  rw [wrap64_id (x := n * e) ⟨by omega, by omega⟩, wrap64_id (x := d * m) ⟨by omega, by omega⟩]
theorem rt_one {n : Int} (h1 : -2147483647 ≤ n) (h2 : n ≤ 2147483647) : Rt n 1 := by
  obtain ⟨e1, e2, e3⟩ := new_parts n 1 (by decide)
  simp only [Int.natAbs_one, Nat.gcd_one_right, Nat.div_one] at e1 e2 e3
  refine ⟨h1, h2, by decide, by decide, ?_, by rw [e1]; rfl⟩
  by_cases hn : n < 0
  · simp [hn] at e3; omega
  · simp [hn] at e3; omega
theorem of_tells {n : Int} (h1 : -2147483647 ≤ n) (h2 : n ≤ 2147483647) : Ev (fun k => rat_Of.f k n) (n, 1, 0) := by
  have h := new_tells (n := n) (d := 1) ⟨by omega, by omega⟩ ⟨by decide, by decide⟩
  have r := rt_one h1 h2
  have e : newQ n 1 = (n, 1, 0) := by
    unfold newQ Pure_ofQ
    have := r.num; have := r.den
    rw [if_neg (by decide), if_neg (by omega), r.num, r.den]
  rw [e] at h
  exact Ev.bind h (Ev.now _)
/-! ### the document's rationals: New, Right, Op, Cmp tell the same -/
theorem rparts {n : Int} (h : I64 n) : marigraphref1_parts.f n = some (decide (n < 0), (n.natAbs : Int)) := by
  unfold I64 at h
  unfold marigraphref1_parts.f
  by_cases hn : n < 0
  · rw [if_pos hn, decide_eq_true hn, wrapU_eq, wrapU_eq]
    congr 2
    omega
  · rw [if_neg hn, decide_eq_false hn, wrapU_eq]
    congr 2
    omega
def finQ (s t : Bool) (A B : Nat) : Int × Int × Int := if A > 2147483647 ∨ B > 2147483647 then (0, 0, 23) else if (s != t) = true then (-(A : Int), (B : Int), 0) else ((A : Int), (B : Int), 0)
theorem rnew_j1 (s t : Bool) (A B k : Nat) (hA : ¬ A > 2147483647) : marigraphref1_New.j1 (k + 1) s (A : Int) t (B : Int) (decide ((B : Int) > 2147483647)) = some (finQ s t A B) := by
  unfold finQ
  by_cases hB : (B : Int) > 2147483647
  · rw [decide_eq_true hB, if_pos (Or.inr (by omega))]
    simp only [marigraphref1_New.j1, if_true]
  · rw [decide_eq_false hB, if_neg (by omega)]
    simp only [marigraphref1_New.j1, Bool.false_eq_true, if_false]
    have w1 : wrap64 (A : Int) = (A : Int) := wrap64_id (by unfold I64; omega)
    have w2 : wrap64 (B : Int) = (B : Int) := wrap64_id (by unfold I64; omega)
    have w3 : wrap64 (-(A : Int)) = -(A : Int) := wrap64_id (by unfold I64; omega)
    rw [w1, w2, w3]
    by_cases hs : (s != t) = true
    · rw [if_pos hs, if_pos hs]
    · rw [if_neg hs, if_neg hs]
theorem rnew_loop (X Y : Nat) (s t : Bool) (hX : X < 18446744073709551616) (hY : Y < 18446744073709551616) (b : Nat) : ∀ (a k : Nat), 0 < Nat.gcd a b → b + 1 < k →
    marigraphref1_New.l0 k s (X : Int) t (Y : Int) (a : Int) (b : Int) = some (finQ s t (X / Nat.gcd a b) (Y / Nat.gcd a b)) := by
  induction b using Nat.strongRecOn with
  | _ b ih =>
    intro a k hg hk
    obtain ⟨k, rfl⟩ : ∃ m, k = m + 1 := ⟨k - 1, by omega⟩
    simp only [marigraphref1_New.l0]
    by_cases hb : b = 0
    · subst hb
      rw [Nat.gcd_zero_right] at hg ⊢
      rw [if_pos (by omega), if_neg (by omega)]
      have t1 : IntKind.u64.wrap (Int.tdiv (X : Int) (a : Int)) = ((X / a : Nat) : Int) := by
        rw [← Int.ofNat_tdiv]
        have h9 := Nat.div_le_self X a
        generalize X / a = Z at h9
        exact wrapU (by omega) (by omega)
      have t2 : IntKind.u64.wrap (Int.tdiv (Y : Int) (a : Int)) = ((Y / a : Nat) : Int) := by
        rw [← Int.ofNat_tdiv]
        have h9 := Nat.div_le_self Y a
        generalize Y / a = Z at h9
        exact wrapU (by omega) (by omega)
      rw [t1, t2]
      generalize X / a = A
      generalize Y / a = B
      obtain ⟨k, rfl⟩ : ∃ m, k = m + 1 := ⟨k - 1, by omega⟩
      by_cases hA : A > 2147483647
      · rw [if_pos (by omega)]
        unfold finQ
        rw [if_pos (Or.inl hA)]
        simp only [marigraphref1_New.j1, if_true]
      · rw [if_neg (by omega)]
        exact rnew_j1 s t A B k hA
    · rw [if_neg (by omega)]
      have e : Int.tmod (a : Int) (b : Int) = ((a % b : Nat) : Int) := by rw [Int.ofNat_tmod]
      have hl : a % b < b := Nat.mod_lt _ (by omega)
      have hgg : Nat.gcd b (a % b) = Nat.gcd a b := by rw [Nat.gcd_comm a b, Nat.gcd_rec b a, Nat.gcd_comm]
      rw [e, ih (a % b) hl b k (by rw [hgg]; exact hg) (by omega), hgg]
theorem fin_newQ {n d : Int} (h0 : d ≠ 0) : finQ (decide (n < 0)) (decide (d < 0)) (n.natAbs / Nat.gcd n.natAbs d.natAbs) (d.natAbs / Nat.gcd n.natAbs d.natAbs) = newQ n d := by
  obtain ⟨e1, e2, e3⟩ := new_parts n d h0
  unfold finQ newQ Pure_ofQ
  rw [if_neg h0, e1, e2]
  generalize n.natAbs / Nat.gcd n.natAbs d.natAbs = A at *
  generalize d.natAbs / Nat.gcd n.natAbs d.natAbs = B at *
  by_cases hc : A > 2147483647 ∨ B > 2147483647
  · rw [if_pos hc, if_pos hc]
  · rw [if_neg hc, if_neg hc]
    by_cases hs : ((decide (n < 0)) != (decide (d < 0))) = true
    · rw [if_pos hs] at e3 ⊢
      rw [e3]
    · rw [if_neg hs] at e3 ⊢
      rw [e3]
theorem rnew_tells {n d : Int} (hn : I64 n) (hd : I64 d) : Ev (fun k => marigraphref1_New.f k n d) (newQ n d) := by
  refine ⟨d.natAbs + 3, fun k hk => ?_⟩
  show marigraphref1_New.f k n d = _
  unfold marigraphref1_New.f
  by_cases h0 : d = 0
  · rw [if_pos h0]; unfold newQ; rw [if_pos h0]
  rw [if_neg h0, rparts hn, rparts hd]
  simp only [Option.bind_some]
  have hpos : 0 < Nat.gcd n.natAbs d.natAbs := Nat.gcd_pos_of_pos_right _ (by omega)
  have := hn; have := hd
  unfold I64 at *
  rw [rnew_loop n.natAbs d.natAbs _ _ (by omega) (by omega) d.natAbs n.natAbs k hpos (by omega), fin_newQ h0]
theorem rgcd_tells (b : Nat) : ∀ (a k : Nat), b < k → marigraphref1_gcd.l0 k (a : Int) (b : Int) = some ((Nat.gcd a b : Nat) : Int) := by
  induction b using Nat.strongRecOn with
  | _ b ih =>
    intro a k hk
    obtain ⟨k, rfl⟩ : ∃ m, k = m + 1 := ⟨k - 1, by omega⟩
    simp only [marigraphref1_gcd.l0]
    by_cases hb : b = 0
    · subst hb
      rw [if_pos (by omega), Nat.gcd_zero_right]
    · rw [if_neg (by omega)]
      have e : Int.tmod (a : Int) (b : Int) = ((a % b : Nat) : Int) := by rw [Int.ofNat_tmod]
      have hl : a % b < b := Nat.mod_lt _ (by omega)
      rw [e, ih (a % b) hl b k (by omega), Nat.gcd_comm a b, Nat.gcd_rec b a, Nat.gcd_comm]
theorem rightQ_gcd {n d : Int} (h1 : 1 ≤ d) (h2 : d ≤ 2147483647) (h3 : -2147483647 ≤ n) (h4 : n ≤ 2147483647) : rightQ n d = (((Nat.gcd n.natAbs d.natAbs : Nat) : Int) == 1) := by
  have h0 : d ≠ 0 := by omega
  obtain ⟨e1, e2, e3⟩ := new_parts n d h0
  have hpos : 0 < Nat.gcd n.natAbs d.natAbs := Nat.gcd_pos_of_pos_right _ (by omega)
  have hdv : Nat.gcd n.natAbs d.natAbs ∣ d.natAbs := Nat.gcd_dvd_right _ _
  rw [Bool.eq_iff_iff, beq_iff_eq]
  constructor
  · intro h
    have hr := Rt.of_right h
    have hden := hr.den
    rw [e1] at hden
    generalize Nat.gcd n.natAbs d.natAbs = g at *
    obtain ⟨c, hc⟩ := hdv
    rw [hc, Nat.mul_div_cancel_left _ hpos] at hden
    have hcd : c = d.natAbs := by omega
    rw [hcd] at hc
    have : g = 1 := Nat.eq_of_mul_eq_mul_right (show 0 < d.natAbs by omega) (by rw [Nat.one_mul]; exact hc.symm)
    omega
  · intro h
    have hg : Nat.gcd n.natAbs d.natAbs = 1 := by omega
    rw [hg, Nat.div_one] at e1 e3
    refine Rt.right ⟨h3, h4, h1, h2, ?_, by omega⟩
    by_cases hn : n < 0
    · rw [decide_eq_true hn, decide_eq_false (show ¬ d < 0 by omega)] at e3
      simp only [Bool.bne_false, if_true] at e3
      omega
    · rw [decide_eq_false hn, decide_eq_false (show ¬ d < 0 by omega)] at e3
      simp only [bne_self_eq_false, Bool.false_eq_true, if_false] at e3
      omega
theorem rright_tells {n d : Int} (hn : I64 n) (hd : I64 d) : Ev (fun k => marigraphref1_Right.f k n d) (rightQ n d) := by
  have jt : ∀ x y, Ev (fun k => marigraphref1_Right.j0 k true x y) false := fun x y => ⟨1, fun k hk => by
    obtain ⟨k, rfl⟩ : ∃ m, k = m + 1 := ⟨k - 1, by omega⟩
    simp only [marigraphref1_Right.j0, if_true]⟩
  have no : (¬ (1 ≤ d ∧ d ≤ 2147483647 ∧ -2147483647 ≤ n ∧ n ≤ 2147483647)) → rightQ n d = false := by
    intro h
    cases hr : rightQ n d with
    | false => rfl
    | true =>
      have := Rt.of_right hr
      exact absurd ⟨this.d1, this.d2, this.n1, this.n2⟩ h
  have un : ∀ k, marigraphref1_Right.f k n d = if d < 1 then (marigraphref1_Right.j0 k true n d) else (if d > 2147483647 then (marigraphref1_Right.j0 k true n d) else (if n < (-2147483647) then (marigraphref1_Right.j0 k true n d) else (marigraphref1_Right.j0 k (decide (n > 2147483647)) n d))) := fun k => rfl
  refine evEq un ?_
  by_cases h1 : d < 1
  · simp only [if_pos h1]
    rw [no (by omega)]
    exact jt _ _
  simp only [if_neg h1]
  by_cases h2 : d > 2147483647
  · simp only [if_pos h2]
    rw [no (by omega)]
    exact jt _ _
  simp only [if_neg h2]
  by_cases h3 : n < -2147483647
  · simp only [if_pos h3]
    rw [no (by omega)]
    exact jt _ _
  simp only [if_neg h3]
  by_cases h4 : n > 2147483647
  · rw [decide_eq_true h4, no (by omega)]
    exact jt _ _
  rw [decide_eq_false h4, rightQ_gcd (by omega) (by omega) (by omega) (by omega)]
  refine ⟨d.natAbs + 2, fun k hk => ?_⟩
  obtain ⟨k, rfl⟩ : ∃ m, k = m + 1 := ⟨k - 1, by omega⟩
  simp only [marigraphref1_Right.j0, Bool.false_eq_true, if_false]
  have ha : marigraphref1_abs.f n = some (n.natAbs : Int) := by
    unfold marigraphref1_abs.f
    by_cases hn0 : n < 0
    · rw [if_pos hn0, wrap64_id ⟨by omega, by omega⟩]
      congr 1
      omega
    · rw [if_neg hn0]
      congr 1
      omega
  rw [ha]
  simp only [Option.bind_some]
  unfold marigraphref1_gcd.f
  have := rgcd_tells d.natAbs n.natAbs k (by omega)
  rw [show ((d.natAbs : Nat) : Int) = d by omega] at this
  rw [this]
  simp only [Option.bind_some]
/-- What an operation tells of right numbers. -/
theorem rnew_end {f : Nat → Option (Int × Int × Int)} {n d : Int} {q : Int × Int × Int} (hn : I64 n) (hd : I64 d) (hq : newQ n d = q) (hf : ∀ k, f (k + 1) = (marigraphref1_New.f k n d).bind fun t => some (t.1, t.2.1, t.2.2)) : Ev f q := by
  refine Ev.step hf ?_
  have h := rnew_tells hn hd
  rw [hq] at h
  exact Ev.bind h (Ev.now _)
theorem rop_start {c n d m e : Int} {q : Int × Int × Int} (h : Rt n d) (k : Rt m e) (hj : Ev (fun K => marigraphref1_Op.j0 K c (if c = 47 then (m == 0) else false) n d m e) q) : Ev (fun K => marigraphref1_Op.f K c n d m e) q := by
  have r1 := rright_tells h.i64n h.i64d
  have r2 := rright_tells k.i64n k.i64d
  rw [h.right] at r1
  rw [k.right] at r2
  refine Ev.bind r1 ?_
  simp only [if_true]
  refine Ev.bind r2 ?_
  simp only [if_true]
  by_cases hc : c = 47
  · simp only [if_pos hc] at hj ⊢
    exact hj
  · simp only [if_neg hc] at hj ⊢
    exact hj
theorem rAdd_tells {n d m e : Int} (h : Rt n d) (k : Rt m e) : Ev (fun K => marigraphref1_Op.f K 43 n d m e) (Pure_ofQ (VQ n d + VQ m e)) := by
  have h1 := h.n1; have h2 := h.n2; have h3 := h.d1; have h4 := h.d2
  have k1 := k.n1; have k2 := k.n2; have k3 := k.d1; have k4 := k.d2
  have hd0 : d ≠ 0 := by omega
  have he0 : e ≠ 0 := by omega
  have p1 := mulM (x := n) (y := e) ⟨by omega, by omega⟩ ⟨by omega, by omega⟩
  have p2 := mulM (x := m) (y := d) ⟨by omega, by omega⟩ ⟨by omega, by omega⟩
  have p3 := mulM (x := d) (y := e) ⟨by omega, by omega⟩ ⟨by omega, by omega⟩
  have hde : d * e ≠ 0 := Int.mul_ne_zero hd0 he0
  refine rop_start h k (rnew_end (n := n * e + m * d) (d := d * e) ⟨by omega, by omega⟩ ⟨by omega, by omega⟩ ?_ fun K => ?_)
  · unfold newQ
    rw [if_neg hde]
    exact congrArg Pure_ofQ (Rat.divInt_add_divInt _ _ hd0 he0).symm
  · simp only [marigraphref1_Op.j0, if_neg (show ¬ (43 : Int) = 47 by decide), Bool.false_eq_true, if_false, if_true]
    rw [wrap64_id (x := d * e) ⟨by omega, by omega⟩]
    rw [wrap64_id (x := n * e) ⟨by omega, by omega⟩, wrap64_id (x := m * d) ⟨by omega, by omega⟩, wrap64_id (x := n * e + m * d) ⟨by omega, by omega⟩]
theorem rDiv_tells {n d m e : Int} (h : Rt n d) (k : Rt m e) : Ev (fun K => marigraphref1_Op.f K 47 n d m e) (newQ (n * e) (d * m)) := by
  have h1 := h.n1; have h2 := h.n2; have h3 := h.d1; have h4 := h.d2
  have k1 := k.n1; have k2 := k.n2; have k3 := k.d1; have k4 := k.d2
  have hd0 : d ≠ 0 := by omega
  have p1 := mulM (x := n) (y := e) ⟨by omega, by omega⟩ ⟨by omega, by omega⟩
  have p2 := mulM (x := d) (y := m) ⟨by omega, by omega⟩ ⟨by omega, by omega⟩
  refine rop_start h k ?_
  simp only [if_true]
  by_cases hm : m = 0
  · subst hm
    refine ⟨1, fun K hK => ?_⟩
    obtain ⟨K, rfl⟩ : ∃ z, K = z + 1 := ⟨K - 1, by omega⟩
    simp only [marigraphref1_Op.j0, beq_self_eq_true, if_true]
    unfold newQ
    rw [if_pos (by simp)]
  · rw [show (m == 0) = false by simpa using hm]
    refine rnew_end (n := n * e) (d := d * m) ⟨by omega, by omega⟩ ⟨by omega, by omega⟩ rfl fun K => ?_
    simp only [marigraphref1_Op.j0, if_neg (show ¬ (47 : Int) = 43 by decide), if_neg (show ¬ (47 : Int) = 45 by decide), if_neg (show ¬ (47 : Int) = 42 by decide), Bool.false_eq_true, if_false]
    rw [wrap64_id (x := n * e) ⟨by omega, by omega⟩, wrap64_id (x := d * m) ⟨by omega, by omega⟩]
theorem rcmp_tells {n d m e : Int} (h : Rt n d) (k : Rt m e) : Ev (fun K => marigraphref1_Cmp.f K n d m e) (cmpQ (VQ n d) (VQ m e)) := by
  have r1 := rright_tells h.i64n h.i64d
  have r2 := rright_tells k.i64n k.i64d
  rw [h.right] at r1
  rw [k.right] at r2
  refine Ev.bind r1 (Ev.bind r2 ?_)
  simp only [if_true]
  refine ⟨1, fun K hK => ?_⟩
  obtain ⟨K, rfl⟩ : ∃ m, K = m + 1 := ⟨K - 1, by omega⟩
  simp only [marigraphref1_Cmp.j0, Bool.false_eq_true, if_false, if_true]
  have h1 := h.n1; have h2 := h.n2; have h3 := h.d1; have h4 := h.d2
  have k1 := k.n1; have k2 := k.n2; have k3 := k.d1; have k4 := k.d2
  rw [prodw (x := n) (y := e) ⟨by omega, by omega⟩ ⟨by omega, by omega⟩, prodw (x := m) (y := d) ⟨by omega, by omega⟩ ⟨by omega, by omega⟩]
  unfold cmpQ
  by_cases hlt : n * e < m * d
  · rw [if_pos hlt, if_pos ((ratlt h k).1 hlt)]
  · rw [if_neg hlt, if_neg (fun hh => hlt ((ratlt h k).2 hh))]
    by_cases hgt : n * e > m * d
    · rw [if_pos hgt]
      have := (ratlt k h).1 hgt
      rw [if_neg (fun he => by rw [he] at this; exact absurd this (Rat.lt_irrefl))]
    · rw [if_neg hgt]
      have h5 : ¬ VQ m e < VQ n d := fun hh => hgt ((ratlt k h).2 hh)
      have h6 : ¬ VQ n d < VQ m e := fun hh => hlt ((ratlt h k).2 hh)
      rw [if_pos (Rat.le_antisymm (Rat.not_lt.1 h5) (Rat.not_lt.1 h6))]
/-- The i-th sample. -/
def at_ (l : List S31) (j : Nat) : S31 := l.getD j z31
theorem rd_at (l : List S31) (j : Nat) : rd_T31 l (j : Int) = at_ l j := rfl
/-- Samples that are right: times in the row, numbers right, each later than the one ahead. -/
def GoodL (l : List S31) : Prop := ∀ j : Nat, j < l.length → 0 ≤ (at_ l j).f0 ∧ (at_ l j).f0 ≤ 4294967295 ∧ Rt (at_ l j).f1.f0 (at_ l j).f1.f1 ∧ (0 < j → (at_ l (j - 1)).f0 < (at_ l j).f0)
theorem wrap_succ {j n : Nat} (h : j < n) (hn : n < 4611686014132420609) : wrap64 ((j : Int) + 1) = ((j + 1 : Nat) : Int) := by
  unfold wrap64; omega
theorem wrap_pred {j n : Nat} (h : j < n) (hn : n < 4611686014132420609) (h0 : 0 < j) : wrap64 ((j : Int) - 1) = ((j - 1 : Nat) : Int) := by
  unfold wrap64; omega
theorem down_right_at (l : List S31) (hl : GoodL l) (hn : l.length < 4611686014132420609) : ∀ n j : Nat, l.length - j = n → Ev (fun k => down_Right.l0 k l l (l.length : Int) (j : Int)) true := by
  intro n
  induction n with
  | zero =>
    intro j hj
    refine Ev.step (f := fun k => some true) (fun k => ?_) (Ev.now _)
    simp only [down_Right.l0]
    rw [if_neg (by omega)]
  | succ n ih =>
    intro j hj
    have hlt : j < l.length := by omega
    obtain ⟨g0, g1, g2, g3⟩ := hl j hlt
    have hr := right_tells g2.i64n g2.i64d
    rw [g2.right] at hr
    refine Ev.step (f := fun k => (rat_Right.f k (at_ l j).f1.f0 (at_ l j).f1.f1).bind fun t113 => (if t113 = true then (if (j : Int) > 0 then (if 0 ≤ (wrap64 ((j : Int) - 1)) then (if (wrap64 ((j : Int) - 1)) < (l.length : Int) then (if ((rd_T31 l (wrap64 ((j : Int) - 1))).f0) ≥ (at_ l j).f0 then (some false) else (down_Right.l0 k l l (l.length : Int) (wrap64 ((j : Int) + 1)))) else (none)) else (none)) else (down_Right.l0 k l l (l.length : Int) (wrap64 ((j : Int) + 1)))) else (some false))) (fun k => ?_) ?_
    · simp only [down_Right.l0]
      rw [if_pos (by omega), if_pos (by omega), if_pos (by omega), rd_at, if_neg (by omega), if_neg (by omega)]
    · refine Ev.bind hr ?_
      simp only [if_true, wrap_succ hlt hn]
      by_cases h0 : 0 < j
      · have := g3 h0
        simp only [wrap_pred hlt hn h0, rd_at]
        simp only [if_pos (show (j : Int) > 0 by omega), if_pos (show 0 ≤ ((j - 1 : Nat) : Int) by omega), if_pos (show ((j - 1 : Nat) : Int) < (l.length : Int) by omega), if_neg (show ¬ (at_ l (j - 1)).f0 ≥ (at_ l j).f0 by omega)]
        exact ih (j + 1) (by omega)
      · simp only [if_neg (show ¬ (j : Int) > 0 by omega)]
        exact ih (j + 1) (by omega)
theorem down_right_tells (l : List S31) (hl : GoodL l) (hn : l.length < 4611686014132420609) : Ev (fun k => down_Right.f k l) true := down_right_at l hl hn _ 0 rfl
/-! ### any samples: Right, told by both -/
theorem evDown {α : Type} {g : Nat → Option α} {r : α} (h : Ev (fun k => g (k + 1)) r) : Ev g r := let ⟨K, hK⟩ := h; ⟨K + 1, fun k hk => by
  obtain ⟨m, rfl⟩ : ∃ m, k = m + 1 := ⟨k - 1, by omega⟩
  exact hK m (by omega)⟩
/-- rd_at, not by definition (a rewriting by definition leaves an if's instance as it was). -/
theorem rd_atN (l : List S31) (j : Nat) : rd_T31 l (j : Int) = at_ l j := by cases l <;> rfl
/-! ### fold.Do beside the document's, for any numbers -/
theorem ofQ_eta {q : Rat} (h : (Pure_ofQ q).2.2 = 0) : Rt (Pure_ofQ q).1 (Pure_ofQ q).2.1 := (Rt.ofQ (q := q) (n := (Pure_ofQ q).1) (d := (Pure_ofQ q).2.1) (by rw [← h])).1
def rat_ (l : List S29) (j : Nat) : S29 := l.getD j z29
theorem rd_rat (l : List S29) (j : Nat) : rd_T29 l (j : Int) = rat_ l j := by cases l <;> rfl
theorem rat_drop {l : List S29} {j : Nat} (h : j < l.length) : l.drop j = rat_ l j :: l.drop (j + 1) := by
  rw [List.drop_eq_getElem_cons h]
  unfold rat_
  rw [List.getD_eq_getElem?_getD, List.getElem?_eq_getElem h]
  rfl
theorem wrapS {j n : Nat} (h : j < n) (hn : n < 4611686014132420609) : wrap64 ((j : Int) + 1) = ((j + 1 : Nat) : Int) := by
  unfold wrap64
  omega
def NumP (l : List S29) : Prop := ∀ j : Nat, j < l.length → I64 (rat_ l j).f0 ∧ I64 (rat_ l j).f1
def allR : List S29 → Bool
  | [] => true
  | x :: l => rightQ x.f0 x.f1 && allR l
theorem NumP.tail {x : S29} {l : List S29} (h : NumP (x :: l)) : NumP l := fun j hj => h (j + 1) (by rw [List.length_cons]; omega)
theorem badI_tells : ∀ l : List S29, NumP l → Ev (fun k => badI k l) (!allR l) := by
  intro l
  induction l with
  | nil => intro _; exact Ev.now _
  | cons x l ih =>
    intro h
    obtain ⟨i0, i1⟩ := h 0 (by simp)
    have i0 : I64 x.f0 := i0
    have i1 : I64 x.f1 := i1
    have hd : Ev (fun k => fold_Do_1.f k x.f0 x.f1) (!rightQ x.f0 x.f1) := Ev.bind (right_tells i0 i1) (Ev.now _)
    have un : ∀ k, badI k (x :: l) = (fold_Do_1.f k x.f0 x.f1).bind fun t => if t = true then some true else badI k l := fun k => rfl
    refine evEq un (Ev.bind hd ?_)
    unfold allR
    cases rightQ x.f0 x.f1 with
    | true => simp only [Bool.not_true, Bool.false_eq_true, if_false, Bool.true_and]; exact ih h.tail
    | false => simp only [Bool.not_false, if_true, Bool.false_and]; exact Ev.now _
theorem allR_rt {l : List S29} (h : allR l = true) : ∀ j : Nat, j < l.length → Rt (rat_ l j).f0 (rat_ l j).f1 := by
  induction l with
  | nil => intro j hj; simp at hj
  | cons x l ih =>
    intro j hj
    unfold allR at h
    rw [Bool.and_eq_true] at h
    cases j with
    | zero => exact Rt.of_right h.1
    | succ j => exact ih h.2 j (by rw [List.length_cons] at hj; omega)
/-- One step of the folds that go on: sum, least, greatest, average. -/
def stX (how n d m e : Int) : Int × Int × Int :=
  if how = 2 then (if cmpQ (VQ m e) (VQ n d) < 0 then (m, e, 0) else (n, d, 0)) else if how = 3 then (if cmpQ (VQ m e) (VQ n d) > 0 then (m, e, 0) else (n, d, 0)) else Pure_ofQ (VQ n d + VQ m e)
theorem stX_rt {how n d m e : Int} (h : Rt n d) (k : Rt m e) (h0 : (stX how n d m e).2.2 = 0) : Rt (stX how n d m e).1 (stX how n d m e).2.1 := by
  unfold stX at h0 ⊢
  by_cases h2 : how = 2
  · rw [if_pos h2]
    split
    · exact k
    · exact h
  rw [if_neg h2] at h0 ⊢
  by_cases h3 : how = 3
  · rw [if_pos h3]
    split
    · exact k
    · exact h
  rw [if_neg h3] at h0 ⊢
  exact ofQ_eta h0
theorem stepI_tells {how n d m e : Int} (h : Rt n d) (k : Rt m e) (hh : how ≠ 5 ∧ how ≠ 6 ∧ how ≠ 7) : Ev (fun K => stepI K how n d m e) (stX how n d m e) := by
  have un : ∀ K, stepI K how n d m e = if how = 2 then (fold_steps_2.f K n d m e).bind fun b => some (pickI b n d m e) else if how = 3 then (fold_steps_3.f K n d m e).bind fun b => some (pickI b n d m e) else rat_Add.f K n d m e := fun K => by
    unfold stepI
    by_cases h2 : how = 2
    · rw [if_pos h2, if_pos h2]
    rw [if_neg h2, if_neg h2]
    by_cases h3 : how = 3
    · rw [if_pos h3, if_pos h3]
    rw [if_neg h3, if_neg h3, if_neg (fun hc => hc.elim hh.2.1 hh.1), if_neg hh.2.2]
  refine evEq un ?_
  unfold stX
  by_cases h2 : how = 2
  · simp only [if_pos h2]
    have hs : Ev (fun K => fold_steps_2.f K n d m e) (decide (cmpQ (VQ m e) (VQ n d) < 0)) := Ev.bind (cmp_tells k h) (Ev.now _)
    refine Ev.bind hs ?_
    unfold pickI
    by_cases hc : cmpQ (VQ m e) (VQ n d) < 0
    · simp only [decide_eq_true hc, if_true, if_pos hc]; exact Ev.now _
    · simp only [decide_eq_false hc, Bool.false_eq_true, if_false, if_neg hc]; exact Ev.now _
  simp only [if_neg h2]
  by_cases h3 : how = 3
  · simp only [if_pos h3]
    have hs : Ev (fun K => fold_steps_3.f K n d m e) (decide (cmpQ (VQ m e) (VQ n d) > 0)) := Ev.bind (cmp_tells k h) (Ev.now _)
    refine Ev.bind hs ?_
    unfold pickI
    by_cases hc : cmpQ (VQ m e) (VQ n d) > 0
    · simp only [decide_eq_true hc, if_true, if_pos hc]; exact Ev.now _
    · simp only [decide_eq_false hc, Bool.false_eq_true, if_false, if_neg hc]; exact Ev.now _
  simp only [if_neg h3]
  exact Add_tells h k
def fdX (how : Int) : List S29 → Int → Int → Int × Int × Int
  | [], n, d => (n, d, 0)
  | x :: l, n, d => if (stX how n d x.f0 x.f1).2.2 = 0 then fdX how l (stX how n d x.f0 x.f1).1 (stX how n d x.f0 x.f1).2.1 else (0, 0, (stX how n d x.f0 x.f1).2.2)
theorem foldI_tells {how : Int} (hh : how ≠ 5 ∧ how ≠ 6 ∧ how ≠ 7) : ∀ (l : List S29) (n d : Int), Rt n d → allR l = true → Ev (fun k => foldI k how l n d) (fdX how l n d) ∧ ((fdX how l n d).2.2 = 0 → Rt (fdX how l n d).1 (fdX how l n d).2.1) := by
  intro l
  induction l with
  | nil => intro n d h _; exact ⟨Ev.now _, fun _ => h⟩
  | cons x l ih =>
    intro n d h ha
    unfold allR at ha
    rw [Bool.and_eq_true] at ha
    have hx := Rt.of_right ha.1
    have un : ∀ k, foldI k how (x :: l) n d = (stepI k how n d x.f0 x.f1).bind fun r => if r.2.2 = 0 then foldI k how l r.1 r.2.1 else some (0, 0, r.2.2) := fun k => rfl
    have hs := stepI_tells h hx hh
    unfold fdX
    by_cases h0 : (stX how n d x.f0 x.f1).2.2 = 0
    · obtain ⟨e1, e2⟩ := ih _ _ (stX_rt h hx h0) ha.2
      rw [if_pos h0]
      refine ⟨evEq un (Ev.bind hs ?_), e2⟩
      simp only [if_pos h0]
      exact e1
    · rw [if_neg h0]
      refine ⟨evEq un (Ev.bind hs ?_), fun hc => absurd hc h0⟩
      simp only [if_neg h0]
      exact Ev.now _
/-! first, last, count -/
theorem fold_first (how : Int) (hh : how = 6 ∨ how = 5) : ∀ (l : List S29) (n d : Int) (k : Nat), foldI k how l n d = some (n, d, 0) := by
  intro l
  induction l with
  | nil => intro n d k; rfl
  | cons x l ih =>
    intro n d k
    have e : stepI k how n d x.f0 x.f1 = some (n, d, 0) := by
      unfold stepI
      rw [if_neg (by omega), if_neg (by omega), if_pos hh]
      rfl
    show (stepI k how n d x.f0 x.f1).bind _ = _
    rw [e]
    show (if (0 : Int) = 0 then foldI k how l n d else some (0, 0, 0)) = _
    rw [if_pos rfl]
    exact ih n d k
def lastP : List S29 → S29 → S29
  | [], x => x
  | y :: l, _ => lastP l y
theorem fold_last : ∀ (l : List S29) (x : S29) (k : Nat), foldI k 7 l x.f0 x.f1 = some ((lastP l x).f0, (lastP l x).f1, 0) := by
  intro l
  induction l with
  | nil => intro x k; rfl
  | cons y l ih =>
    intro x k
    show (stepI k 7 x.f0 x.f1 y.f0 y.f1).bind _ = _
    have e : stepI k 7 x.f0 x.f1 y.f0 y.f1 = some (y.f0, y.f1, 0) := rfl
    rw [e]
    show (if (0 : Int) = 0 then foldI k 7 l y.f0 y.f1 else some (0, 0, 0)) = _
    rw [if_pos rfl]
    exact ih y k
theorem rat_last : ∀ (l : List S29) (x : S29), rat_ (x :: l) l.length = lastP l x := by
  intro l
  induction l with
  | nil => intro x; rfl
  | cons y l ih => intro x; exact ih y
theorem of_len {n : Nat} (hn : n ≤ 2147483647) : newQ (n : Int) 1 = ((n : Int), 1, 0) := by
  have r := rt_one (n := (n : Int)) (by omega) (by omega)
  unfold newQ Pure_ofQ
  have h1 := r.num
  have h2 := r.den
  rw [if_neg (by decide), h1]
  have h3 : (Rat.divInt (n : Int) 1).den = 1 := by omega
  rw [h3, if_neg (by omega)]
  rfl
/-! the document's fold.Do -/
/-- The document's test of all numbers. -/
theorem l0_tells {how : Int} {l : List S29} (h : NumP l) (hn : l.length < 4611686014132420609) : ∀ n j : Nat, l.length - j = n → j ≤ l.length →
    (allR (l.drop j) = false → Ev (fun k => marigraphref20_Do.l0 k how l (j : Int)) (0, 0, 1)) ∧
    (allR (l.drop j) = true → ∀ r, Ev (fun k => marigraphref20_Do.l0 k how l (l.length : Int)) r → Ev (fun k => marigraphref20_Do.l0 k how l (j : Int)) r) := by
  intro n
  induction n with
  | zero =>
    intro j hj hle
    have e : j = l.length := by omega
    subst e
    refine ⟨fun hb => ?_, fun _ r hr => hr⟩
    rw [List.drop_length] at hb
    exact absurd hb (by decide)
  | succ n ih =>
    intro j hj hle
    have hlt : j < l.length := by omega
    obtain ⟨i0, i1⟩ := h j hlt
    have hw := wrapS hlt hn
    obtain ⟨g1, g2⟩ := ih (j + 1) (by omega) (by omega)
    have go : ∀ r, Ev (fun k => (marigraphref1_Right.f k (rat_ l j).f0 (rat_ l j).f1).bind fun t => (if t = true then (marigraphref20_Do.l0 k how l ((j + 1 : Nat) : Int)) else (some (0, 0, 1)))) r → Ev (fun k => marigraphref20_Do.l0 k how l (j : Int)) r := by
      intro r hr
      refine evDown ?_
      simp only [marigraphref20_Do.l0, if_pos (show (j : Int) < (l.length : Int) by omega), if_pos (show 0 ≤ (j : Int) by omega), rd_rat, hw]
      exact hr
    rw [rat_drop hlt]
    unfold allR
    cases hq : rightQ (rat_ l j).f0 (rat_ l j).f1 with
    | true =>
      have hr := rright_tells i0 i1
      rw [hq] at hr
      simp only [Bool.true_and]
      refine ⟨fun hb => go _ (Ev.bind hr ?_), fun hb r hr2 => go _ (Ev.bind hr ?_)⟩
      · simp only [if_true]; exact g1 hb
      · simp only [if_true]; exact g2 hb r hr2
    | false =>
      have hr := rright_tells i0 i1
      rw [hq] at hr
      simp only [Bool.false_and]
      refine ⟨fun _ => go _ (Ev.bind hr ?_), fun hb => by cases hb⟩
      simp only [Bool.false_eq_true, if_false]
      exact Ev.now _
/-- The document's loop. -/
theorem l1_tells {how : Int} (hh : how ≠ 5 ∧ how ≠ 6 ∧ how ≠ 7) {l : List S29} (hn : l.length < 4611686014132420609) : ∀ m j : Nat, ∀ n d : Int, l.length - j = m → j ≤ l.length → Rt n d → allR (l.drop j) = true →
    ((fdX how (l.drop j) n d).2.2 ≠ 0 → Ev (fun k => marigraphref20_Do.l1 k how l (j : Int) n d) (0, 0, (fdX how (l.drop j) n d).2.2)) ∧
    ((fdX how (l.drop j) n d).2.2 = 0 → ∀ r, Ev (fun k => marigraphref20_Do.l1 k how l (l.length : Int) (fdX how (l.drop j) n d).1 (fdX how (l.drop j) n d).2.1) r → Ev (fun k => marigraphref20_Do.l1 k how l (j : Int) n d) r) := by
  intro m
  induction m with
  | zero =>
    intro j n d hj hle h ha
    have e : j = l.length := by omega
    subst e
    rw [List.drop_length]
    exact ⟨fun hc => absurd rfl hc, fun _ r hr => hr⟩
  | succ m ih =>
    intro j n d hj hle h ha
    have hlt : j < l.length := by omega
    have hw := wrapS hlt hn
    rw [rat_drop hlt] at ha ⊢
    unfold allR at ha
    rw [Bool.and_eq_true] at ha
    have hx := Rt.of_right ha.1
    have hc := rcmp_tells hx h
    have hs0 := fun z => ih (j + 1) (stX how n d (rat_ l j).f0 (rat_ l j).f1).1 (stX how n d (rat_ l j).f0 (rat_ l j).f1).2.1 (by omega) (by omega) (stX_rt h hx z) ha.2
    have go : ∀ r, ((stX how n d (rat_ l j).f0 (rat_ l j).f1).2.2 = 0 → Ev (fun k => marigraphref20_Do.l1 k how l ((j + 1 : Nat) : Int) (stX how n d (rat_ l j).f0 (rat_ l j).f1).1 (stX how n d (rat_ l j).f0 (rat_ l j).f1).2.1) r) → ((stX how n d (rat_ l j).f0 (rat_ l j).f1).2.2 ≠ 0 → r = (0, 0, (stX how n d (rat_ l j).f0 (rat_ l j).f1).2.2)) → Ev (fun k => marigraphref20_Do.l1 k how l (j : Int) n d) r := by
      intro r h0 h1
      refine evDown ?_
      simp only [marigraphref20_Do.l1, if_pos (show (j : Int) < (l.length : Int) by omega), if_pos (show 0 ≤ (j : Int) by omega), rd_rat, hw]
      refine Ev.bind hc ?_
      unfold stX at h0 h1
      by_cases h2 : how = 2
      · simp only [if_pos h2] at h0 h1 ⊢
        by_cases h3 : cmpQ (VQ (rat_ l j).f0 (rat_ l j).f1) (VQ n d) < 0
        · simp only [if_pos h3] at h0 ⊢; exact h0 trivial
        · simp only [if_neg h3] at h0 ⊢; exact h0 trivial
      simp only [if_neg h2] at h0 h1 ⊢
      by_cases h4 : how = 3
      · simp only [if_pos h4] at h0 h1 ⊢
        by_cases h3 : cmpQ (VQ (rat_ l j).f0 (rat_ l j).f1) (VQ n d) > 0
        · simp only [if_pos h3] at h0 ⊢; exact h0 trivial
        · simp only [if_neg h3] at h0 ⊢; exact h0 trivial
      simp only [if_neg h4] at h0 h1 ⊢
      refine Ev.bind (rAdd_tells h hx) ?_
      by_cases h5 : (Pure_ofQ (VQ n d + VQ (rat_ l j).f0 (rat_ l j).f1)).2.2 = 0
      · simp only [if_pos h5]; exact h0 h5
      · simp only [if_neg h5]; rw [h1 h5]; exact Ev.now _
    unfold fdX
    by_cases z : (stX how n d (rat_ l j).f0 (rat_ l j).f1).2.2 = 0
    · obtain ⟨g1, g2⟩ := hs0 z
      rw [if_pos z]
      exact ⟨fun hb => go _ (fun _ => g1 hb) (fun hc2 => absurd z hc2), fun hb r hr => go _ (fun _ => g2 hb r hr) (fun hc2 => absurd z hc2)⟩
    · rw [if_neg z]
      exact ⟨fun _ => go _ (fun hc2 => absurd hc2 z) (fun _ => rfl), fun hb => absurd hb z⟩
theorem do_same (how : Int) (l : List S29) (hI : NumP l) (hn : l.length ≤ 1000) : ∃ r, Ev (fun k => fold_Do.f k how l) r ∧ Ev (fun k => marigraphref20_Do.f k how l) r := by
  have hrr : fold_Right.f how = marigraphref20_Right.f how := rfl
  have bad : Ev (fun k => marigraphref20_Do.j0 k how l true) (0, 0, 1) := by
    refine evDown ?_
    simp only [marigraphref20_Do.j0, if_true]
    exact Ev.now _
  obtain ⟨b, hb⟩ : ∃ b, fold_Right.f how = some b := by
    unfold fold_Right.f
    split <;> exact ⟨_, rfl⟩
  have hb2 := hb
  rw [hrr] at hb2
  unfold fold_Do.f marigraphref20_Do.f
  simp only [if_pos (show l.length < 4611686014132420609 by omega), hb, hb2, Option.bind_some]
  cases b with
  | false => exact ⟨(0, 0, 1), by simp only [Bool.false_eq_true, if_false]; exact Ev.now _, by simp only [Bool.false_eq_true, if_false]; exact bad⟩
  | true =>
    simp only [if_true]
    cases l with
    | nil => exact ⟨(0, 0, 1), Ev.now _, bad⟩
    | cons x xs =>
      have hz : (((x :: xs).length : Int) == 0) = false := by rw [List.length_cons, beq_eq_false_iff_ne]; omega
      simp only [hz]
      have hbad := badI_tells (x :: xs) hI
      obtain ⟨g1, g2⟩ := l0_tells (how := how) hI (show (x :: xs).length < 4611686014132420609 by omega) _ 0 rfl (Nat.zero_le _)
      rw [List.drop_zero] at g1 g2
      cases ha : allR (x :: xs) with
      | false =>
        rw [ha] at hbad
        refine ⟨(0, 0, 1), Ev.bind hbad ?_, evDown ?_⟩
        · simp only [Bool.not_false, if_true]; exact Ev.now _
        · simp only [marigraphref20_Do.j0, Bool.false_eq_true, if_false]; exact g1 ha
      | true =>
        rw [ha] at hbad
        have hrt := allR_rt ha
        have hx : Rt x.f0 x.f1 := hrt 0 (by simp)
        have ha2 : allR xs = true := by unfold allR at ha; rw [Bool.and_eq_true] at ha; exact ha.2
        have mine : ∀ r, Ev (fun k => (foldI k how xs x.f0 x.f1).bind fun r => if r.2.2 = 0 then fold_Do.rest k how (x :: xs).length r.1 r.2.1 else some (0, 0, r.2.2)) r → Ev (fun k => (badI k (x :: xs)).bind fun b => if b = true then some (0, 0, 1) else (foldI k how xs x.f0 x.f1).bind fun r => if r.2.2 = 0 then fold_Do.rest k how (x :: xs).length r.1 r.2.1 else some (0, 0, r.2.2)) r := by
          intro r h
          refine Ev.bind hbad ?_
          simp only [Bool.not_true, Bool.false_eq_true, if_false]
          exact h
        have theirs : ∀ r, Ev (fun k => if how = 5 then ((marigraphref1_New.f k ((x :: xs).length : Int) 1).bind fun bt227 => (some (bt227.1, bt227.2.1, bt227.2.2))) else (if how = 6 then (some ((rat_ (x :: xs) 0).f0, (rat_ (x :: xs) 0).f1, 0)) else (if how = 7 then (some ((rat_ (x :: xs) xs.length).f0, (rat_ (x :: xs) xs.length).f1, 0)) else (marigraphref20_Do.l1 k how (x :: xs) 1 ((rat_ (x :: xs) 0).f0) ((rat_ (x :: xs) 0).f1))))) r → Ev (fun k => marigraphref20_Do.j0 k how (x :: xs) false) r := by
          intro r h
          refine evDown ?_
          simp only [marigraphref20_Do.j0, Bool.false_eq_true, if_false]
          refine g2 ha r (evDown ?_)
          have hw : wrap64 (((x :: xs).length : Int) - 1) = (xs.length : Int) := by rw [List.length_cons]; rw [List.length_cons] at hn; unfold wrap64; omega
          have r0 : rd_T29 (x :: xs) 0 = rat_ (x :: xs) 0 := rfl
          simp only [marigraphref20_Do.l0, if_neg (show ¬ ((x :: xs).length : Int) < ((x :: xs).length : Int) by omega), if_pos (show 0 < ((x :: xs).length : Int) by rw [List.length_cons]; omega), hw, r0, if_pos (show 0 ≤ (xs.length : Int) by omega), if_pos (show (xs.length : Int) < ((x :: xs).length : Int) by rw [List.length_cons]; omega), rd_rat]
          exact h
        have hlen := of_len (n := (x :: xs).length) (by omega)
        have hof : Ev (fun k => rat_Of.f k ((x :: xs).length : Int)) (((x :: xs).length : Int), 1, 0) := by
          have := of_tells (n := ((x :: xs).length : Int)) (by omega) (by omega)
          exact this
        have rest : ∀ n d r, (if how = 5 then Ev (fun _ => some (((x :: xs).length : Int), (1 : Int), (0 : Int))) r else if how = 4 then Ev (fun k => rat_Div.f k n d ((x :: xs).length : Int) 1) r else r = (n, d, 0)) → Ev (fun k => fold_Do.rest k how (x :: xs).length n d) r := by
          intro n d r h
          refine Ev.bind hof ?_
          simp only [if_true]
          by_cases h5 : how = 5
          · rw [if_pos h5] at h; simp only [if_pos h5]; exact h
          · rw [if_neg h5] at h; simp only [if_neg h5]
            by_cases h4 : how = 4
            · rw [if_pos h4] at h; simp only [if_pos h4]; exact h
            · rw [if_neg h4] at h; simp only [if_neg h4]; rw [h]; exact Ev.now _
        by_cases h56 : how = 6 ∨ how = 5
        · have hf : ∀ k, (foldI k how xs x.f0 x.f1) = some (x.f0, x.f1, 0) := fun k => fold_first how h56 xs _ _ k
          by_cases h5 : how = 5
          · refine ⟨(((x :: xs).length : Int), 1, 0), mine _ ?_, theirs _ ?_⟩
            · simp only [hf, Option.bind_some, if_true]
              refine rest _ _ _ ?_
              rw [if_pos h5]
              exact Ev.now _
            · simp only [if_pos h5]
              have hN := rnew_tells (n := ((x :: xs).length : Int)) (d := 1) ⟨by omega, by omega⟩ ⟨by decide, by decide⟩
              rw [hlen] at hN
              exact Ev.bind hN (Ev.now _)
          · have h6 : how = 6 := by omega
            refine ⟨(x.f0, x.f1, 0), mine _ ?_, theirs _ ?_⟩
            · simp only [hf, Option.bind_some, if_true]
              refine rest _ _ _ ?_
              rw [if_neg h5, if_neg (by omega)]
            · simp only [if_neg h5, if_pos h6]
              exact Ev.now _
        · by_cases h7 : how = 7
          · subst h7
            refine ⟨((lastP xs x).f0, (lastP xs x).f1, 0), mine _ ?_, theirs _ ?_⟩
            · simp only [fold_last, Option.bind_some, if_true]
              refine rest _ _ _ ?_
              rw [if_neg (by decide), if_neg (by decide)]
            · simp only [if_neg (show ¬ (7 : Int) = 5 by decide), if_neg (show ¬ (7 : Int) = 6 by decide), if_true, rat_last]
              exact Ev.now _
          · have hh : how ≠ 5 ∧ how ≠ 6 ∧ how ≠ 7 := ⟨fun h => h56 (Or.inr h), fun h => h56 (Or.inl h), h7⟩
            obtain ⟨e1, e2⟩ := foldI_tells hh xs x.f0 x.f1 hx ha2
            obtain ⟨f1, f2⟩ := l1_tells hh (l := x :: xs) (by omega) _ 1 x.f0 x.f1 rfl (by simp) hx (by exact ha2)
            have ed : (x :: xs).drop 1 = xs := rfl
            rw [ed] at f1 f2
            have th : ∀ r, Ev (fun k => marigraphref20_Do.l1 k how (x :: xs) ((1 : Nat) : Int) x.f0 x.f1) r → Ev (fun k => marigraphref20_Do.j0 k how (x :: xs) false) r := by
              intro r h
              refine theirs r ?_
              simp only [if_neg hh.1, if_neg hh.2.1, if_neg hh.2.2]
              exact h
            by_cases z : (fdX how xs x.f0 x.f1).2.2 = 0
            · have rr := e2 z
              have r1 := rt_one (n := ((x :: xs).length : Int)) (by omega) (by omega)
              have fin : ∀ r, Ev (fun k => if how = 4 then ((marigraphref1_Op.f k 47 (fdX how xs x.f0 x.f1).1 (fdX how xs x.f0 x.f1).2.1 ((x :: xs).length : Int) 1).bind fun bt231 => (some (bt231.1, bt231.2.1, bt231.2.2))) else (some ((fdX how xs x.f0 x.f1).1, (fdX how xs x.f0 x.f1).2.1, 0))) r → Ev (fun k => marigraphref20_Do.j0 k how (x :: xs) false) r := by
                intro r h
                refine th r (f2 z r (evDown ?_))
                simp only [marigraphref20_Do.l1, if_neg (show ¬ ((x :: xs).length : Int) < ((x :: xs).length : Int) by omega)]
                exact h
              by_cases h4 : how = 4
              · refine ⟨newQ ((fdX how xs x.f0 x.f1).1 * 1) ((fdX how xs x.f0 x.f1).2.1 * ((x :: xs).length : Int)), mine _ (Ev.bind e1 ?_), fin _ ?_⟩
                · simp only [if_pos z]
                  refine rest _ _ _ ?_
                  rw [if_neg hh.1, if_pos h4]
                  exact Div_tells rr r1
                · simp only [if_pos h4]
                  exact Ev.bind (rDiv_tells rr r1) (Ev.now _)
              · refine ⟨((fdX how xs x.f0 x.f1).1, (fdX how xs x.f0 x.f1).2.1, 0), mine _ (Ev.bind e1 ?_), fin _ ?_⟩
                · simp only [if_pos z]
                  refine rest _ _ _ ?_
                  rw [if_neg hh.1, if_neg h4]
                · simp only [if_neg h4]
                  exact Ev.now _
            · refine ⟨(0, 0, (fdX how xs x.f0 x.f1).2.2), mine _ (Ev.bind e1 ?_), th _ (f1 z)⟩
              simp only [if_neg z]
              exact Ev.now _
/-! ### the law's small numbers -/
structure Sml (x : S29) : Prop where
  rt : Rt x.f0 x.f1
  lo : -60 ≤ x.f0
  hi : x.f0 ≤ 60
  dd : x.f1 ≤ 12
/-! ### sums, least and greatest ones, counts -/
theorem num_rt {l : List S29} (h : allR l = true) : NumP l := fun j hj => ⟨(allR_rt h j hj).i64n, (allR_rt h j hj).i64d⟩
theorem right7 {how : Int} (h1 : 1 ≤ how) (h2 : how ≤ 7) : fold_Right.f how = some true := by
  unfold fold_Right.f
  rw [if_pos h1, decide_eq_true h2]
theorem do_start {how : Int} (h1 : 1 ≤ how) (h2 : how ≤ 7) {x : S29} {xs : List S29} (ha : allR (x :: xs) = true) (hn : (x :: xs).length ≤ 1000) {r : Int × Int × Int} (h : Ev (fun k => (foldI k how xs x.f0 x.f1).bind fun r => if r.2.2 = 0 then fold_Do.rest k how (x :: xs).length r.1 r.2.1 else some (0, 0, r.2.2)) r) : Ev (fun k => fold_Do.f k how (x :: xs)) r := by
  have hbad := badI_tells (x :: xs) (num_rt ha)
  rw [ha] at hbad
  have un : ∀ k, fold_Do.f k how (x :: xs) = (badI k (x :: xs)).bind fun b => if b = true then some (0, 0, 1) else (foldI k how xs x.f0 x.f1).bind fun r => if r.2.2 = 0 then fold_Do.rest k how (x :: xs).length r.1 r.2.1 else some (0, 0, r.2.2) := fun k => by
    unfold fold_Do.f
    rw [if_pos (by omega), right7 h1 h2]
    rfl
  refine evEq un (Ev.bind hbad ?_)
  simp only [Bool.not_true, Bool.false_eq_true, if_false]
  exact h
theorem of_ev {n : Nat} (hn : n ≤ 1000) : Ev (fun k => rat_Of.f k (n : Int)) ((n : Int), 1, 0) := of_tells (by omega) (by omega)
theorem do_plain {how : Int} (hh : how = 1 ∨ how = 2 ∨ how = 3) {x : S29} {xs : List S29} (ha : allR (x :: xs) = true) (hn : (x :: xs).length ≤ 1000) {N D : Int} (hf : fdX how xs x.f0 x.f1 = (N, D, 0)) : Ev (fun k => fold_Do.f k how (x :: xs)) (N, D, 0) := by
  have ha2 := ha
  unfold allR at ha2
  rw [Bool.and_eq_true] at ha2
  obtain ⟨e1, _⟩ := foldI_tells (how := how) (by omega) xs x.f0 x.f1 (Rt.of_right ha2.1) ha2.2
  rw [hf] at e1
  refine do_start (by omega) (by omega) ha hn (Ev.bind e1 ?_)
  simp only [if_true]
  refine Ev.bind (of_ev hn) ?_
  simp only [if_true, if_neg (show ¬ how = 5 by omega), if_neg (show ¬ how = 4 by omega)]
  exact Ev.now _
def vl_ (x : S29) : Rat := VQ x.f0 x.f1
theorem Sml.allR {l : List S29} (h : ∀ x ∈ l, Sml x) : allR l = true := by
  induction l with
  | nil => rfl
  | cons x l ih =>
    show (rightQ x.f0 x.f1 && Pure.allR l) = true
    rw [(h x (by simp)).rt.right, ih (fun y hy => h y (by simp [hy]))]
    rfl
/-! the least, the greatest -/
def rel (how : Int) (a b : Rat) : Prop := if how = 2 then a ≤ b else b ≤ a
theorem rel_refl (how : Int) (a : Rat) : rel how a a := by unfold rel; split <;> exact Rat.le_refl
theorem rel_trans {how : Int} {a b c : Rat} (h : rel how a b) (k : rel how b c) : rel how a c := by
  unfold rel at *
  split at h
  · rename_i e; rw [if_pos e] at k ⊢; exact Rat.le_trans h k
  · rename_i e; rw [if_neg e] at k ⊢; exact Rat.le_trans k h
theorem rel_anti {how : Int} {a b : Rat} (h : rel how a b) (k : rel how b a) : a = b := by
  unfold rel at *
  split at h
  · rename_i e; rw [if_pos e] at k; exact Rat.le_antisymm h k
  · rename_i e; rw [if_neg e] at k; exact Rat.le_antisymm k h
theorem cmp_lt (a b : Rat) : cmpQ a b < 0 ↔ a < b := by
  unfold cmpQ
  by_cases h : a < b
  · rw [if_pos h]; simp [h]
  · rw [if_neg h]; by_cases h2 : a = b <;> simp [h, h2]
theorem cmp_gt (a b : Rat) : cmpQ a b > 0 ↔ b < a := by
  unfold cmpQ
  by_cases h : a < b
  · rw [if_pos h]
    constructor
    · intro hc; exact absurd hc (by decide)
    · intro hc; exact absurd (Rat.le_of_lt hc) (Rat.not_le.2 h)
  · rw [if_neg h]
    by_cases h2 : a = b
    · rw [if_pos h2]
      constructor
      · intro hc; exact absurd hc (by decide)
      · intro hc; rw [h2] at hc; exact absurd hc Rat.lt_irrefl
    · rw [if_neg h2]
      constructor
      · intro _; exact Rat.not_le.1 (fun hle => h2 (Rat.le_antisymm hle (Rat.not_lt.1 h)))
      · intro _; decide
theorem st_rel {how n d m e : Int} (hh : how = 2 ∨ how = 3) (h : Rt n d) (k : Rt m e) : ∃ N D, stX how n d m e = (N, D, 0) ∧ Rt N D ∧ (VQ N D = VQ n d ∨ VQ N D = VQ m e) ∧ rel how (VQ N D) (VQ n d) ∧ rel how (VQ N D) (VQ m e) := by
  unfold stX
  rcases hh with rfl | rfl
  · rw [if_pos rfl]
    by_cases hc : cmpQ (VQ m e) (VQ n d) < 0
    · rw [if_pos hc]
      exact ⟨m, e, rfl, k, Or.inr rfl, by unfold rel; rw [if_pos rfl]; exact Rat.le_of_lt ((cmp_lt _ _).1 hc), rel_refl _ _⟩
    · rw [if_neg hc]
      exact ⟨n, d, rfl, h, Or.inl rfl, rel_refl _ _, by unfold rel; rw [if_pos rfl]; exact Rat.not_lt.1 (fun hl => hc ((cmp_lt _ _).2 hl))⟩
  · rw [if_neg (by decide), if_pos rfl]
    by_cases hc : cmpQ (VQ m e) (VQ n d) > 0
    · rw [if_pos hc]
      exact ⟨m, e, rfl, k, Or.inr rfl, by unfold rel; rw [if_neg (by decide)]; exact Rat.le_of_lt ((cmp_gt _ _).1 hc), rel_refl _ _⟩
    · rw [if_neg hc]
      exact ⟨n, d, rfl, h, Or.inl rfl, rel_refl _ _, by unfold rel; rw [if_neg (by decide)]; exact Rat.not_lt.1 (fun hl => hc ((cmp_gt _ _).2 hl))⟩
/-- The outermost one of some numbers. -/
def Ext (how : Int) (q : Rat) (l : List S29) : Prop := (∃ x ∈ l, vl_ x = q) ∧ ∀ x ∈ l, rel how q (vl_ x)
theorem ext_tells {how : Int} (hh : how = 2 ∨ how = 3) : ∀ (l : List S29) (x : S29), Rt x.f0 x.f1 → allR l = true → ∃ N D, fdX how l x.f0 x.f1 = (N, D, 0) ∧ Rt N D ∧ Ext how (VQ N D) (x :: l) := by
  intro l
  induction l with
  | nil =>
    intro x h _
    refine ⟨x.f0, x.f1, rfl, h, ⟨x, by simp, rfl⟩, fun y hy => ?_⟩
    rw [List.mem_singleton] at hy
    subst hy
    exact rel_refl _ _
  | cons y l ih =>
    intro x h ha
    unfold Pure.allR at ha
    rw [Bool.and_eq_true] at ha
    obtain ⟨N, D, e1, e2, e3, e4, e5⟩ := st_rel hh h (Rt.of_right ha.1)
    obtain ⟨N2, D2, g1, g2, ⟨z, hz, hzq⟩, g4⟩ := ih ⟨N, D⟩ e2 ha.2
    refine ⟨N2, D2, ?_, g2, ?_, ?_⟩
    · unfold fdX
      rw [e1]
      show (if (0 : Int) = 0 then _ else _) = _
      rw [if_pos rfl]
      exact g1
    · rcases List.mem_cons.1 hz with rfl | hz
      · rcases e3 with e3 | e3
        · exact ⟨x, by simp, by rw [← hzq]; exact e3.symm⟩
        · exact ⟨y, by simp, by rw [← hzq]; exact e3.symm⟩
      · exact ⟨z, by simp [hz], hzq⟩
    · intro u hu
      have g0 := g4 ⟨N, D⟩ (by simp)
      have g0 : rel how (VQ N2 D2) (VQ N D) := g0
      rcases List.mem_cons.1 hu with rfl | hu
      · exact rel_trans g0 e4
      · rcases List.mem_cons.1 hu with rfl | hu
        · exact rel_trans g0 e5
        · exact g4 u (by simp [hu])
theorem Ext.same {how : Int} {q r : Rat} {l : List S29} (h : Ext how q l) (k : Ext how r l) : q = r := by
  obtain ⟨⟨x, hx, ex⟩, h2⟩ := h
  obtain ⟨⟨y, hy, ey⟩, k2⟩ := k
  exact rel_anti (by rw [← ey]; exact h2 y hy) (by rw [← ex]; exact k2 x hx)
theorem do_ext {how : Int} (hh : how = 2 ∨ how = 3) {x : S29} {xs : List S29} (ha : allR (x :: xs) = true) (hn : (x :: xs).length ≤ 1000) : ∃ N D, Ev (fun k => fold_Do.f k how (x :: xs)) (N, D, 0) ∧ Rt N D ∧ Ext how (VQ N D) (x :: xs) := by
  have ha2 := ha
  unfold Pure.allR at ha2
  rw [Bool.and_eq_true] at ha2
  obtain ⟨N, D, e1, e2, e3⟩ := ext_tells hh xs x (Rt.of_right ha2.1) ha2.2
  exact ⟨N, D, do_plain (by omega) ha hn e1, e2, e3⟩
structure Ok (x : S31) : Prop where
  rt : Rt x.f1.f0 x.f1.f1
  lo : -60 ≤ x.f1.f0
  hi : x.f1.f0 ≤ 60
  dd : x.f1.f1 ≤ 12
structure Smp (l : List S31) : Prop where
  len : l.length ≤ 12
  ok : ∀ j : Nat, j < l.length → Ok (at_ l j)
  t0 : ∀ j : Nat, j < l.length → 0 ≤ (at_ l j).f0 ∧ (at_ l j).f0 ≤ 40 * j
  up : ∀ j : Nat, j < l.length → 0 < j → (at_ l (j - 1)).f0 < (at_ l j).f0
theorem Smp.good {l : List S31} (h : Smp l) : GoodL l := fun j hj => ⟨(h.t0 j hj).1, by have := (h.t0 j hj).2; have := h.len; omega, (h.ok j hj).rt, h.up j hj⟩
theorem at_left {l : List S31} {x : S31} {j : Nat} (h : j < l.length) : at_ (l ++ [x]) j = at_ l j := by
  unfold at_; rw [List.getD_eq_getElem?_getD, List.getD_eq_getElem?_getD, List.getElem?_append_left h]
theorem at_last {l : List S31} {x : S31} : at_ (l ++ [x]) l.length = x := by
  unfold at_; rw [List.getD_eq_getElem?_getD, List.getElem?_append_right (Nat.le_refl _), Nat.sub_self]; rfl
theorem Smp.snoc {l : List S31} (h : Smp l) (hl : l.length < 12) {t : Int} {n d : Int} (hok : Ok ⟨t, ⟨n, d⟩⟩) (t0 : 0 ≤ t) (t1 : t ≤ 40 * l.length) (t2 : ∀ j : Nat, j < l.length → (at_ l j).f0 < t) : Smp (l ++ [⟨t, ⟨n, d⟩⟩]) := by
  have hlen : (l ++ [(⟨t, ⟨n, d⟩⟩ : S31)]).length = l.length + 1 := by rw [List.length_append]; rfl
  refine ⟨by omega, fun j hj => ?_, fun j hj => ?_, fun j hj h0 => ?_⟩
  · by_cases hlt : j < l.length
    · rw [at_left hlt]; exact h.ok j hlt
    · obtain rfl : j = l.length := by omega
      rw [at_last]; exact hok
  · by_cases hlt : j < l.length
    · rw [at_left hlt]; exact h.t0 j hlt
    · obtain rfl : j = l.length := by omega
      rw [at_last]; exact ⟨t0, t1⟩
  · by_cases hlt : j < l.length
    · rw [at_left hlt, at_left (by omega)]; exact h.up j hlt h0
    · obtain rfl : j = l.length := by omega
      rw [at_last, at_left (by omega)]; exact t2 _ (by omega)
theorem rdI_mem {l : List Int} {j : Nat} (h : j < l.length) : rd l (j : Int) ∈ l := by
  unfold rd
  rw [Int.toNat_natCast, List.getD_eq_getElem?_getD, List.getElem?_eq_getElem h]
  exact List.getElem_mem h
theorem samples_loop {xs ys : List Int} (hx : ∀ x ∈ xs, I64 x) (hy : ∀ y ∈ ys, I64 y) : ∀ (n i : Nat) (l : List S31) (t : Int), 12 - i = n → l.length = i → i ≤ 12 → Smp l → 0 ≤ t → t ≤ 40 * i → (∀ j : Nat, j < l.length → (at_ l j).f0 < t) →
    ∃ m, Smp m ∧ Ev (fun K => marigraphkeep_Samples.l0 K xs ys 12 l t (i : Int)) m := by
  intro n
  induction n with
  | zero =>
    intro i l t hn hl hi h t0 t1 t2
    have hj : Ev (fun K => marigraphkeep_Samples.j1 K xs ys 12 l t (i : Int) false) l := by
      refine Ev.step (f := fun _ => some l) (fun K => ?_) (Ev.now _)
      simp only [marigraphkeep_Samples.j1]
      rw [if_neg (by decide)]
    refine ⟨l, h, Ev.step (fun K => ?_) hj⟩
    simp only [marigraphkeep_Samples.l0]
    by_cases c : (i : Int) < (xs.length : Int)
    · rw [if_pos c, decide_eq_false (by omega)]
    · rw [if_neg c]
  | succ n ih =>
    intro i l t hn hl hi h t0 t1 t2
    by_cases c : i < xs.length
    · obtain ⟨r, hr, r1, r2, _⟩ := within_ev (lo := 1) (hi := 40) (by omega) (by omega) (by omega) (by omega) (hx _ (rdI_mem c))
      have e1 : wrap64 (t + r) = t + r := wrap64_id ⟨by omega, by omega⟩
      have e2 : wrap64 ((i : Int) + 1) = ((i + 1 : Nat) : Int) := wrap_succ (n := 12) (by omega) (by omega)
      have hnext : ∀ N D : Int, Rt N D → -60 ≤ N → N ≤ 60 → D ≤ 12 → ∃ m, Smp m ∧ Ev (fun K => marigraphkeep_Samples.l0 K xs ys 12 (l ++ [(⟨t, (⟨N, D⟩ : S29)⟩ : S31)]) (t + r) ((i + 1 : Nat) : Int)) m := by
        intro N D h1 h2 h3 h4
        have hlen : (l ++ [(⟨t, (⟨N, D⟩ : S29)⟩ : S31)]).length = l.length + 1 := by rw [List.length_append]; rfl
        refine ih (i + 1) _ (t + r) (by omega) (by omega) (by omega) (h.snoc (by omega) ⟨h1, h2, h3, h4⟩ t0 (by omega) t2) (by omega) (by omega) (fun j hj => ?_)
        by_cases hlt : j < l.length
        · rw [at_left hlt]; have := t2 j hlt; omega
        · obtain rfl : j = l.length := by omega
          rw [at_last]; show t < t + r; omega
      have hstep : ∀ m, Ev (fun K => marigraphkeep_Samples.j1 K xs ys 12 l t (i : Int) true) m → Ev (fun K => marigraphkeep_Samples.l0 K xs ys 12 l t (i : Int)) m := by
        intro m hm
        refine Ev.step (fun K => ?_) hm
        simp only [marigraphkeep_Samples.l0]
        rw [if_pos (by omega), decide_eq_true (by omega)]
      have hz : l.length < 5864062014805 := by omega
      by_cases cy : i < ys.length
      · have hw : I64 (wrap64 (1 + (Int.tmod (wrap64 ((Int.tmod (rd ys (i : Int)) 5) * (rd ys (i : Int)))) 5))) := by unfold I64 wrap64; omega
        obtain ⟨N, D, hk, k1, k2, k3, k4, k5⟩ := keep_tells (hy _ (rdI_mem cy)) hw
        obtain ⟨m, hm, he⟩ := hnext N D k1 k2 k3 k5
        refine ⟨m, hm, hstep m ?_⟩
        refine Ev.step (f := fun K => (marigraphkeep_Rat.f K (rd ys (i : Int)) (wrap64 (1 + (Int.tmod (wrap64 ((Int.tmod (rd ys (i : Int)) 5) * (rd ys (i : Int)))) 5)))).bind fun bt105 => ((marigraphbook_Within.f K (rd xs (i : Int)) 1 40).bind fun t111 => (marigraphkeep_Samples.l0 K xs ys 12 (l ++ [(⟨t, (⟨bt105.1, bt105.2⟩ : S29)⟩ : S31)]) (wrap64 (t + t111)) ((i + 1 : Nat) : Int)))) (fun K => ?_) ?_
        · simp only [marigraphkeep_Samples.j1]
          rw [if_pos trivial, if_pos (by omega), if_pos (by omega)]
          simp only [if_pos hz, if_pos (show (i : Int) < (xs.length : Int) by omega), e2]
        · refine Ev.bind hk (Ev.bind hr ?_)
          simp only [e1]
          exact he
      · obtain ⟨N, D, hk, k1, k2, k3, k4, k5⟩ := keep_tells (x := 0) (y := 1 + ((((0 : Int) % 5) * 0) % 5)) ⟨by decide, by decide⟩ ⟨by decide, by decide⟩
        obtain ⟨m, hm, he⟩ := hnext N D k1 k2 k3 k5
        refine ⟨m, hm, hstep m ?_⟩
        refine Ev.step (f := fun K => (marigraphkeep_Rat.f K 0 (1 + ((((0 : Int) % 5) * 0) % 5))).bind fun bt105 => ((marigraphbook_Within.f K (rd xs (i : Int)) 1 40).bind fun t111 => (marigraphkeep_Samples.l0 K xs ys 12 (l ++ [(⟨t, (⟨bt105.1, bt105.2⟩ : S29)⟩ : S31)]) (wrap64 (t + t111)) ((i + 1 : Nat) : Int)))) (fun K => ?_) ?_
        · simp only [marigraphkeep_Samples.j1]
          rw [if_pos trivial, if_neg (by omega)]
          simp only [if_pos hz, if_pos (show 0 ≤ (i : Int) by omega), if_pos (show (i : Int) < (xs.length : Int) by omega), e2]
        · refine Ev.bind hk (Ev.bind hr ?_)
          simp only [e1]
          exact he
    · have hj : Ev (fun K => marigraphkeep_Samples.j1 K xs ys 12 l t (i : Int) false) l := by
        refine Ev.step (f := fun _ => some l) (fun K => ?_) (Ev.now _)
        simp only [marigraphkeep_Samples.j1]
        rw [if_neg (by decide)]
      refine ⟨l, h, Ev.step (fun K => ?_) hj⟩
      simp only [marigraphkeep_Samples.l0]
      rw [if_neg (by omega)]
theorem samples_tells {xs ys : List Int} (hx : ∀ x ∈ xs, I64 x) (hy : ∀ y ∈ ys, I64 y) : ∃ m, Smp m ∧ Ev (fun K => marigraphkeep_Samples.f K xs ys 12) m :=
  samples_loop hx hy 12 0 [] 0 rfl rfl (by decide) ⟨by decide, fun j hj => absurd hj (Nat.not_lt_zero _), fun j hj => absurd hj (Nat.not_lt_zero _), fun j hj => absurd hj (Nat.not_lt_zero _)⟩ (Int.le_refl _) (by decide) (fun j hj => absurd hj (Nat.not_lt_zero _))
/-! ### buckets, as lists -/
/-- Where a bucket begins. -/
def bkt (e t : Int) : Int := t - Int.tmod t e
theorem bkt_low {e t : Int} (he : 1 ≤ e) (ht : 0 ≤ t) : 0 ≤ bkt e t ∧ bkt e t ≤ t ∧ t < bkt e t + e := by
  unfold bkt
  have h1 := Int.tmod_lt_of_pos t (show 0 < e by omega)
  have h2 := Int.tmod_nonneg e ht
  have h3 : Int.tmod t e ≤ t := by
    rw [Int.tmod_eq_emod_of_nonneg ht]
    have q1 := Int.emod_add_mul_ediv t e
    have q2 := Int.mul_nonneg (show 0 ≤ e by omega) (Int.ediv_nonneg ht (show 0 ≤ e by omega))
    omega
  omega
theorem bkt_dvd {e t : Int} : e ∣ bkt e t := by
  unfold bkt
  exact Int.dvd_self_sub_tmod
theorem bkt_mono {e s t : Int} (he : 1 ≤ e) (hs : 0 ≤ s) (hst : s ≤ t) : bkt e s ≤ bkt e t := by
  obtain ⟨a0, a1, a2⟩ := bkt_low he hs
  obtain ⟨b0, b1, b2⟩ := bkt_low he (show 0 ≤ t by omega)
  obtain ⟨m, hm⟩ := bkt_dvd (e := e) (t := s)
  obtain ⟨n, hn⟩ := bkt_dvd (e := e) (t := t)
  rw [hm] at a0 a1 a2 ⊢
  rw [hn] at b0 b1 b2 ⊢
  by_cases h : m ≤ n
  · exact Int.mul_le_mul_of_nonneg_left h (by omega)
  · exfalso
    have : e * (n + 1) ≤ e * m := Int.mul_le_mul_of_nonneg_left (by omega) (by omega)
    rw [Int.mul_add] at this
    omega
/-- A number goes into its bucket: the first one that isn't ahead of it; else into a new one at the end. -/
def upd (a : Int) (v : S29) : List S53 → List S53
  | [] => [⟨a, [v]⟩]
  | g :: r => if g.f0 < a then g :: upd a v r else ⟨g.f0, g.f1 ++ [v]⟩ :: r
/-- So many buckets are ahead of it. -/
def pos (a : Int) : List S53 → Nat
  | [] => 0
  | g :: r => if g.f0 < a then pos a r + 1 else 0
def gat (l : List S53) (j : Nat) : S53 := l.getD j z53
theorem pos_le (a : Int) : ∀ l, pos a l ≤ l.length
  | [] => Nat.le_refl _
  | g :: r => by
    unfold pos
    split
    · have := pos_le a r; rw [List.length_cons]; omega
    · exact Nat.zero_le _
theorem pos_ahead (a : Int) : ∀ (l : List S53) (j : Nat), j < pos a l → (gat l j).f0 < a
  | [], j, h => absurd h (Nat.not_lt_zero _)
  | g :: r, 0, h => by
    unfold pos at h
    split at h
    · assumption
    · exact absurd h (Nat.not_lt_zero _)
  | g :: r, j + 1, h => by
    unfold pos at h
    split at h
    · exact pos_ahead a r j (by omega)
    · exact absurd h (Nat.not_lt_zero _)
theorem pos_there (a : Int) : ∀ (l : List S53), pos a l < l.length → ¬ (gat l (pos a l)).f0 < a
  | [], h => absurd h (Nat.not_lt_zero _)
  | g :: r, h => by
    unfold pos at h ⊢
    by_cases hg : g.f0 < a
    · rw [if_pos hg] at h ⊢
      exact pos_there a r (by rw [List.length_cons] at h; omega)
    · rw [if_neg hg]
      exact hg
theorem pos_ge {a : Int} : ∀ {l : List S53} {i : Nat}, i ≤ l.length → (∀ j, j < i → (gat l j).f0 < a) → i ≤ pos a l
  | [], i, h, _ => h
  | g :: r, 0, _, _ => Nat.zero_le _
  | g :: r, i + 1, h, hj => by
    have h0 : g.f0 < a := hj 0 (by omega)
    unfold pos
    rw [if_pos h0]
    have := pos_ge (l := r) (i := i) (by rw [List.length_cons] at h; omega) (fun j hjj => hj (j + 1) (by omega))
    omega
theorem upd_new {a : Int} {v : S29} : ∀ {l : List S53}, pos a l = l.length → upd a v l = l ++ [⟨a, [v]⟩]
  | [], _ => rfl
  | g :: r, h => by
    unfold pos at h
    by_cases hg : g.f0 < a
    · rw [if_pos hg] at h
      unfold upd
      rw [if_pos hg, upd_new (l := r) (by rw [List.length_cons] at h; omega)]
      rfl
    · rw [if_neg hg] at h
      simp at h
theorem upd_set {a : Int} {v : S29} : ∀ {l : List S53}, pos a l < l.length → upd a v l = l.set (pos a l) ⟨(gat l (pos a l)).f0, (gat l (pos a l)).f1 ++ [v]⟩
  | [], h => absurd h (Nat.not_lt_zero _)
  | g :: r, h => by
    unfold pos at h ⊢
    unfold upd
    by_cases hg : g.f0 < a
    · simp only [if_pos hg] at h ⊢
      rw [upd_set (l := r) (by rw [List.length_cons] at h; omega)]
      rfl
    · simp only [if_neg hg]
      rfl
theorem upd_ahead {a : Int} {v : S29} : ∀ (l : List S53) (j : Nat), j < pos a l → gat (upd a v l) j = gat l j
  | [], j, h => absurd h (Nat.not_lt_zero _)
  | g :: r, j, h => by
    unfold pos at h
    by_cases hg : g.f0 < a
    · rw [if_pos hg] at h
      unfold upd
      rw [if_pos hg]
      cases j with
      | zero => rfl
      | succ j => exact upd_ahead r j (by omega)
    · rw [if_neg hg] at h
      exact absurd h (Nat.not_lt_zero _)
theorem upd_len (a : Int) (v : S29) : ∀ l, (upd a v l).length ≤ l.length + 1
  | [] => Nat.le_refl _
  | g :: r => by
    unfold upd
    split
    · have := upd_len a v r; rw [List.length_cons, List.length_cons]; omega
    · rw [List.length_cons, List.length_cons]; omega
theorem upd_all {p : S29 → Prop} {n : Nat} {a : Int} {v : S29} (hv : p v) : ∀ {l : List S53}, (∀ g ∈ l, g.f1.length ≤ n ∧ ∀ x ∈ g.f1, p x) → ∀ g ∈ upd a v l, g.f1.length ≤ n + 1 ∧ ∀ x ∈ g.f1, p x
  | [], _, g, hg => by
    obtain rfl := List.mem_singleton.1 hg
    exact ⟨by simp, fun x hx => by obtain rfl := List.mem_singleton.1 hx; exact hv⟩
  | h :: r, hl, g, hg => by
    unfold upd at hg
    split at hg
    · rcases List.mem_cons.1 hg with rfl | hg
      · have := hl g (List.mem_cons_self ..)
        exact ⟨by omega, this.2⟩
      · exact upd_all hv (fun y hy => hl y (List.mem_cons_of_mem _ hy)) g hg
    · rcases List.mem_cons.1 hg with rfl | hg
      · have := hl h (List.mem_cons_self ..)
        refine ⟨by rw [List.length_append, List.length_singleton]; omega, fun x hx => ?_⟩
        rcases List.mem_append.1 hx with hx | hx
        · exact this.2 x hx
        · obtain rfl := List.mem_singleton.1 hx; exact hv
      · have := hl g (List.mem_cons_of_mem _ hg)
        exact ⟨by omega, this.2⟩
theorem upd_pre {a : Int} {v : S29} {t : List S53} : ∀ {p : List S53}, (∀ g ∈ p, g.f0 < a) → upd a v (p ++ t) = p ++ upd a v t
  | [], _ => rfl
  | g :: r, h => by
    rw [List.cons_append, List.cons_append]
    conv => lhs; unfold upd
    rw [if_pos (h g (List.mem_cons_self ..)), upd_pre (fun y hy => h y (List.mem_cons_of_mem _ hy))]
/-- Is a sample's time between the ends? -/
def inR (a b : Int) (x : S31) : Prop := a ≤ x.f0 ∧ x.f0 ≤ b
instance (a b : Int) (x : S31) : Decidable (inR a b x) := by unfold inR; infer_instance
/-- The numbers of samples, each in its bucket. -/
def feed (a b e : Int) : List S31 → List S53 → List S53
  | [], o => o
  | x :: r, o => if inR a b x then feed a b e r (upd (bkt e x.f0) x.f1 o) else feed a b e r o
/-- Times that rise, none below nought. -/
inductive Ris : List S31 → Prop
  | nil : Ris []
  | cons {x : S31} {r : List S31} : 0 ≤ x.f0 → (∀ y ∈ r, x.f0 < y.f0) → Ris r → Ris (x :: r)
theorem feed_pre {a b e : Int} {p : List S53} : ∀ {l : List S31} {t : List S53}, (∀ y ∈ l, inR a b y → ∀ g ∈ p, g.f0 < bkt e y.f0) → feed a b e l (p ++ t) = p ++ feed a b e l t
  | [], _, _ => rfl
  | x :: r, t, h => by
    unfold feed
    split
    · rename_i hx
      rw [upd_pre (h x (List.mem_cons_self ..) hx), feed_pre (fun y hy => h y (List.mem_cons_of_mem _ hy))]
    · rw [feed_pre (fun y hy => h y (List.mem_cons_of_mem _ hy))]
/-- The samples of one bucket at the row's head; what stands behind them. -/
def runV (b e k : Int) : List S31 → List S29
  | [] => []
  | x :: r => if x.f0 ≤ b ∧ bkt e x.f0 = k then x.f1 :: runV b e k r else []
def runR (b e k : Int) : List S31 → List S31
  | [] => []
  | x :: r => if x.f0 ≤ b ∧ bkt e x.f0 = k then runR b e k r else x :: r
/-- Behind a bucket's samples all buckets are later. -/
theorem runR_later {a b e k : Int} (he : 1 ≤ e) : ∀ {l : List S31}, Ris l → (∀ y ∈ l, inR a b y → k ≤ bkt e y.f0) → (∀ y ∈ l, a ≤ y.f0) → ∀ y ∈ runR b e k l, inR a b y → k < bkt e y.f0
  | [], _, _, _, _, h, _ => by cases h
  | x :: r, hr, hk, ha, y, hy, hi => by
    cases hr with
    | cons h0 h1 h2 =>
      unfold runR at hy
      split at hy
      · exact runR_later he h2 (fun z hz => hk z (List.mem_cons_of_mem _ hz)) (fun z hz => ha z (List.mem_cons_of_mem _ hz)) y hy hi
      · rename_i hx
        by_cases hb : x.f0 ≤ b
        · have hkx := hk x (List.mem_cons_self ..) ⟨ha x (List.mem_cons_self ..), hb⟩
          have hne : bkt e x.f0 ≠ k := fun h => hx ⟨hb, h⟩
          rcases List.mem_cons.1 hy with rfl | hy
          · omega
          · have := bkt_mono he h0 (Int.le_of_lt (h1 y hy))
            omega
        · exfalso
          rcases List.mem_cons.1 hy with rfl | hy
          · exact hb hi.2
          · have := h1 y hy; have := hi.2; omega
/-- A bucket takes all that stand in it; the rest goes behind. -/
theorem feed_run {a b e k : Int} (he : 1 ≤ e) : ∀ {l : List S31} {vs : List S29} {t : List S53}, Ris l → (∀ y ∈ l, inR a b y → k ≤ bkt e y.f0) → (∀ y ∈ l, a ≤ y.f0) →
    feed a b e l (⟨k, vs⟩ :: t) = ⟨k, vs ++ runV b e k l⟩ :: feed a b e (runR b e k l) t
  | [], vs, t, _, _, _ => by simp [feed, runV, runR]
  | x :: r, vs, t, hr, hk, ha => by
    by_cases hx : x.f0 ≤ b ∧ bkt e x.f0 = k
    · have hin : inR a b x := ⟨ha x (List.mem_cons_self ..), hx.1⟩
      cases hr with
      | cons h0 h1 h2 =>
        have := feed_run he (vs := vs ++ [x.f1]) (t := t) h2 (fun z hz => hk z (List.mem_cons_of_mem _ hz)) (fun z hz => ha z (List.mem_cons_of_mem _ hz))
        have e1 : feed a b e (x :: r) (⟨k, vs⟩ :: t) = feed a b e r (⟨k, vs ++ [x.f1]⟩ :: t) := by
          conv => lhs; unfold feed
          rw [if_pos hin]
          conv => lhs; unfold upd
          rw [if_neg (show ¬ (⟨k, vs⟩ : S53).f0 < bkt e x.f0 by rw [hx.2]; exact Int.lt_irrefl _)]
        have e2 : runV b e k (x :: r) = x.f1 :: runV b e k r := by conv => lhs; unfold runV
                                                                   rw [if_pos hx]
        have e3 : runR b e k (x :: r) = runR b e k r := by conv => lhs; unfold runR
                                                           rw [if_pos hx]
        rw [e1, e2, e3, this, List.append_assoc]
        rfl
    · have hl := runR_later he hr hk ha
      have e1 : runR b e k (x :: r) = x :: r := by unfold runR; rw [if_neg hx]
      have e2 : runV b e k (x :: r) = [] := by unfold runV; rw [if_neg hx]
      rw [e1] at hl
      rw [e1, e2, List.append_nil]
      exact feed_pre (p := [⟨k, vs⟩]) (fun y hy hi g hg => by obtain rfl := List.mem_singleton.1 hg; exact hl y hy hi)
/-- Empty buckets from a place on, up to another one. -/
def zerosN (e : Int) : Nat → Int → List S53
  | 0, _ => []
  | n + 1, x => ⟨x, []⟩ :: zerosN e n (x + e)
def cntZ (e lo hi : Int) : Nat := if hi < lo then 0 else ((hi - lo) / e + 1).toNat
def zeros (e lo hi : Int) : List S53 := zerosN e (cntZ e lo hi) lo
theorem cntZ_none {e lo hi : Int} (h : hi < lo) : cntZ e lo hi = 0 := by unfold cntZ; rw [if_pos h]
theorem cntZ_some {e lo hi : Int} (he : 1 ≤ e) (h : lo ≤ hi) : cntZ e lo hi = cntZ e (lo + e) hi + 1 := by
  unfold cntZ
  rw [if_neg (by omega)]
  by_cases h2 : hi < lo + e
  · rw [if_pos h2, Int.ediv_eq_zero_of_lt (by omega) (by omega)]; rfl
  · rw [if_neg h2]
    have e1 : hi - lo = (hi - (lo + e)) + e * 1 := by omega
    have h3 : 0 ≤ (hi - (lo + e)) / e := Int.ediv_nonneg (by omega) (by omega)
    rw [e1, Int.add_mul_ediv_left _ _ (by omega)]
    omega
theorem zeros_none {e lo hi : Int} (h : hi < lo) : zeros e lo hi = [] := by unfold zeros; rw [cntZ_none h]; rfl
theorem zeros_some {e lo hi : Int} (he : 1 ≤ e) (h : lo ≤ hi) : zeros e lo hi = ⟨lo, []⟩ :: zeros e (lo + e) hi := by unfold zeros; rw [cntZ_some he h]; rfl
theorem zeros_len {e lo hi : Int} : (zeros e lo hi).length = cntZ e lo hi := by
  unfold zeros
  generalize cntZ e lo hi = n
  induction n generalizing lo with
  | zero => rfl
  | succ n ih => unfold zerosN; rw [List.length_cons, ih]
theorem zeros_mem {e : Int} (he : 1 ≤ e) : ∀ (n : Nat) {lo hi : Int}, cntZ e lo hi = n → ∀ g ∈ zeros e lo hi, lo ≤ g.f0 ∧ g.f0 ≤ hi ∧ g.f1 = []
  | 0, lo, hi, h, g, hg => by
    have := zeros_len (e := e) (lo := lo) (hi := hi)
    rw [h] at this
    rw [List.length_eq_zero_iff.1 this] at hg
    cases hg
  | n + 1, lo, hi, h, g, hg => by
    by_cases hl : lo ≤ hi
    · rw [zeros_some he hl] at hg
      rw [cntZ_some he hl] at h
      rcases List.mem_cons.1 hg with rfl | hg
      · exact ⟨Int.le_refl _, hl, rfl⟩
      · have := zeros_mem he n (by omega) g hg
        exact ⟨by omega, this.2⟩
    · rw [cntZ_none (by omega)] at h; cases h
/-! ### the loops of down -/
theorem feed_not {a b e : Int} {x : S31} {r : List S31} {o : List S53} (h : ¬ inR a b x) : feed a b e (x :: r) o = feed a b e r o := by
  conv => lhs; unfold feed
  rw [if_neg h]
theorem feed_in {a b e : Int} {x : S31} {r : List S31} {o : List S53} (h : inR a b x) : feed a b e (x :: r) o = feed a b e r (upd (bkt e x.f0) x.f1 o) := by
  conv => lhs; unfold feed
  rw [if_pos h]
theorem rd_gat (l : List S53) (j : Nat) : rd_T53 l (j : Int) = gat l j := by cases l <;> rfl
theorem at_drop {l : List S31} {j : Nat} (h : j < l.length) : l.drop j = at_ l j :: l.drop (j + 1) := by
  rw [List.drop_eq_getElem_cons h]
  congr 1
  unfold at_
  rw [List.getD_eq_getElem?_getD, List.getElem?_eq_getElem h]
  rfl
theorem gat_drop {l : List S53} {j : Nat} (h : j < l.length) : l.drop j = gat l j :: l.drop (j + 1) := by
  rw [List.drop_eq_getElem_cons h]
  congr 1
  unfold gat
  rw [List.getD_eq_getElem?_getD, List.getElem?_eq_getElem h]
  rfl
theorem gat_mem {l : List S53} {j : Nat} (h : j < l.length) : gat l j ∈ l := by
  unfold gat
  rw [List.getD_eq_getElem?_getD, List.getElem?_eq_getElem h]
  exact List.getElem_mem h
theorem gat_left {l : List S53} {x : S53} : gat (l ++ [x]) l.length = x := by
  unfold gat
  rw [List.getD_eq_getElem?_getD, List.getElem?_append_right (Nat.le_refl _), Nat.sub_self]
  rfl
theorem wj {j : Nat} (h : j < 4611686018427387904) : wrap64 ((j : Int) + 1) = ((j + 1 : Nat) : Int) := by unfold wrap64; omega
theorem bucket_tells {t e : Int} (ht : 0 ≤ t) (h2 : t ≤ 4294967295) (he : 1 ≤ e) : down_Bucket.f t e = some (bkt e t) := by
  obtain ⟨a0, a1, a2⟩ := bkt_low he ht
  unfold down_Bucket.f
  rw [if_neg (by omega), if_neg (by omega), if_neg (by omega)]
  congr 1
  unfold bkt at a0 a1 a2 ⊢
  generalize Int.tmod t e = m at *
  unfold wrap64
  omega
theorem fill_loop {e hi : Int} (he : 1 ≤ e) (he2 : e ≤ 4294967295) (hh : hi ≤ 4294967295) : ∀ (n : Nat) (lo : Int) (o : List S53), 0 ≤ lo → cntZ e lo hi = n → o.length + n ≤ 100000 → Ev (fun k => down_fill.l0 k hi e true o lo) (o ++ zeros e lo hi) := by
  intro n
  induction n with
  | zero =>
    intro lo o h0 hn _
    have hlo : ¬ lo ≤ hi := fun h => by rw [cntZ_some he h] at hn; cases hn
    refine evDown ?_
    simp only [down_fill.l0, if_true, if_neg hlo]
    rw [zeros_none (by omega), List.append_nil]
    exact Ev.now _
  | succ n ih =>
    intro lo o h0 hn hb
    have hlo : lo ≤ hi := by
      by_cases h : lo ≤ hi
      · exact h
      · rw [cntZ_none (by omega)] at hn; cases hn
    rw [cntZ_some he hlo] at hn
    refine evDown ?_
    have hw : wrap64 (lo + e) = lo + e := by unfold wrap64; omega
    simp only [down_fill.l0, if_true, if_pos hlo, if_pos (show o.length < 4398046511104 by omega), hw]
    rw [zeros_some he hlo]
    have := ih (lo + e) (o ++ [⟨lo, []⟩]) (by omega) (by omega) (by rw [List.length_append, List.length_singleton]; omega)
    rw [List.append_assoc] at this
    exact this
theorem fill_tells {e lo hi : Int} (zero : Bool) (he : 1 ≤ e) (he2 : e ≤ 4294967295) (hh : hi ≤ 4294967295) (h0 : 0 ≤ lo) (hn : zero = true → cntZ e lo hi ≤ 50000) : Ev (fun k => down_fill.f k lo hi e zero) (if zero then zeros e lo hi else []) := by
  cases zero with
  | true => exact fill_loop he he2 hh _ lo [] h0 rfl (by have := hn rfl; simp only [List.length_nil]; omega)
  | false =>
    unfold down_fill.f
    refine evDown ?_
    simp only [down_fill.l0, Bool.false_eq_true, if_false]
    exact Ev.now _
theorem part_inner {a b e k2 : Int} {o : List S53} {l : List S31} {N i17 : Int} {t n d : Int} {R : List S53} (hol : o.length ≤ 100000) (hof : ∀ g ∈ o, g.f1.length ≤ 100000)
    (hR : Ev (fun k => down_part.l0 k a b e (upd k2 ⟨n, d⟩ o) (pos k2 o : Int) l N (wrap64 (i17 + 1))) R) : ∀ m i : Nat, pos k2 o - i = m → i ≤ pos k2 o → Ev (fun k => down_part.l1 k a b e o (i : Int) k2 l N i17 t n d) R := by
  have hp := pos_le k2 o
  intro m
  induction m with
  | zero =>
    intro i hi hle
    obtain rfl : i = pos k2 o := by omega
    refine evDown ?_
    by_cases hlt : pos k2 o < o.length
    · have hnot := pos_there k2 o hlt
      have hf := hof _ (gat_mem hlt)
      rw [upd_set hlt] at hR
      simp only [down_part.l1, if_pos (show ((pos k2 o : Nat) : Int) < (o.length : Int) by omega), if_pos (show 0 ≤ ((pos k2 o : Nat) : Int) by omega), rd_gat, if_neg hnot, if_neg (show ¬ ((pos k2 o : Nat) : Int) = (o.length : Int) by omega), if_pos (show (gat o (pos k2 o)).f1.length < 8796093022208 by omega), Int.toNat_natCast]
      exact hR
    · have he : pos k2 o = o.length := by omega
      rw [upd_new he] at hR
      have hg : gat (o ++ [(⟨k2, []⟩ : S53)]) (pos k2 o) = ⟨k2, []⟩ := by rw [he]; exact gat_left
      have hs : (o ++ [(⟨k2, []⟩ : S53)]).set (pos k2 o) ⟨k2, [] ++ [⟨n, d⟩]⟩ = o ++ [⟨k2, [⟨n, d⟩]⟩] := by
        rw [he, List.set_append_right _ _ (Nat.le_refl _), Nat.sub_self]
        rfl
      simp only [down_part.l1, if_neg (show ¬ ((pos k2 o : Nat) : Int) < (o.length : Int) by omega), if_pos (show ((pos k2 o : Nat) : Int) = (o.length : Int) by omega), if_pos (show o.length < 4398046511104 by omega), Option.bind_some, if_pos (show 0 ≤ ((pos k2 o : Nat) : Int) by omega), rd_gat, hg, Int.toNat_natCast, hs]
      rw [show (o ++ [(⟨k2, []⟩ : S53)]).length = o.length + 1 from by rw [List.length_append]; rfl]
      simp only [if_pos (show ((pos k2 o : Nat) : Int) < ((o.length + 1 : Nat) : Int) by omega), List.length_nil, if_pos (show 0 < 8796093022208 by omega)]
      exact hR
  | succ m ih =>
    intro i hi hle
    have hlt : i < pos k2 o := by omega
    have ha := pos_ahead k2 o i hlt
    refine evDown ?_
    simp only [down_part.l1, if_pos (show (i : Int) < (o.length : Int) by omega), if_pos (show 0 ≤ (i : Int) by omega), rd_gat, if_pos ha, wj (show i < 4611686018427387904 by omega)]
    exact ih (i + 1) (by omega) (by omega)
/-- Samples that may be, as a list. -/
structure Tms (l : List S31) : Prop where
  ris : Ris l
  low : ∀ x ∈ l, 0 ≤ x.f0 ∧ x.f0 ≤ 4294967295
  len : l.length ≤ 1000
theorem ris_drop : ∀ {l : List S31} (j : Nat), Ris l → Ris (l.drop j)
  | _, 0, h => h
  | [], j + 1, h => h
  | x :: r, j + 1, h => by cases h with | cons _ _ h => exact ris_drop (l := r) j h
theorem part_loop {a b e : Int} (he : 1 ≤ e) {l : List S31} (hl : Tms l) : ∀ (n j : Nat) (i : Nat) (o : List S53), l.length - j = n → j ≤ l.length → i ≤ o.length → o.length + n ≤ 100000 → (∀ g ∈ o, g.f1.length + n ≤ 100000) →
    (∀ y ∈ l.drop j, inR a b y → ∀ q, q < i → (gat o q).f0 < bkt e y.f0) → Ev (fun k => down_part.l0 k a b e o (i : Int) l (l.length : Int) (j : Int)) (feed a b e (l.drop j) o) := by
  have hn7 := hl.len
  intro n
  induction n with
  | zero =>
    intro j i o hj hle hi hb hg hq
    refine evDown ?_
    simp only [down_part.l0, if_neg (show ¬ (j : Int) < (l.length : Int) by omega)]
    rw [List.drop_of_length_le (by omega)]
    exact Ev.now _
  | succ n ih =>
    intro j i o hj hle hi hb hg hq
    have hlt : j < l.length := by omega
    have hd := at_drop hlt
    have hris : Ris (l.drop j) := ris_drop j hl.ris
    have hm : at_ l j ∈ l := by
      have : at_ l j ∈ l.drop j := by rw [hd]; exact List.mem_cons_self ..
      exact List.mem_of_mem_drop this
    obtain ⟨t0, t1⟩ := hl.low _ hm
    rw [hd] at hq hris ⊢
    have hj1 : ∀ (c : Bool) {R : List S53}, c = decide (¬ inR a b (at_ l j)) → (c = true → Ev (fun k => down_part.l0 k a b e o (i : Int) l (l.length : Int) ((j + 1 : Nat) : Int)) R) →
        (c = false → Ev (fun k => down_part.l0 k a b e (upd (bkt e (at_ l j).f0) (at_ l j).f1 o) (pos (bkt e (at_ l j).f0) o : Int) l (l.length : Int) ((j + 1 : Nat) : Int)) R) →
        Ev (fun k => down_part.j1 k a b e o (i : Int) l (l.length : Int) (j : Int) c (at_ l j).f0 (at_ l j).f1.f0 (at_ l j).f1.f1) R := by
      intro c R hc h1 h2
      refine evDown ?_
      cases c with
      | true =>
        simp only [down_part.j1, if_true, wj (show j < 4611686018427387904 by omega)]
        exact h1 rfl
      | false =>
        have hin : inR a b (at_ l j) := by
          have := of_decide_eq_false hc.symm
          exact Decidable.of_not_not this
        simp only [down_part.j1, Bool.false_eq_true, if_false, bucket_tells t0 t1 he, Option.bind_some]
        refine part_inner (by omega) (fun g hgm => by have := hg g hgm; omega) ?_ _ i rfl (pos_ge hi (hq _ (List.mem_cons_self ..) hin))
        rw [wj (show j < 4611686018427387904 by omega)]
        exact h2 rfl
    refine evDown ?_
    simp only [down_part.l0, if_pos (show (j : Int) < (l.length : Int) by omega), if_pos (show 0 ≤ (j : Int) by omega), rd_atN]
    have fin : ∀ c : Bool, c = decide (¬ inR a b (at_ l j)) → Ev (fun k => down_part.j1 k a b e o (i : Int) l (l.length : Int) (j : Int) c (at_ l j).f0 (at_ l j).f1.f0 (at_ l j).f1.f1) (feed a b e (at_ l j :: l.drop (j + 1)) o) := by
      intro c hc
      refine hj1 c hc (fun h => ?_) (fun h => ?_)
      · rw [h] at hc
        have hno := of_decide_eq_true hc.symm
        rw [feed_not hno]
        exact ih (j + 1) i o (by omega) (by omega) hi (by omega) (fun g hgm => by have := hg g hgm; omega) (fun y hy => hq y (List.mem_cons_of_mem _ hy))
      · rw [h] at hc
        have hin : inR a b (at_ l j) := Decidable.of_not_not (of_decide_eq_false hc.symm)
        rw [feed_in hin]
        have hul := upd_len (bkt e (at_ l j).f0) (at_ l j).f1 o
        have hpl := pos_le (bkt e (at_ l j).f0) o
        have hpu : pos (bkt e (at_ l j).f0) o ≤ (upd (bkt e (at_ l j).f0) (at_ l j).f1 o).length := by
          by_cases h : pos (bkt e (at_ l j).f0) o < o.length
          · rw [upd_set h, List.length_set]; omega
          · rw [upd_new (by omega), List.length_append]; omega
        refine ih (j + 1) _ _ (by omega) (by omega) hpu (by omega) (fun g hgm => ?_) (fun y hy hyi q hqp => ?_)
        · have := (upd_all (p := fun _ => True) (n := 100000 - (n + 1)) (a := bkt e (at_ l j).f0) (v := (at_ l j).f1) trivial (l := o) (fun g hgm => ⟨by have := hg g hgm; omega, fun _ _ => trivial⟩) g hgm).1
          have h0 : n + 1 ≤ 100000 := by omega
          omega
        · rw [upd_ahead o q hqp]
          have h1 := pos_ahead _ o q hqp
          cases hris with
          | cons g0 g1 g2 =>
            have := bkt_mono he t0 (Int.le_of_lt (g1 y hy))
            omega
    by_cases ha : (at_ l j).f0 < a
    · simp only [if_pos ha]
      exact fin true (decide_eq_true (show ¬ inR a b (at_ l j) from fun h => by have := h.1; omega)).symm
    · simp only [if_neg ha]
      refine fin _ ?_
      rw [decide_eq_decide]
      unfold inR
      omega
theorem part_tells {a b e : Int} (he : 1 ≤ e) {l : List S31} (hl : Tms l) {o : List S53} (ho : o.length ≤ 50000) (hof : ∀ g ∈ o, g.f1 = []) : Ev (fun k => down_part.f k l a b e o) (feed a b e l o) := by
  have hn7 := hl.len
  have := part_loop he hl (a := a) (b := b) l.length 0 0 o rfl (Nat.zero_le _) (Nat.zero_le _) (by omega) (fun g hg => by rw [hof g hg]; simp only [List.length_nil]; omega) (fun y _ _ q hq => absurd hq (Nat.not_lt_zero _))
  rw [List.drop_zero] at this
  exact this
/-- Each bucket's number, one behind the other; the first refusal ends it. -/
def collect (val : List S29 → Int × Int × Int) : List S53 → List S31 → List S31 × Int
  | [], acc => (acc, 0)
  | g :: r, acc => if 0 < g.f1.length then (if (val g.f1).2.2 = 0 then collect val r (acc ++ [⟨g.f0, ⟨(val g.f1).1, (val g.f1).2.1⟩⟩]) else ([], (val g.f1).2.2)) else collect val r (acc ++ [⟨g.f0, ⟨0, 1⟩⟩])
theorem do_loop {how : Int} {val : List S29 → Int × Int × Int} {gs : List S53} (hv : ∀ g ∈ gs, 0 < g.f1.length → Ev (fun k => fold_Do.f k how g.f1) (val g.f1)) (hgl : gs.length ≤ 100000) : ∀ (n j : Nat) (acc : List S31), gs.length - j = n → j ≤ gs.length → acc.length + n ≤ 200000 →
    Ev (fun k => down_Do.l0 k how acc gs (gs.length : Int) (j : Int)) (collect val (gs.drop j) acc) := by
  intro n
  induction n with
  | zero =>
    intro j acc hj hle _
    refine evDown ?_
    simp only [down_Do.l0, if_neg (show ¬ (j : Int) < (gs.length : Int) by omega)]
    rw [List.drop_of_length_le (by omega)]
    exact Ev.now _
  | succ n ih =>
    intro j acc hj hle hb
    have hlt : j < gs.length := by omega
    rw [gat_drop hlt]
    unfold collect
    have hgm := gat_mem hlt
    refine evDown ?_
    simp only [down_Do.l0, if_pos (show (j : Int) < (gs.length : Int) by omega), if_pos (show 0 ≤ (j : Int) by omega), rd_gat, wj (show j < 4611686018427387904 by omega), if_pos (show acc.length < 5864062014805 by omega)]
    by_cases h : 0 < (gat gs j).f1.length
    · simp only [if_pos h, if_pos (show ((gat gs j).f1.length : Int) > 0 by omega)]
      refine Ev.bind (hv _ hgm h) ?_
      by_cases h0 : (val (gat gs j).f1).2.2 = 0
      · simp only [if_pos h0]
        exact ih (j + 1) _ (by omega) (by omega) (by rw [List.length_append, List.length_singleton]; omega)
      · simp only [if_neg h0]
        exact Ev.now _
    · simp only [if_neg h, if_neg (show ¬ ((gat gs j).f1.length : Int) > 0 by omega)]
      exact ih (j + 1) _ (by omega) (by omega) (by rw [List.length_append, List.length_singleton]; omega)
/-- May the ends, the buckets, the fold be? -/
def askOk (a b e how : Int) : Bool := decide (0 ≤ a) && decide (a ≤ b) && decide (b ≤ 4294967295) && decide (1 ≤ e) && decide (e ≤ 4294967295) && decide (1 ≤ how ∧ how ≤ 7)
theorem feed_len (a b e : Int) : ∀ (l : List S31) (o : List S53), (feed a b e l o).length ≤ o.length + l.length
  | [], o => Nat.le_refl _
  | x :: r, o => by
    unfold feed
    split
    · have := feed_len a b e r (upd (bkt e x.f0) x.f1 o)
      have := upd_len (bkt e x.f0) x.f1 o
      rw [List.length_cons]; omega
    · have := feed_len a b e r o
      rw [List.length_cons]; omega
/-- The buckets of samples, between their ends. -/
def bks (l : List S31) (a b e : Int) (zero : Bool) : List S53 := feed a b e l (if zero then zeros e (bkt e a) (bkt e b) else [])
def manyZ (a b e : Int) (zero : Bool) : Bool := zero && decide (cntZ e (bkt e a) (bkt e b) > 4096)
theorem tdiv_cnt {a b e : Int} (ha : 0 ≤ a) (hab : a ≤ b) (hb : b ≤ 4294967295) (he : 1 ≤ e) : wrap64 (Int.tdiv (wrap64 (bkt e b - bkt e a)) e) = (cntZ e (bkt e a) (bkt e b) : Int) - 1 ∧ 1 ≤ cntZ e (bkt e a) (bkt e b) ∧ cntZ e (bkt e a) (bkt e b) ≤ 4294967296 := by
  have hm := bkt_mono he ha hab
  obtain ⟨p0, p1, p2⟩ := bkt_low he ha
  obtain ⟨q0, q1, q2⟩ := bkt_low he (show 0 ≤ b by omega)
  generalize bkt e a = x at *
  generalize bkt e b = y at *
  have e1 : wrap64 (y - x) = y - x := by unfold wrap64; omega
  rw [e1, Int.tdiv_eq_ediv_of_nonneg (by omega)]
  have h1 : 0 ≤ (y - x) / e := Int.ediv_nonneg (by omega) (by omega)
  have h2 : (y - x) / e ≤ y - x := Int.ediv_le_self _ (by omega)
  unfold cntZ
  rw [if_neg (by omega)]
  generalize (y - x) / e = q at *
  have e2 : wrap64 q = q := by unfold wrap64; omega
  rw [e2]
  omega
theorem do_ask {l : List S31} {a b e how : Int} {zero : Bool} (hr : Ev (fun k => down_Right.f k l) true) (hl : Tms l) (hok : askOk a b e how = true) {val : List S29 → Int × Int × Int}
    (hv : ∀ g ∈ bks l a b e zero, 0 < g.f1.length → Ev (fun k => fold_Do.f k how g.f1) (val g.f1)) : Ev (fun k => down_Do.f k l a b e how zero) (if manyZ a b e zero = true then ([], 3) else collect val (bks l a b e zero) []) := by
  have hn7 := hl.len
  unfold askOk at hok
  simp only [Bool.and_eq_true, decide_eq_true_eq] at hok
  obtain ⟨⟨⟨⟨⟨h0, h1⟩, h2⟩, h3⟩, h4⟩, h5⟩ := hok
  obtain ⟨c1, c2, c3⟩ := tdiv_cnt h0 h1 h2 h3
  obtain ⟨q0, q1, q2⟩ := bkt_low h3 (show 0 ≤ b by omega)
  obtain ⟨p0, p1, p2⟩ := bkt_low h3 h0
  have hrt : fold_Right.f how = some true := by unfold fold_Right.f; rw [if_pos h5.1, decide_eq_true h5.2]
  have hj1 : ∀ c : Bool, c = manyZ a b e zero → Ev (fun k => down_Do.j1 k l a b e how zero (bkt e a) (bkt e b) c) (if manyZ a b e zero = true then ([], 3) else collect val (bks l a b e zero) []) := by
    intro c hc
    rw [← hc]
    refine evDown ?_
    cases c with
    | true =>
      simp only [down_Do.j1, if_true]
      exact Ev.now _
    | false =>
      have hcz : zero = true → cntZ e (bkt e a) (bkt e b) ≤ 4096 := by
        intro hz
        unfold manyZ at hc
        rw [hz, Bool.true_and] at hc
        have := of_decide_eq_false hc.symm
        omega
      simp only [down_Do.j1, Bool.false_eq_true, if_false]
      refine Ev.bind (fill_tells zero h3 h4 (by omega) p0 (fun h => by have := hcz h; omega)) ?_
      have hfl : (if zero = true then zeros e (bkt e a) (bkt e b) else []).length ≤ 4096 := by
        cases zero with
        | true => simp only [if_true, zeros_len]; exact hcz rfl
        | false => simp
      refine Ev.bind (part_tells h3 hl (by omega) (fun g hg => ?_)) ?_
      · cases zero with
        | true => simp only [if_true] at hg; exact (zeros_mem h3 _ rfl g hg).2.2
        | false => simp at hg
      · have hfd := feed_len a b e l (if zero = true then zeros e (bkt e a) (bkt e b) else [])
        have := do_loop (how := how) (val := val) (gs := bks l a b e zero) hv (by unfold bks; omega) _ 0 [] rfl (Nat.zero_le _) (by unfold bks; simp only [List.length_nil]; omega)
        rw [List.drop_zero] at this
        exact this
  unfold down_Do.f
  refine Ev.bind hr ?_
  simp only [if_true, if_neg (show ¬ a < 0 by omega), if_neg (show ¬ a > b by omega), if_neg (show ¬ b > 4294967295 by omega), if_neg (show ¬ e < 1 by omega), if_neg (show ¬ e > 4294967295 by omega), hrt, Option.bind_some, Bool.not_true]
  refine evDown ?_
  simp only [down_Do.j0, Bool.false_eq_true, if_false, bucket_tells h0 (show a ≤ 4294967295 by omega) h3, bucket_tells (show 0 ≤ b by omega) h2 h3, Option.bind_some]
  cases zero with
  | true =>
    simp only [if_true, if_neg (show ¬ e = 0 by omega), c1]
    refine hj1 _ ?_
    unfold manyZ
    rw [Bool.true_and, decide_eq_decide]
    omega
  | false =>
    simp only [Bool.false_eq_true, if_false]
    exact hj1 _ rfl
/-! ### samples that may be -/
theorem good_tms {l : List S31} (h : GoodL l) (hn : l.length ≤ 1000) : Tms l := by
  have up : ∀ d j : Nat, j + d + 1 < l.length → (at_ l j).f0 < (at_ l (j + d + 1)).f0 := by
    intro d
    induction d with
    | zero => intro j hj; exact (h (j + 1) hj).2.2.2 (by omega)
    | succ d ih =>
      intro j hj
      have h1 := ih j (by omega)
      have h2 := (h (j + (d + 1) + 1) hj).2.2.2 (by omega)
      rw [show j + (d + 1) + 1 - 1 = j + d + 1 by omega] at h2
      exact Int.lt_trans h1 h2
  have mem : ∀ x ∈ l, ∃ j, j < l.length ∧ x = at_ l j := by
    intro x hx
    obtain ⟨j, hj, rfl⟩ := List.getElem_of_mem hx
    refine ⟨j, hj, ?_⟩
    unfold at_
    rw [List.getD_eq_getElem?_getD, List.getElem?_eq_getElem hj]
    rfl
  refine ⟨?_, fun x hx => ?_, hn⟩
  · have : ∀ n j : Nat, l.length - j = n → j ≤ l.length → Ris (l.drop j) := by
      intro n
      induction n with
      | zero => intro j hj hle; rw [List.drop_of_length_le (by omega)]; exact .nil
      | succ n ih =>
        intro j hj hle
        have hlt : j < l.length := by omega
        rw [at_drop hlt]
        refine .cons (h j hlt).1 (fun y hy => ?_) (ih (j + 1) (by omega) (by omega))
        obtain ⟨q, hq, rfl⟩ := List.getElem_of_mem hy
        rw [List.length_drop] at hq
        rw [List.getElem_drop]
        have := up q j (by omega)
        have e : at_ l (j + q + 1) = l[j + 1 + q]'(by omega) := by
          unfold at_
          rw [List.getD_eq_getElem?_getD, show j + q + 1 = j + 1 + q by omega, List.getElem?_eq_getElem (by omega)]
          rfl
        rw [e] at this
        exact this
    have := this l.length 0 rfl (Nat.zero_le _)
    rwa [List.drop_zero] at this
  · obtain ⟨j, hj, rfl⟩ := mem x hx
    exact ⟨(h j hj).1, (h j hj).2.1⟩
/-! ### numbers that may be -/
theorem allR_of : ∀ {l : List S29}, (∀ x ∈ l, Rt x.f0 x.f1) → allR l = true
  | [], _ => rfl
  | x :: l, h => by
    unfold allR
    rw [(h x (List.mem_cons_self ..)).right, allR_of (fun y hy => h y (List.mem_cons_of_mem _ hy))]
    rfl
/-! ### the same samples -/
theorem rsame_loop (a : List S31) (hs : a.length < 4611686018427387904) : ∀ n j : Nat, a.length - j = n → j ≤ a.length → Ev (fun k => marigraphref21_Same.l0 k a a (j : Int)) true := by
  intro n
  induction n with
  | zero =>
    intro j hj hle
    refine evDown ?_
    simp only [marigraphref21_Same.l0, if_neg (show ¬ (j : Int) < (a.length : Int) by omega)]
    exact Ev.now _
  | succ n ih =>
    intro j hj hle
    refine evDown ?_
    simp only [marigraphref21_Same.l0, if_pos (show (j : Int) < (a.length : Int) by omega), if_pos (show 0 ≤ (j : Int) by omega), beq_self_eq_true, Bool.not_true, Bool.or_self, Bool.false_eq_true, if_false, wj (show j < 4611686018427387904 by omega)]
    exact ih (j + 1) (by omega) (by omega)
theorem rsame_tells {a : List S31} (hs : a.length < 4611686018427387904) : Ev (fun k => marigraphref21_Same.f k a a) true := by
  unfold marigraphref21_Same.f
  simp only [if_true]
  exact rsame_loop a hs a.length 0 rfl (Nat.zero_le _)
theorem ev_one {α : Type} {g : Nat → Option α} {a b : α} (h : Ev g a) (k : Ev g b) : a = b := by
  obtain ⟨K1, h1⟩ := h
  obtain ⟨K2, h2⟩ := k
  have e1 := h1 (K1 + K2) (by omega)
  rw [h2 (K1 + K2) (by omega)] at e1
  exact (Option.some.inj e1).symm
theorem fold_one {how : Int} (hh : how = 1 ∨ how = 2 ∨ how = 3 ∨ how = 4 ∨ how = 6 ∨ how = 7) {v : S29} (h : Rt v.f0 v.f1) : Ev (fun k => fold_Do.f k how [v]) (v.f0, v.f1, 0) := by
  have ha : allR [v] = true := allR_of (fun x hx => by obtain rfl := List.mem_singleton.1 hx; exact h)
  by_cases h3 : how = 1 ∨ how = 2 ∨ how = 3
  · exact do_plain h3 ha (by simp) rfl
  · have hfI : Ev (fun k => foldI k how [] v.f0 v.f1) (v.f0, v.f1, 0) := Ev.now _
    refine do_start (by omega) (by omega) ha (by simp) (Ev.bind hfI ?_)
    simp only [if_true]
    have hof : Ev (fun k => rat_Of.f k (([v].length : Nat) : Int)) (1, 1, 0) := of_ev (n := 1) (by decide)
    refine Ev.bind hof ?_
    simp only [if_true, if_neg (show ¬ how = 5 by omega)]
    by_cases h4 : how = 4
    · simp only [if_pos h4]
      have hd := Div_tells h (rt_one (n := 1) (by decide) (by decide))
      rw [Int.mul_one, Int.mul_one] at hd
      have hr := h.right
      unfold rightQ at hr
      rw [Bool.and_eq_true, decide_eq_true_eq, decide_eq_true_eq] at hr
      rw [hr.2] at hd
      exact hd
    · simp only [if_neg h4]
      exact Ev.now _
theorem bkt_one (t : Int) : bkt 1 t = t := by unfold bkt; simp
theorem feed_ones {a b : Int} : ∀ {l : List S31}, Ris l → (∀ y ∈ l, inR a b y) → feed a b 1 l [] = l.map (fun x => ⟨x.f0, [x.f1]⟩)
  | [], _, _ => rfl
  | x :: r, hr, h => by
    cases hr with
    | cons h0 h1 h2 =>
      rw [feed_in (h x (List.mem_cons_self ..)), bkt_one]
      have := feed_pre (a := a) (b := b) (e := 1) (p := [(⟨x.f0, [x.f1]⟩ : S53)]) (l := r) (t := []) (fun y hy _ g hg => by obtain rfl := List.mem_singleton.1 hg; rw [bkt_one]; exact h1 y hy)
      rw [List.append_nil] at this
      show feed a b 1 r [⟨x.f0, [x.f1]⟩] = _
      rw [this, feed_ones h2 (fun y hy => h y (List.mem_cons_of_mem _ hy))]
      rfl
theorem collect_ones {val : List S29 → Int × Int × Int} : ∀ (l : List S31) (acc : List S31), (∀ x ∈ l, val [x.f1] = (x.f1.f0, x.f1.f1, 0)) → collect val (l.map (fun x => ⟨x.f0, [x.f1]⟩)) acc = (acc ++ l, 0)
  | [], acc, _ => by simp [collect]
  | x :: r, acc, h => by
    have hx := h x (List.mem_cons_self ..)
    rw [List.map_cons]
    conv => lhs; unfold collect
    rw [if_pos (show 0 < (⟨x.f0, [x.f1]⟩ : S53).f1.length from Nat.zero_lt_one)]
    show (if (val [x.f1]).2.2 = 0 then collect val (r.map (fun x => ⟨x.f0, [x.f1]⟩)) (acc ++ [⟨x.f0, ⟨(val [x.f1]).1, (val [x.f1]).2.1⟩⟩]) else ([], (val [x.f1]).2.2)) = _
    rw [hx]
    show (if (0 : Int) = 0 then collect val (r.map (fun x => ⟨x.f0, [x.f1]⟩)) (acc ++ [x]) else ([], 0)) = _
    rw [if_pos rfl, collect_ones r _ (fun y hy => h y (List.mem_cons_of_mem _ hy)), List.append_assoc]
    rfl
theorem runV_map {b e k : Int} : ∀ {l : List S31}, (∀ y ∈ l, y.f0 ≤ b ∧ bkt e y.f0 = k) → runV b e k l = l.map (·.f1) ∧ runR b e k l = []
  | [], _ => ⟨rfl, rfl⟩
  | x :: r, h => by
    obtain ⟨i1, i2⟩ := runV_map (l := r) (fun y hy => h y (List.mem_cons_of_mem _ hy))
    unfold runV runR
    rw [if_pos (h x (List.mem_cons_self ..)), if_pos (h x (List.mem_cons_self ..)), i1, i2]
    exact ⟨rfl, rfl⟩
theorem list_loop {l : List S31} {a : List S31} {er : Int} {R : Bool} (hn : l.length ≤ 1000) (hR : Ev (fun k => (marigraphref20_Do.f k 3 (l.map (·.f1))).bind fun bt336 => (if er = 0 then (if bt336.2.2 = 0 then (if (a.length : Int) = 1 then (if 0 < (a.length : Int) then (if (((rd_T31 a 0).f0) == 0 && ((((rd_T31 a 0).f1.f0) == bt336.1 && (((rd_T31 a 0).f1.f1) == bt336.2.1)))) = true then ((marigraphlaw21_known.f k).bind fun t341 => (some t341)) else (some false)) else (none)) else (some false)) else (some false)) else (some false))) R) :
    ∀ (n j : Nat) (vs : List S29), l.length - j = n → j ≤ l.length → vs ++ (l.drop j).map (·.f1) = l.map (·.f1) → Ev (fun k => marigraphlaw21_DownOne.l1 k l a er vs (j : Int)) R := by
  intro n
  induction n with
  | zero =>
    intro j vs hj hle hv
    rw [List.drop_of_length_le (by omega)] at hv
    have hv2 : vs = l.map (·.f1) := by simpa using hv
    refine evDown ?_
    simp only [marigraphlaw21_DownOne.l1, if_neg (show ¬ (j : Int) < (l.length : Int) by omega)]
    rw [hv2]
    exact hR
  | succ n ih =>
    intro j vs hj hle hv
    have hlt : j < l.length := by omega
    rw [at_drop hlt, List.map_cons] at hv
    have hvl : vs.length ≤ 1000 := by
      have := congrArg List.length hv
      rw [List.length_append, List.length_map] at this
      omega
    refine evDown ?_
    simp only [marigraphlaw21_DownOne.l1, if_pos (show (j : Int) < (l.length : Int) by omega), if_pos (show 0 ≤ (j : Int) by omega), if_pos (show vs.length < 8796093022208 by omega), rd_atN, wj (show j < 4611686018427387904 by omega)]
    exact ih (j + 1) _ (by omega) (by omega) (by rw [List.append_assoc]; exact hv)
theorem known21o : Ev (fun k => marigraphlaw21_known.f k) true := Ev.of (k := 60) marigraphlaw21_known.mono (by decide +kernel)
def hows : List Int := [1, 2, 3, 4, 6, 7]
theorem DownOne : marigraphlaw21_DownOne.Pure := by
  intro l0 l1 _ _ h0 _ _ h1
  obtain ⟨l, hl, e1⟩ := samples_tells (fun x hx => i64_of (h0 x hx)) (fun x hx => i64_of (h1 x hx))
  have hlen := hl.len
  have hgood := hl.good
  have hT := good_tms hgood (by omega)
  have hR : Ev (fun k => down_Right.f k l) true := down_right_tells l hgood (by omega)
  have hmem : ∀ x ∈ l, ∃ j, j < l.length ∧ x = at_ l j := by
    intro x hx
    obtain ⟨j, hj, rfl⟩ := List.getElem_of_mem hx
    refine ⟨j, hj, ?_⟩
    unfold at_
    rw [List.getD_eq_getElem?_getD, List.getElem?_eq_getElem hj]
    rfl
  have hRt : ∀ x ∈ l, Rt x.f1.f0 x.f1.f1 := fun x hx => by
    obtain ⟨j, hj, rfl⟩ := hmem x hx
    exact (hl.ok j hj).rt
  have hin : ∀ y ∈ l, inR 0 1000 y := fun y hy => by
    obtain ⟨j, hj, rfl⟩ := hmem y hy
    have := hl.t0 j hj
    exact ⟨this.1, by omega⟩
  have ones : ∀ how : Int, how = 1 ∨ how = 2 ∨ how = 3 ∨ how = 4 ∨ how = 6 ∨ how = 7 → Ev (fun k => down_Do.f k l 0 1000 1 how false) (l, 0) := by
    intro how hh
    have hok : askOk 0 1000 1 how = true := by
      unfold askOk
      simp only [Bool.and_eq_true, decide_eq_true_eq]
      omega
    have hb : bks l 0 1000 1 false = l.map (fun x => ⟨x.f0, [x.f1]⟩) := feed_ones hT.ris hin
    have := do_ask (how := how) (zero := false) (val := fun vs => match vs with | [v] => (v.f0, v.f1, 0) | _ => (0, 0, 0)) hR hT hok (fun g hg _ => by
      rw [hb] at hg
      obtain ⟨x, hx, rfl⟩ := List.mem_map.1 hg
      exact fold_one hh (hRt x hx))
    rw [show manyZ 0 1000 1 false = false from rfl, hb, collect_ones l [] (fun _ _ => rfl)] at this
    simpa using this
  have one : ∃ a : List S31, Ev (fun k => down_Do.f k l 0 1000 1001 3 false) (a, 0) ∧ ((l.length = 0 ∧ a = []) ∨ (0 < l.length ∧ ∃ N D, a = [⟨0, ⟨N, D⟩⟩] ∧ Ev (fun k => marigraphref20_Do.f k 3 (l.map (·.f1))) (N, D, 0))) := by
    have hok : askOk 0 1000 1001 3 = true := by decide
    cases hl2 : l with
    | nil =>
      rw [hl2] at hR hT
      have := do_ask (how := 3) (zero := false) (val := fun _ => (0, 0, 0)) (e := 1001) (a := 0) (b := 1000) hR hT hok (fun g hg _ => by
        rw [show bks [] 0 1000 1001 false = [] from rfl] at hg; cases hg)
      rw [show manyZ 0 1000 1001 false = false from rfl, show bks [] 0 1000 1001 false = [] from rfl] at this
      exact ⟨[], this, .inl ⟨rfl, rfl⟩⟩
    | cons x r =>
      rw [hl2] at hR hT hin hRt hlen
      have hall : ∀ y ∈ x :: r, y.f0 ≤ 1000 ∧ bkt 1001 y.f0 = 0 := fun y hy => by
        have h := hin y hy
        refine ⟨h.2, ?_⟩
        unfold bkt
        rw [Int.tmod_eq_of_lt h.1 (by have := h.2; omega)]
        omega
      have hx := hall x (List.mem_cons_self ..)
      have hb : bks (x :: r) 0 1000 1001 false = [⟨0, (x :: r).map (·.f1)⟩] := by
        have hris := hT.ris
        cases hris with
        | cons g0 g1 g2 =>
          have hrm := runV_map (b := 1000) (e := 1001) (k := 0) (l := r) (fun y hy => hall y (List.mem_cons_of_mem _ hy))
          have hf := feed_run (a := 0) (b := 1000) (e := 1001) (k := 0) (vs := [x.f1]) (t := []) (by decide) g2 (fun y hy _ => by rw [(hall y (List.mem_cons_of_mem _ hy)).2]; exact Int.le_refl _) (fun y hy => (hin y (List.mem_cons_of_mem _ hy)).1)
          rw [hrm.1, hrm.2] at hf
          show feed 0 1000 1001 (x :: r) [] = _
          rw [feed_in (hin x (List.mem_cons_self ..)), hx.2]
          show feed 0 1000 1001 r [⟨0, [x.f1]⟩] = _
          rw [hf]
          rfl
      have ha : allR ((x :: r).map (·.f1)) = true := allR_of (fun v hv => by
        obtain ⟨y, hy, rfl⟩ := List.mem_map.1 hv
        exact hRt y hy)
      have hn2 : ((x :: r).map (·.f1)).length ≤ 1000 := by rw [List.length_map]; omega
      obtain ⟨N, D, eN, _⟩ := do_ext (how := 3) (.inr rfl) (x := x.f1) (xs := r.map (fun y : S31 => y.f1)) ha hn2
      obtain ⟨q, q1, q2⟩ := do_same 3 ((x :: r).map (·.f1)) (num_rt ha) hn2
      have hq : q = (N, D, 0) := ev_one q1 eN
      rw [hq] at q2
      have := do_ask (how := 3) (zero := false) (val := fun _ => (N, D, 0)) (e := 1001) (a := 0) (b := 1000) hR hT hok (fun g hg _ => by
        rw [hb] at hg
        obtain rfl := List.mem_singleton.1 hg
        exact eN)
      rw [show manyZ 0 1000 1001 false = false from rfl, hb] at this
      exact ⟨[⟨0, ⟨N, D⟩⟩], this, .inr ⟨by simp, N, D, rfl, q2⟩⟩
  obtain ⟨a, ea, hcase⟩ := one
  have loop : ∀ n j : Nat, 6 - j = n → j ≤ 6 → Ev (fun k => marigraphlaw21_DownOne.l0 k l hows 6 (j : Int)) true := by
    intro n
    induction n with
    | zero =>
      intro j hj hle
      refine evDown ?_
      simp only [marigraphlaw21_DownOne.l0, if_neg (show ¬ (j : Int) < 6 by omega)]
      refine Ev.bind ea ?_
      rcases hcase with ⟨hz, rfl⟩ | ⟨hp, N, D, rfl, eR⟩
      · simp only [if_pos (show (l.length : Int) = 0 by omega), if_true, List.length_nil, if_pos (show ((0 : Nat) : Int) = 0 from rfl)]
        exact Ev.bind known21o (Ev.now _)
      · simp only [if_neg (show ¬ (l.length : Int) = 0 by omega)]
        refine list_loop (by omega) ?_ l.length 0 [] rfl (Nat.zero_le _) (by simp)
        refine Ev.bind eR ?_
        simp only [if_true, List.length_singleton, if_pos (show ((1 : Nat) : Int) = 1 from rfl), if_pos (show 0 < ((1 : Nat) : Int) by decide), show rd_T31 [(⟨0, ⟨N, D⟩⟩ : S31)] 0 = ⟨0, ⟨N, D⟩⟩ from rfl, beq_self_eq_true, Bool.and_self]
        exact Ev.bind known21o (Ev.now _)
    | succ n ih =>
      intro j hj hle
      have hh : rd hows (j : Int) = 1 ∨ rd hows (j : Int) = 2 ∨ rd hows (j : Int) = 3 ∨ rd hows (j : Int) = 4 ∨ rd hows (j : Int) = 6 ∨ rd hows (j : Int) = 7 := by
        have : j = 0 ∨ j = 1 ∨ j = 2 ∨ j = 3 ∨ j = 4 ∨ j = 5 := by omega
        rcases this with h | h | h | h | h | h <;> subst h <;> decide
      refine evDown ?_
      simp only [marigraphlaw21_DownOne.l0, if_pos (show (j : Int) < 6 by omega), if_pos (show 0 ≤ (j : Int) by omega), if_pos (show (j : Int) < (hows.length : Int) by rw [show hows.length = 6 from rfl]; omega)]
      refine Ev.bind (ones _ hh) ?_
      simp only [if_true]
      refine Ev.bind (rsame_tells (by omega)) ?_
      simp only [if_true, wj (show j < 4611686018427387904 by omega)]
      exact ih (j + 1) (by omega) (by omega)
  obtain ⟨K, hK⟩ : Ev (fun k => marigraphlaw21_DownOne.f k l0 l1) true := by
    unfold marigraphlaw21_DownOne.f
    refine Ev.bind e1 ?_
    simp only [Option.bind_some]
    exact loop 6 0 rfl (Nat.zero_le _)
  exact ⟨K, hK K (Nat.le_refl _)⟩

end Go.Proofs.Ytlmhgjnlbokceaa.Pure

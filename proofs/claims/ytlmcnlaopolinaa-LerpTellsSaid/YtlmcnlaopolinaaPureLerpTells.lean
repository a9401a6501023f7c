/- LerpTells: what the two packages tell between any samples is the same. No condition beyond the statement. -/
import Derived.Test.YtlmcnlaopolinaaPLerpTellsx12
namespace Go.Proofs.Ytlmcnlaopolinaa.Pure
open Go.RowKit Go.Proofs.Ytlmcnlaopolinaa.PLerpTells Go.Proofs.YtlmcnlaopolinaaW.PrintWords Go.Proofs.YtlmcnlaopolinaaW.PrintLast
set_option linter.unusedVariables false
set_option linter.unusedSimpArgs false

theorem evEq {α : Type} {f g : Nat → Option α} {r : α} (hf : ∀ k, f k = g k) (h : Ev g r) : Ev f r := by rw [funext hf]; exact h
theorem i64_of {a : Int} (h : (Lit.int .i64 a).wf = true) : -9223372036854775808 ≤ a ∧ a ≤ 9223372036854775807 := by
  have h1 : IntKind.i64.min = -9223372036854775808 := rfl
  have h2 : IntKind.i64.max = 9223372036854775807 := rfl
  simp only [Lit.wf, Bool.and_eq_true, decide_eq_true_eq] at h
  omega
/-! ### rationals: New, Right -/
def Pure_ofQ (q : Rat) : Int × Int × Int := if q.num.natAbs > 2147483647 ∨ q.den > 2147483647 then (0, 0, 23) else (q.num, (q.den : Int), 0)
def newQ (n d : Int) : Int × Int × Int := if d = 0 then (0, 0, 1) else Pure_ofQ (Rat.divInt n d)
def I64 (n : Int) : Prop := -9223372036854775808 ≤ n ∧ n ≤ 9223372036854775807
theorem wrapU {x : Int} (h0 : 0 ≤ x) (h1 : x < 18446744073709551616) : IntKind.u64.wrap x = x := by
  have : IntKind.u64.wrap x = x % 18446744073709551616 := by simp [IntKind.wrap, IntKind.bits, IntKind.signed]
  rw [this]; exact Int.emod_eq_of_lt h0 h1
theorem wrapU_eq (x : Int) : IntKind.u64.wrap x = x % 18446744073709551616 := by simp [IntKind.wrap, IntKind.bits, IntKind.signed]
theorem wrap64_id {x : Int} (h : I64 x) : wrap64 x = x := by unfold I64 at h; unfold wrap64; omega
theorem size_tells {n : Int} (h : I64 n) : rat_size.f n = some (n.natAbs : Int) := by
  unfold I64 at h
  unfold rat_size.f
  by_cases hn : n < 0
  · rw [if_pos hn, wrapU_eq, wrapU_eq]
    congr 1
    omega
  · rw [if_neg hn, wrapU_eq]
    congr 1
    omega
theorem common_tells (b : Nat) : ∀ (a k : Nat), b < k → rat_common.l0 k (a : Int) (b : Int) = some ((Nat.gcd a b : Nat) : Int) := by
  induction b using Nat.strongRecOn with
  | _ b ih =>
    intro a k hk
    obtain ⟨k, rfl⟩ : ∃ m, k = m + 1 := ⟨k - 1, by omega⟩
    simp only [rat_common.l0]
    by_cases hb : b = 0
    · subst hb
      rw [if_neg (by omega), Nat.gcd_zero_right]
    · rw [if_pos (by omega), if_neg (by omega)]
      have e : Int.tmod (a : Int) (b : Int) = ((a % b : Nat) : Int) := by rw [Int.ofNat_tmod]
      have hl : a % b < b := Nat.mod_lt _ (by omega)
      rw [e, ih (a % b) hl b k (by omega), Nat.gcd_comm a b, Nat.gcd_rec b a, Nat.gcd_comm]
theorem new_parts (n d : Int) (hd : d ≠ 0) : (Rat.divInt n d).den = d.natAbs / Nat.gcd n.natAbs d.natAbs ∧ (Rat.divInt n d).num.natAbs = n.natAbs / Nat.gcd n.natAbs d.natAbs ∧
    (if (decide (n < 0)) != (decide (d < 0)) then (Rat.divInt n d).num = -((n.natAbs / Nat.gcd n.natAbs d.natAbs : Nat) : Int) else (Rat.divInt n d).num = ((n.natAbs / Nat.gcd n.natAbs d.natAbs : Nat) : Int)) := by
  have hg : Int.gcd d n = Nat.gcd n.natAbs d.natAbs := by unfold Int.gcd; exact Nat.gcd_comm _ _
  have hpos : 0 < Nat.gcd n.natAbs d.natAbs := Nat.gcd_pos_of_pos_right _ (by omega)
  refine ⟨by rw [Rat.den_divInt, if_neg hd, hg], ?_⟩
  rw [Rat.num_divInt, hg]
  obtain ⟨c, hc⟩ : ∃ c : Int, n = (Nat.gcd n.natAbs d.natAbs : Int) * c := by
    have : ((Nat.gcd n.natAbs d.natAbs : Nat) : Int) ∣ n := Int.natAbs_dvd_natAbs.1 (by rw [Int.natAbs_natCast]; exact Nat.gcd_dvd_left _ _)
    exact this
  generalize Nat.gcd n.natAbs d.natAbs = g at *
  have hA : n.natAbs / g = c.natAbs := by
    rw [hc, Int.natAbs_mul, Int.natAbs_natCast]
    exact Nat.mul_div_cancel_left _ hpos
  have hnc : (n < 0 ↔ c < 0) := by
    have hg0 : (0 : Int) < (g : Int) := by omega
    constructor
    · intro h
      by_cases h' : c < 0
      · exact h'
      · have := Int.mul_nonneg (Int.le_of_lt hg0) (Int.not_lt.1 h'); omega
    · intro h
      have := Int.mul_neg_of_pos_of_neg hg0 h; omega
  rw [hA]
  have hq : d.sign * n / (g : Int) = d.sign * c := by
    rw [hc, ← Int.mul_assoc, Int.mul_comm d.sign, Int.mul_assoc]
    exact Int.mul_ediv_cancel_left _ (by omega)
  rw [hq]
  rcases Int.lt_trichotomy d 0 with h | h | h
  · rw [Int.sign_eq_neg_one_of_neg h]
    have h1 : decide (d < 0) = true := decide_eq_true h
    rw [h1]
    by_cases hn : n < 0
    · have h2 := hnc.1 hn
      rw [decide_eq_true hn]
      simp only [bne_self_eq_false, Bool.false_eq_true, if_false]
      omega
    · have h2 : ¬ c < 0 := fun h => hn (hnc.2 h)
      rw [decide_eq_false hn]
      simp only [Bool.bne_true, Bool.not_false, if_true]
      omega
  · exact absurd h hd
  · rw [Int.sign_eq_one_of_pos h]
    have h1 : decide (d < 0) = false := decide_eq_false (by omega)
    rw [h1]
    by_cases hn : n < 0
    · have h2 := hnc.1 hn
      rw [decide_eq_true hn]
      simp only [Bool.bne_false, if_true]
      omega
    · have h2 : ¬ c < 0 := fun h => hn (hnc.2 h)
      rw [decide_eq_false hn]
      simp only [bne_self_eq_false, Bool.false_eq_true, if_false]
      omega
theorem new_at (n d : Int) (hn : I64 n) (hd : I64 d) (k : Nat) (hk : d.natAbs + 2 < k) : rat_New.f k n d = some (newQ n d) := by
  unfold rat_New.f newQ
  by_cases h0 : d = 0
  · rw [if_pos h0, if_pos h0]
  rw [if_neg h0, if_neg h0, size_tells hn, size_tells hd]
  simp only [Option.bind_some]
  unfold rat_common.f
  rw [common_tells d.natAbs n.natAbs k (by omega)]
  simp only [Option.bind_some]
  obtain ⟨e1, e2, e3⟩ := new_parts n d h0
  have hpos : 0 < Nat.gcd n.natAbs d.natAbs := Nat.gcd_pos_of_pos_right _ (by omega)
  generalize Nat.gcd n.natAbs d.natAbs = g at *
  have t1 : IntKind.u64.wrap (Int.tdiv (n.natAbs : Int) (g : Int)) = ((n.natAbs / g : Nat) : Int) := by
    rw [← Int.ofNat_tdiv]
    have := Nat.div_le_self n.natAbs g
    unfold I64 at hn
    exact wrapU (by omega) (by omega)
  have t2 : IntKind.u64.wrap (Int.tdiv (d.natAbs : Int) (g : Int)) = ((d.natAbs / g : Nat) : Int) := by
    rw [← Int.ofNat_tdiv]
    have := Nat.div_le_self d.natAbs g
    unfold I64 at hd
    exact wrapU (by omega) (by omega)
  rw [t1, t2, if_neg (by omega)]
  unfold Pure_ofQ
  rw [e1, e2]
  generalize n.natAbs / g = A at *
  generalize d.natAbs / g = B at *
  obtain ⟨k, rfl⟩ : ∃ m, k = m + 1 := ⟨k - 1, by omega⟩
  by_cases hA : (A : Int) > 2147483647
  · rw [if_pos hA, if_pos (Or.inl (by omega))]
    simp only [rat_New.j0, if_true]
  · rw [if_neg hA]
    by_cases hB : (B : Int) > 2147483647
    · rw [decide_eq_true hB, if_pos (Or.inr (by omega))]
      simp only [rat_New.j0, if_true]
    · rw [decide_eq_false hB, if_neg (by omega)]
      simp only [rat_New.j0, Bool.false_eq_true, if_false]
      have w1 : wrap64 (A : Int) = (A : Int) := wrap64_id (by unfold I64; omega)
      have w2 : wrap64 (B : Int) = (B : Int) := wrap64_id (by unfold I64; omega)
      have w3 : wrap64 (-(A : Int)) = -(A : Int) := wrap64_id (by unfold I64; omega)
      rw [w1, w2, w3]
      by_cases hs : ((decide (n < 0)) != (decide (d < 0))) = true
      · rw [if_pos hs] at e3 ⊢
        rw [e3]
      · rw [if_neg hs] at e3 ⊢
        rw [e3]
theorem new_tells {n d : Int} (hn : I64 n) (hd : I64 d) : Ev (fun k => rat_New.f k n d) (newQ n d) := ⟨d.natAbs + 3, fun k hk => new_at n d hn hd k (by omega)⟩
/-- A number that is right: in lowest terms, within the bounds. -/
structure Rt (n d : Int) : Prop where
  n1 : -2147483647 ≤ n
  n2 : n ≤ 2147483647
  d1 : 1 ≤ d
  d2 : d ≤ 2147483647
  num : (Rat.divInt n d).num = n
  den : ((Rat.divInt n d).den : Int) = d
def rightQ (n d : Int) : Bool := decide (d > 0) && decide (newQ n d = (n, d, 0))
theorem Rt.right {n d : Int} (h : Rt n d) : rightQ n d = true := by
  unfold rightQ newQ Pure_ofQ
  have h1 := h.n1
  have h2 := h.n2
  have h3 := h.d1
  have h4 := h.d2
  have h5 := h.num
  have h6 := h.den
  rw [if_neg (by omega), if_neg (by omega), h5, h6]
  simp only [decide_true, Bool.and_true, decide_eq_true_eq]
  omega
theorem Rt.of_right {n d : Int} (h : rightQ n d = true) : Rt n d := by
  unfold rightQ newQ Pure_ofQ at h
  rw [Bool.and_eq_true, decide_eq_true_eq, decide_eq_true_eq] at h
  obtain ⟨hd, h⟩ := h
  rw [if_neg (by omega)] at h
  by_cases hb : (Rat.divInt n d).num.natAbs > 2147483647 ∨ (Rat.divInt n d).den > 2147483647
  · rw [if_pos hb] at h
    simp only [Prod.mk.injEq] at h
    omega
  · rw [if_neg hb] at h
    simp only [Prod.mk.injEq, and_true] at h
    obtain ⟨h1, h2⟩ := h
    exact ⟨by omega, by omega, by omega, by omega, h1, h2⟩
theorem right_tells {n d : Int} (hn : I64 n) (hd : I64 d) : Ev (fun k => rat_Right.f k n d) (rightQ n d) := by
  refine Ev.bind (new_tells hn hd) ?_
  unfold rightQ
  by_cases h0 : d > 0
  · simp only [if_pos h0, decide_eq_true h0, Bool.true_and]
    obtain ⟨a, b, c⟩ := newQ n d
    simp only [Prod.mk.injEq]
    by_cases hc : c = 0
    · simp only [if_pos hc]
      refine ⟨0, fun _ _ => ?_⟩
      show some _ = some _
      congr 1
      rw [Bool.eq_iff_iff]
      simp [hc]
    · simp only [if_neg hc]
      refine ⟨0, fun _ _ => ?_⟩
      show some _ = some _
      congr 1
      simp [hc]
  · simp only [if_neg h0, decide_eq_false h0, Bool.false_and]
    exact Ev.now _
theorem Rt.i64n {n d : Int} (h : Rt n d) : I64 n := ⟨by have := h.n1; omega, by have := h.n2; omega⟩
theorem Rt.i64d {n d : Int} (h : Rt n d) : I64 d := ⟨by have := h.d1; omega, by have := h.d2; omega⟩
theorem Rt.ofQ {q : Rat} {n d : Int} (h : Pure_ofQ q = (n, d, 0)) : Rt n d ∧ Rat.divInt n d = q := by
  unfold Pure_ofQ at h
  by_cases hb : q.num.natAbs > 2147483647 ∨ q.den > 2147483647
  · rw [if_pos hb] at h; simp at h
  · rw [if_neg hb] at h
    simp only [Prod.mk.injEq, and_true] at h
    obtain ⟨rfl, rfl⟩ := h
    have e := Rat.num_divInt_den q
    have hd := q.den_pos
    exact ⟨⟨by omega, by omega, by omega, by omega, by rw [e], by rw [e]⟩, e⟩
theorem ofQ_rt {q : Rat} (h1 : q.num.natAbs ≤ 2147483647) (h2 : q.den ≤ 2147483647) : Pure_ofQ q = (q.num, (q.den : Int), 0) ∧ Rt q.num q.den := by
  have e : Pure_ofQ q = (q.num, (q.den : Int), 0) := by unfold Pure_ofQ; rw [if_neg (by omega)]
  exact ⟨e, (Rt.ofQ e).1⟩
theorem Rt.same {a b c d : Int} (h : Rt a b) (k : Rt c d) (e : Rat.divInt a b = Rat.divInt c d) : a = c ∧ b = d := by
  have h1 := h.num; have h2 := h.den; have k1 := k.num; have k2 := k.den
  rw [e] at h1 h2
  omega
theorem mulM {x y : Int} (hx : -2147483647 ≤ x ∧ x ≤ 2147483647) (hy : -2147483647 ≤ y ∧ y ≤ 2147483647) : -4611686014132420609 ≤ x * y ∧ x * y ≤ 4611686014132420609 := by
  have h := Nat.mul_le_mul (show x.natAbs ≤ 2147483647 by omega) (show y.natAbs ≤ 2147483647 by omega)
  rw [← Int.natAbs_mul] at h
  omega
/-! ### marigraphkeep.Rat: a right number, small -/
theorem within_ev {n lo hi : Int} (h1 : 0 ≤ lo + 1000) (h2 : lo ≤ hi) (h3 : hi < 1000000) (h4 : -1000 ≤ lo) (hn : I64 n) : ∃ r, Ev (fun k => marigraphbook_Within.f k n lo hi) r ∧ lo ≤ r ∧ r ≤ hi ∧ (lo ≤ n → n ≤ hi → r = n) := by
  unfold I64 at hn
  have e1 : wrap64 (wrap64 (hi - lo) + 1) = hi - lo + 1 := by unfold wrap64; omega
  have hj : ∀ b : Bool, (b = true ↔ (lo ≤ n ∧ n ≤ hi)) → ∃ r, (∀ k, marigraphbook_Within.j0 (k + 1) n lo hi b = some r) ∧ lo ≤ r ∧ r ≤ hi ∧ (lo ≤ n → n ≤ hi → r = n) := by
    intro b hb
    simp only [marigraphbook_Within.j0, e1]
    cases b with
    | true =>
      have := hb.1 rfl
      exact ⟨n, fun _ => by rw [if_pos rfl], this.1, this.2, fun _ _ => rfl⟩
    | false =>
      have hno : ¬ (lo ≤ n ∧ n ≤ hi) := fun h => by have := hb.2 h; cases this
      simp only [Bool.false_eq_true, if_false]
      rw [if_neg (by omega)]
      have hm : (0 : Int) < hi - lo + 1 := by omega
      have t1 : Int.tmod n (hi - lo + 1) < hi - lo + 1 := Int.tmod_lt_of_pos _ hm
      have t2 : -(hi - lo + 1) < Int.tmod n (hi - lo + 1) := by
        have := Int.tmod_lt_of_pos (-n) hm
        rw [Int.neg_tmod] at this
        omega
      generalize Int.tmod n (hi - lo + 1) = t at *
      by_cases ht : t < 0
      · rw [if_pos ht]
        have e : wrap64 (lo + wrap64 (wrap64 (wrap64 (t + hi) - lo) + 1)) = t + hi + 1 := by unfold wrap64; omega
        rw [e]
        exact ⟨_, fun _ => rfl, by omega, by omega, fun a b => absurd ⟨a, b⟩ hno⟩
      · rw [if_neg ht]
        have e : wrap64 (lo + t) = lo + t := by unfold wrap64; omega
        rw [e]
        exact ⟨_, fun _ => rfl, by omega, by omega, fun a b => absurd ⟨a, b⟩ hno⟩
  have fin : ∀ b : Bool, (∀ k, marigraphbook_Within.f k n lo hi = marigraphbook_Within.j0 k n lo hi b) → (b = true ↔ (lo ≤ n ∧ n ≤ hi)) → ∃ r, Ev (fun k => marigraphbook_Within.f k n lo hi) r ∧ lo ≤ r ∧ r ≤ hi ∧ (lo ≤ n → n ≤ hi → r = n) := by
    intro b hf hb
    obtain ⟨r, h, hr⟩ := hj b hb
    refine ⟨r, ⟨1, fun k hk => ?_⟩, hr⟩
    obtain ⟨k, rfl⟩ : ∃ m, k = m + 1 := ⟨k - 1, by omega⟩
    show marigraphbook_Within.f (k + 1) n lo hi = some r
    rw [hf]
    exact h k
  by_cases hlo : n ≥ lo
  · refine fin (decide (n ≤ hi)) (fun k => by unfold marigraphbook_Within.f; rw [if_pos hlo]) ?_
    rw [decide_eq_true_iff]
    exact ⟨fun h => ⟨hlo, h⟩, fun h => h.2⟩
  · refine fin false (fun k => by unfold marigraphbook_Within.f; rw [if_neg hlo]) ?_
    constructor
    · intro h; cases h
    · intro h; omega
def NoDiv (a b j : Int) : Prop := ∀ i : Int, 2 ≤ i → i < j → ¬ (i ∣ a ∧ i ∣ b)
theorem keep_loops (K : Nat) : (∀ (a b j : Int), 1 ≤ b → b ≤ 12 → -60 ≤ a → a ≤ 60 → 2 ≤ j → j ≤ 13 → 3 * b + 2 * (14 - j) + 1 ≤ K → NoDiv a b j → ∃ N D, marigraphkeep_Rat.l0 K a b j = some (N, D) ∧ 1 ≤ D ∧ D ≤ 12 ∧ -60 ≤ N ∧ N ≤ 60 ∧ NoDiv N D (D + 1)) ∧
    (∀ (a b j : Int), 1 ≤ b → b ≤ 12 → -60 ≤ a → a ≤ 60 → 2 ≤ j → j ≤ b → 3 * b + 2 * (14 - j) ≤ K → NoDiv a b j → ∃ N D, marigraphkeep_Rat.l1 K a b j = some (N, D) ∧ 1 ≤ D ∧ D ≤ 12 ∧ -60 ≤ N ∧ N ≤ 60 ∧ NoDiv N D (D + 1)) := by
  induction K with
  | zero => exact ⟨fun a b j h1 h2 h3 h4 h5 h6 hK => by omega, fun a b j h1 h2 h3 h4 h5 h6 hK => by omega⟩
  | succ K ih =>
    refine ⟨fun a b j h1 h2 h3 h4 h5 h6 hK hno => ?_, fun a b j h1 h2 h3 h4 h5 h6 hK hno => ?_⟩
    · simp only [marigraphkeep_Rat.l0]
      by_cases hj : j ≤ b
      · rw [if_pos hj]
        exact ih.2 a b j h1 h2 h3 h4 h5 hj (by omega) hno
      · rw [if_neg hj]
        exact ⟨a, b, rfl, h1, h2, h3, h4, fun i hi1 hi2 => hno i hi1 (by omega)⟩
    · simp only [marigraphkeep_Rat.l1]
      rw [if_neg (by omega)]
      have wj : wrap64 (j + 1) = j + 1 := wrap64_id ⟨by omega, by omega⟩
      have next : (¬ (j ∣ a ∧ j ∣ b)) → ∃ N D, marigraphkeep_Rat.l0 K a b (wrap64 (j + 1)) = some (N, D) ∧ 1 ≤ D ∧ D ≤ 12 ∧ -60 ≤ N ∧ N ≤ 60 ∧ NoDiv N D (D + 1) := by
        intro hnd
        rw [wj]
        refine ih.1 a b (j + 1) h1 h2 h3 h4 (by omega) (by omega) (by omega) (fun i hi1 hi2 hd => ?_)
        by_cases hij : i < j
        · exact hno i hi1 hij hd
        · obtain rfl : i = j := by omega
          exact hnd hd
      by_cases ha : Int.tmod a j = 0
      · rw [if_pos ha]
        have da : j ∣ a := Int.dvd_of_tmod_eq_zero ha
        by_cases hb : Int.tmod b j = 0
        · rw [if_pos hb]
          have db : j ∣ b := Int.dvd_of_tmod_eq_zero hb
          obtain ⟨x, rfl⟩ := da
          obtain ⟨y, rfl⟩ := db
          have ex : Int.tdiv (j * x) j = x := Int.mul_tdiv_cancel_left _ (by omega)
          have ey : Int.tdiv (j * y) j = y := Int.mul_tdiv_cancel_left _ (by omega)
          have y1 : 1 ≤ y := by
            by_cases hy : y ≤ 0
            · have := Int.mul_nonneg_of_nonpos_of_nonpos (show -j ≤ 0 by omega) hy
              rw [Int.neg_mul] at this
              omega
            · omega
          have y2 : 2 * y ≤ j * y := Int.mul_le_mul_of_nonneg_right h5 (by omega)
          have x1 : x.natAbs ≤ (j * x).natAbs := by
            rw [Int.natAbs_mul]
            exact Nat.le_mul_of_pos_left _ (by omega)
          rw [ex, ey, wrap64_id (show I64 x from ⟨by omega, by omega⟩), wrap64_id (show I64 y from ⟨by omega, by omega⟩)]
          have hno' : NoDiv x y j := fun i hi1 hi2 hd => hno i hi1 hi2 ⟨Int.dvd_trans hd.1 (Int.dvd_mul_left _ _), Int.dvd_trans hd.2 (Int.dvd_mul_left _ _)⟩
          by_cases hjy : j ≤ y
          · exact ih.2 x y j (by omega) (by omega) (by omega) (by omega) h5 hjy (by omega) hno'
          · obtain ⟨K', rfl⟩ : ∃ m, K = m + 1 := ⟨K - 1, by omega⟩
            simp only [marigraphkeep_Rat.l1]
            rw [if_neg (by omega)]
            have wj' : wrap64 (j + 1) = j + 1 := wj
            have stop : ∀ k' : Nat, 0 < k' → ∀ j' : Int, j ≤ j' → ∃ N D, marigraphkeep_Rat.l0 k' x y j' = some (N, D) ∧ 1 ≤ D ∧ D ≤ 12 ∧ -60 ≤ N ∧ N ≤ 60 ∧ NoDiv N D (D + 1) := by
              intro k' hk' j' hj'
              obtain ⟨k', rfl⟩ : ∃ m, k' = m + 1 := ⟨k' - 1, by omega⟩
              simp only [marigraphkeep_Rat.l0]
              rw [if_neg (by omega)]
              exact ⟨x, y, rfl, by omega, by omega, by omega, by omega, fun i hi1 hi2 => hno' i hi1 (by omega)⟩
            have hty : ¬ Int.tmod y j = 0 := by
              rw [Int.tmod_eq_of_lt (by omega) (by omega)]
              omega
            rw [wj', if_neg hty]
            by_cases hx : Int.tmod x j = 0
            · rw [if_pos hx]; exact stop K' (by omega) _ (by omega)
            · rw [if_neg hx]; exact stop K' (by omega) _ (by omega)
        · rw [if_neg hb]
          exact next (fun h => hb (Int.tmod_eq_zero_of_dvd h.2))
      · rw [if_neg ha]
        exact next (fun h => ha (Int.tmod_eq_zero_of_dvd h.1))
theorem rt_of_nodiv {N D : Int} (h1 : 1 ≤ D) (h2 : D ≤ 12) (h3 : -60 ≤ N) (h4 : N ≤ 60) (hno : NoDiv N D (D + 1)) : Rt N D := by
  have hg : Nat.gcd N.natAbs D.natAbs = 1 := by
    have hpos : 0 < Nat.gcd N.natAbs D.natAbs := Nat.gcd_pos_of_pos_right _ (by omega)
    have hle : Nat.gcd N.natAbs D.natAbs ≤ D.natAbs := Nat.le_of_dvd (by omega) (Nat.gcd_dvd_right _ _)
    by_cases h : Nat.gcd N.natAbs D.natAbs = 1
    · exact h
    · refine absurd ⟨?_, ?_⟩ (hno (Nat.gcd N.natAbs D.natAbs : Nat) (by omega) (by omega))
      · exact Int.natAbs_dvd_natAbs.1 (by rw [Int.natAbs_natCast]; exact Nat.gcd_dvd_left _ _)
      · exact Int.natAbs_dvd_natAbs.1 (by rw [Int.natAbs_natCast]; exact Nat.gcd_dvd_right _ _)
  obtain ⟨e1, _, e3⟩ := new_parts N D (by omega)
  rw [hg, Nat.div_one] at e1 e3
  rw [decide_eq_false (show ¬ D < 0 by omega)] at e3
  refine ⟨by omega, by omega, by omega, by omega, ?_, by omega⟩
  by_cases hn : N < 0
  · rw [decide_eq_true hn] at e3
    simp only [Bool.bne_false, if_true] at e3
    omega
  · rw [decide_eq_false hn] at e3
    simp only [bne_self_eq_false, Bool.false_eq_true, if_false] at e3
    omega
theorem keep_tells {x y : Int} (hx : I64 x) (hy : I64 y) : ∃ N D, Ev (fun k => marigraphkeep_Rat.f k x y) (N, D) ∧ Rt N D ∧ -60 ≤ N ∧ N ≤ 60 ∧ 1 ≤ D ∧ D ≤ 12 := by
  obtain ⟨a, ha, a1, a2, _⟩ := within_ev (lo := -60) (hi := 60) (by omega) (by omega) (by omega) (by omega) hx
  obtain ⟨b, hb, b1, b2, _⟩ := within_ev (lo := 1) (hi := 12) (by omega) (by omega) (by omega) (by omega) hy
  have hl : ∀ K : Nat, 100 ≤ K → ∃ N D, marigraphkeep_Rat.l0 K a b 2 = some (N, D) ∧ 1 ≤ D ∧ D ≤ 12 ∧ -60 ≤ N ∧ N ≤ 60 ∧ NoDiv N D (D + 1) :=
    fun K hK => (keep_loops K).1 a b 2 b1 b2 a1 a2 (by omega) (by omega) (by omega) (fun i h1 h2 => by omega)
  obtain ⟨N, D, h0, d1, d2, n1, n2, hno⟩ := hl 100 (by omega)
  refine ⟨N, D, ?_, rt_of_nodiv d1 d2 n1 n2 hno, n1, n2, d1, d2⟩
  refine Ev.bind ha (Ev.bind hb ?_)
  exact Ev.of (fun k => marigraphkeep_Rat.mono_l k |>.1 _ _ _) h0
/-! ### Cmp, Add, Sub, Mul, Div of right numbers -/
def VQ (n d : Int) : Rat := Rat.divInt n d
theorem exactQ {f : Nat → Option (Int × Int × Int)} {n d : Int} {q : Rat} (hn : I64 n) (hd : I64 d) (h0 : d ≠ 0) (hq : Rat.divInt n d = q) (hf : ∀ k, f (k + 1) = (rat_New.f k n d).bind fun t => some (t.1, t.2.1, t.2.2)) : Ev f (Pure_ofQ q) := by
  refine Ev.step hf ?_
  have h := new_tells hn hd
  have e : newQ n d = Pure_ofQ q := by unfold newQ; rw [if_neg h0, hq]
  rw [e] at h
  exact Ev.bind h (Ev.now _)
theorem Add_tells {n d m e : Int} (h : Rt n d) (k : Rt m e) : Ev (fun K => rat_Add.f K n d m e) (Pure_ofQ (VQ n d + VQ m e)) := by
  have r1 := right_tells h.i64n h.i64d
  have r2 := right_tells k.i64n k.i64d
  rw [h.right] at r1
  rw [k.right] at r2
  have h1 := h.n1; have h2 := h.n2; have h3 := h.d1; have h4 := h.d2
  have k1 := k.n1; have k2 := k.n2; have k3 := k.d1; have k4 := k.d2
  have hd0 : d ≠ 0 := by omega
  have he0 : e ≠ 0 := by omega
  have p1 := mulM (x := n) (y := e) ⟨by omega, by omega⟩ ⟨by omega, by omega⟩
  have p2 := mulM (x := m) (y := d) ⟨by omega, by omega⟩ ⟨by omega, by omega⟩
  have p3 := mulM (x := d) (y := e) ⟨by omega, by omega⟩ ⟨by omega, by omega⟩
  have p4 := mulM (x := n) (y := m) ⟨by omega, by omega⟩ ⟨by omega, by omega⟩
  have hde : d * e ≠ 0 := Int.mul_ne_zero hd0 he0
  refine Ev.bind (g := fun K => rat_exact_of_rat_Add_1_rat_both.f K n d m e) (a := Pure_ofQ (VQ n d + VQ m e)) (f := fun _ b => some (b.1, b.2.1, b.2.2)) (Ev.bind r1 ?_) (Ev.now _)
  simp only [if_true]
  refine Ev.bind r2 ?_
  refine exactQ (n := n * e + m * d) (d := d * e) ⟨by omega, by omega⟩ ⟨by omega, by omega⟩ hde ?_ (fun K => ?_)
  · exact (Rat.divInt_add_divInt _ _ hd0 he0).symm
  · simp only [rat_exact_of_rat_Add_1_rat_both.j0, rat_Add_1.f, rat_both.f, Bool.not_true, Bool.false_eq_true, if_false, Option.bind_some]
    rw [wrap64_id (x := d * e) ⟨by omega, by omega⟩]
    rw [wrap64_id (x := n * e) ⟨by omega, by omega⟩, wrap64_id (x := m * d) ⟨by omega, by omega⟩, wrap64_id (x := n * e + m * d) ⟨by omega, by omega⟩]
theorem Sub_tells {n d m e : Int} (h : Rt n d) (k : Rt m e) : Ev (fun K => rat_Sub.f K n d m e) (Pure_ofQ (VQ n d - VQ m e)) := by
  have r1 := right_tells h.i64n h.i64d
  have r2 := right_tells k.i64n k.i64d
  rw [h.right] at r1
  rw [k.right] at r2
  have h1 := h.n1; have h2 := h.n2; have h3 := h.d1; have h4 := h.d2
  have k1 := k.n1; have k2 := k.n2; have k3 := k.d1; have k4 := k.d2
  have hd0 : d ≠ 0 := by omega
  have he0 : e ≠ 0 := by omega
  have p1 := mulM (x := n) (y := e) ⟨by omega, by omega⟩ ⟨by omega, by omega⟩
  have p2 := mulM (x := m) (y := d) ⟨by omega, by omega⟩ ⟨by omega, by omega⟩
  have p3 := mulM (x := d) (y := e) ⟨by omega, by omega⟩ ⟨by omega, by omega⟩
  have p4 := mulM (x := n) (y := m) ⟨by omega, by omega⟩ ⟨by omega, by omega⟩
  have hde : d * e ≠ 0 := Int.mul_ne_zero hd0 he0
  refine Ev.bind (g := fun K => rat_exact_of_rat_Sub_1_rat_both.f K n d m e) (a := Pure_ofQ (VQ n d - VQ m e)) (f := fun _ b => some (b.1, b.2.1, b.2.2)) (Ev.bind r1 ?_) (Ev.now _)
  simp only [if_true]
  refine Ev.bind r2 ?_
  refine exactQ (n := n * e - m * d) (d := d * e) ⟨by omega, by omega⟩ ⟨by omega, by omega⟩ hde ?_ (fun K => ?_)
  · exact (Rat.divInt_sub_divInt _ _ hd0 he0).symm
  · simp only [rat_exact_of_rat_Sub_1_rat_both.j0, rat_Sub_1.f, rat_both.f, Bool.not_true, Bool.false_eq_true, if_false, Option.bind_some]
    rw [wrap64_id (x := d * e) ⟨by omega, by omega⟩]
    rw [wrap64_id (x := n * e) ⟨by omega, by omega⟩, wrap64_id (x := m * d) ⟨by omega, by omega⟩, wrap64_id (x := n * e - m * d) ⟨by omega, by omega⟩]
theorem Mul_tells {n d m e : Int} (h : Rt n d) (k : Rt m e) : Ev (fun K => rat_Mul.f K n d m e) (Pure_ofQ (VQ n d * VQ m e)) := by
  have r1 := right_tells h.i64n h.i64d
  have r2 := right_tells k.i64n k.i64d
  rw [h.right] at r1
  rw [k.right] at r2
  have h1 := h.n1; have h2 := h.n2; have h3 := h.d1; have h4 := h.d2
  have k1 := k.n1; have k2 := k.n2; have k3 := k.d1; have k4 := k.d2
  have hd0 : d ≠ 0 := by omega
  have he0 : e ≠ 0 := by omega
  have p1 := mulM (x := n) (y := e) ⟨by omega, by omega⟩ ⟨by omega, by omega⟩
  have p2 := mulM (x := m) (y := d) ⟨by omega, by omega⟩ ⟨by omega, by omega⟩
  have p3 := mulM (x := d) (y := e) ⟨by omega, by omega⟩ ⟨by omega, by omega⟩
  have p4 := mulM (x := n) (y := m) ⟨by omega, by omega⟩ ⟨by omega, by omega⟩
  have hde : d * e ≠ 0 := Int.mul_ne_zero hd0 he0
  refine Ev.bind (g := fun K => rat_exact_of_rat_Mul_1_rat_both.f K n d m e) (a := Pure_ofQ (VQ n d * VQ m e)) (f := fun _ b => some (b.1, b.2.1, b.2.2)) (Ev.bind r1 ?_) (Ev.now _)
  simp only [if_true]
  refine Ev.bind r2 ?_
  refine exactQ (n := n * m) (d := d * e) ⟨by omega, by omega⟩ ⟨by omega, by omega⟩ hde ?_ (fun K => ?_)
  · exact (Rat.divInt_mul_divInt n m).symm
  · simp only [rat_exact_of_rat_Mul_1_rat_both.j0, rat_Mul_1.f, rat_both.f, Bool.not_true, Bool.false_eq_true, if_false, Option.bind_some]
    rw [wrap64_id (x := d * e) ⟨by omega, by omega⟩]
    rw [wrap64_id (x := n * m) ⟨by omega, by omega⟩]
/-! ### how great sums and products are -/
def Bnd (q : Rat) (A B : Nat) : Prop := q.num.natAbs ≤ A ∧ q.den ≤ B
/-- What a rational within the bounds is told as. -/
theorem told {q : Rat} {A B : Nat} (h : Bnd q A B) (hA : A ≤ 2147483647) (hB : B ≤ 2147483647) : Pure_ofQ q = (q.num, (q.den : Int), 0) ∧ Rt q.num q.den := ofQ_rt (Nat.le_trans h.1 hA) (Nat.le_trans h.2 hB)
/-- The i-th sample. -/
def at_ (l : List S26) (j : Nat) : S26 := l.getD j z26
theorem rd_at (l : List S26) (j : Nat) : rd_T26 l (j : Int) = at_ l j := rfl
/-- Samples that are right: times in the row, numbers right, each later than the one ahead. -/
def GoodL (l : List S26) : Prop := ∀ j : Nat, j < l.length → 0 ≤ (at_ l j).f0 ∧ (at_ l j).f0 ≤ 4294967295 ∧ Rt (at_ l j).f1.f0 (at_ l j).f1.f1 ∧ (0 < j → (at_ l (j - 1)).f0 < (at_ l j).f0)
theorem wrap_succ {j n : Nat} (h : j < n) (hn : n < 4611686014132420609) : wrap64 ((j : Int) + 1) = ((j + 1 : Nat) : Int) := by
  unfold wrap64; omega
theorem wrap_pred {j n : Nat} (h : j < n) (hn : n < 4611686014132420609) (h0 : 0 < j) : wrap64 ((j : Int) - 1) = ((j - 1 : Nat) : Int) := by
  unfold wrap64; omega
/-! ### the document's rationals: New, Right, Op, Cmp tell the same -/
theorem rparts {n : Int} (h : I64 n) : marigraphref1_parts.f n = some (decide (n < 0), (n.natAbs : Int)) := by
  unfold I64 at h
  unfold marigraphref1_parts.f
  by_cases hn : n < 0
  · rw [if_pos hn, decide_eq_true hn, wrapU_eq, wrapU_eq]
    congr 2
    omega
  · rw [if_neg hn, decide_eq_false hn, wrapU_eq]
    congr 2
    omega
def finQ (s t : Bool) (A B : Nat) : Int × Int × Int := if A > 2147483647 ∨ B > 2147483647 then (0, 0, 23) else if (s != t) = true then (-(A : Int), (B : Int), 0) else ((A : Int), (B : Int), 0)
theorem rnew_j1 (s t : Bool) (A B k : Nat) (hA : ¬ A > 2147483647) : marigraphref1_New.j1 (k + 1) s (A : Int) t (B : Int) (decide ((B : Int) > 2147483647)) = some (finQ s t A B) := by
  unfold finQ
  by_cases hB : (B : Int) > 2147483647
  · rw [decide_eq_true hB, if_pos (Or.inr (by omega))]
    simp only [marigraphref1_New.j1, if_true]
  · rw [decide_eq_false hB, if_neg (by omega)]
    simp only [marigraphref1_New.j1, Bool.false_eq_true, if_false]
    have w1 : wrap64 (A : Int) = (A : Int) := wrap64_id (by unfold I64; omega)
    have w2 : wrap64 (B : Int) = (B : Int) := wrap64_id (by unfold I64; omega)
    have w3 : wrap64 (-(A : Int)) = -(A : Int) := wrap64_id (by unfold I64; omega)
    rw [w1, w2, w3]
    by_cases hs : (s != t) = true
    · rw [if_pos hs, if_pos hs]
    · rw [if_neg hs, if_neg hs]
theorem rnew_loop (X Y : Nat) (s t : Bool) (hX : X < 18446744073709551616) (hY : Y < 18446744073709551616) (b : Nat) : ∀ (a k : Nat), 0 < Nat.gcd a b → b + 1 < k →
    marigraphref1_New.l0 k s (X : Int) t (Y : Int) (a : Int) (b : Int) = some (finQ s t (X / Nat.gcd a b) (Y / Nat.gcd a b)) := by
  induction b using Nat.strongRecOn with
  | _ b ih =>
    intro a k hg hk
    obtain ⟨k, rfl⟩ : ∃ m, k = m + 1 := ⟨k - 1, by omega⟩
    simp only [marigraphref1_New.l0]
    by_cases hb : b = 0
    · subst hb
      rw [Nat.gcd_zero_right] at hg ⊢
      rw [if_pos (by omega), if_neg (by omega)]
      have t1 : IntKind.u64.wrap (Int.tdiv (X : Int) (a : Int)) = ((X / a : Nat) : Int) := by
        rw [← Int.ofNat_tdiv]
        have h9 := Nat.div_le_self X a
        generalize X / a = Z at h9
        exact wrapU (by omega) (by omega)
      have t2 : IntKind.u64.wrap (Int.tdiv (Y : Int) (a : Int)) = ((Y / a : Nat) : Int) := by
        rw [← Int.ofNat_tdiv]
        have h9 := Nat.div_le_self Y a
        generalize Y / a = Z at h9
        exact wrapU (by omega) (by omega)
      rw [t1, t2]
      generalize X / a = A
      generalize Y / a = B
      obtain ⟨k, rfl⟩ : ∃ m, k = m + 1 := ⟨k - 1, by omega⟩
      by_cases hA : A > 2147483647
      · rw [if_pos (by omega)]
        unfold finQ
        rw [if_pos (Or.inl hA)]
        simp only [marigraphref1_New.j1, if_true]
      · rw [if_neg (by omega)]
        exact rnew_j1 s t A B k hA
    · rw [if_neg (by omega)]
      have e : Int.tmod (a : Int) (b : Int) = ((a % b : Nat) : Int) := by rw [Int.ofNat_tmod]
      have hl : a % b < b := Nat.mod_lt _ (by omega)
      have hgg : Nat.gcd b (a % b) = Nat.gcd a b := by rw [Nat.gcd_comm a b, Nat.gcd_rec b a, Nat.gcd_comm]
      rw [e, ih (a % b) hl b k (by rw [hgg]; exact hg) (by omega), hgg]
theorem fin_newQ {n d : Int} (h0 : d ≠ 0) : finQ (decide (n < 0)) (decide (d < 0)) (n.natAbs / Nat.gcd n.natAbs d.natAbs) (d.natAbs / Nat.gcd n.natAbs d.natAbs) = newQ n d := by
  obtain ⟨e1, e2, e3⟩ := new_parts n d h0
  unfold finQ newQ Pure_ofQ
  rw [if_neg h0, e1, e2]
  generalize n.natAbs / Nat.gcd n.natAbs d.natAbs = A at *
  generalize d.natAbs / Nat.gcd n.natAbs d.natAbs = B at *
  by_cases hc : A > 2147483647 ∨ B > 2147483647
  · rw [if_pos hc, if_pos hc]
  · rw [if_neg hc, if_neg hc]
    by_cases hs : ((decide (n < 0)) != (decide (d < 0))) = true
    · rw [if_pos hs] at e3 ⊢
      rw [e3]
    · rw [if_neg hs] at e3 ⊢
      rw [e3]
theorem rnew_tells {n d : Int} (hn : I64 n) (hd : I64 d) : Ev (fun k => marigraphref1_New.f k n d) (newQ n d) := by
  refine ⟨d.natAbs + 3, fun k hk => ?_⟩
  show marigraphref1_New.f k n d = _
  unfold marigraphref1_New.f
  by_cases h0 : d = 0
  · rw [if_pos h0]; unfold newQ; rw [if_pos h0]
  rw [if_neg h0, rparts hn, rparts hd]
  simp only [Option.bind_some]
  have hpos : 0 < Nat.gcd n.natAbs d.natAbs := Nat.gcd_pos_of_pos_right _ (by omega)
  have := hn; have := hd
  unfold I64 at *
  rw [rnew_loop n.natAbs d.natAbs _ _ (by omega) (by omega) d.natAbs n.natAbs k hpos (by omega), fin_newQ h0]
theorem rgcd_tells (b : Nat) : ∀ (a k : Nat), b < k → marigraphref1_gcd.l0 k (a : Int) (b : Int) = some ((Nat.gcd a b : Nat) : Int) := by
  induction b using Nat.strongRecOn with
  | _ b ih =>
    intro a k hk
    obtain ⟨k, rfl⟩ : ∃ m, k = m + 1 := ⟨k - 1, by omega⟩
    simp only [marigraphref1_gcd.l0]
    by_cases hb : b = 0
    · subst hb
      rw [if_pos (by omega), Nat.gcd_zero_right]
    · rw [if_neg (by omega)]
      have e : Int.tmod (a : Int) (b : Int) = ((a % b : Nat) : Int) := by rw [Int.ofNat_tmod]
      have hl : a % b < b := Nat.mod_lt _ (by omega)
      rw [e, ih (a % b) hl b k (by omega), Nat.gcd_comm a b, Nat.gcd_rec b a, Nat.gcd_comm]
theorem rightQ_gcd {n d : Int} (h1 : 1 ≤ d) (h2 : d ≤ 2147483647) (h3 : -2147483647 ≤ n) (h4 : n ≤ 2147483647) : rightQ n d = (((Nat.gcd n.natAbs d.natAbs : Nat) : Int) == 1) := by
  have h0 : d ≠ 0 := by omega
  obtain ⟨e1, e2, e3⟩ := new_parts n d h0
  have hpos : 0 < Nat.gcd n.natAbs d.natAbs := Nat.gcd_pos_of_pos_right _ (by omega)
  have hdv : Nat.gcd n.natAbs d.natAbs ∣ d.natAbs := Nat.gcd_dvd_right _ _
  rw [Bool.eq_iff_iff, beq_iff_eq]
  constructor
  · intro h
    have hr := Rt.of_right h
    have hden := hr.den
    rw [e1] at hden
    generalize Nat.gcd n.natAbs d.natAbs = g at *
    obtain ⟨c, hc⟩ := hdv
    rw [hc, Nat.mul_div_cancel_left _ hpos] at hden
    have hcd : c = d.natAbs := by omega
    rw [hcd] at hc
    have : g = 1 := Nat.eq_of_mul_eq_mul_right (show 0 < d.natAbs by omega) (by rw [Nat.one_mul]; exact hc.symm)
    omega
  · intro h
    have hg : Nat.gcd n.natAbs d.natAbs = 1 := by omega
    rw [hg, Nat.div_one] at e1 e3
    refine Rt.right ⟨h3, h4, h1, h2, ?_, by omega⟩
    by_cases hn : n < 0
    · rw [decide_eq_true hn, decide_eq_false (show ¬ d < 0 by omega)] at e3
      simp only [Bool.bne_false, if_true] at e3
      omega
    · rw [decide_eq_false hn, decide_eq_false (show ¬ d < 0 by omega)] at e3
      simp only [bne_self_eq_false, Bool.false_eq_true, if_false] at e3
      omega
theorem rright_tells {n d : Int} (hn : I64 n) (hd : I64 d) : Ev (fun k => marigraphref1_Right.f k n d) (rightQ n d) := by
  have jt : ∀ x y, Ev (fun k => marigraphref1_Right.j0 k true x y) false := fun x y => ⟨1, fun k hk => by
    obtain ⟨k, rfl⟩ : ∃ m, k = m + 1 := ⟨k - 1, by omega⟩
    simp only [marigraphref1_Right.j0, if_true]⟩
  have no : (¬ (1 ≤ d ∧ d ≤ 2147483647 ∧ -2147483647 ≤ n ∧ n ≤ 2147483647)) → rightQ n d = false := by
    intro h
    cases hr : rightQ n d with
    | false => rfl
    | true =>
      have := Rt.of_right hr
      exact absurd ⟨this.d1, this.d2, this.n1, this.n2⟩ h
  have un : ∀ k, marigraphref1_Right.f k n d = if d < 1 then (marigraphref1_Right.j0 k true n d) else (if d > 2147483647 then (marigraphref1_Right.j0 k true n d) else (if n < (-2147483647) then (marigraphref1_Right.j0 k true n d) else (marigraphref1_Right.j0 k (decide (n > 2147483647)) n d))) := fun k => rfl
  refine evEq un ?_
  by_cases h1 : d < 1
  · simp only [if_pos h1]
    rw [no (by omega)]
    exact jt _ _
  simp only [if_neg h1]
  by_cases h2 : d > 2147483647
  · simp only [if_pos h2]
    rw [no (by omega)]
    exact jt _ _
  simp only [if_neg h2]
  by_cases h3 : n < -2147483647
  · simp only [if_pos h3]
    rw [no (by omega)]
    exact jt _ _
  simp only [if_neg h3]
  by_cases h4 : n > 2147483647
  · rw [decide_eq_true h4, no (by omega)]
    exact jt _ _
  rw [decide_eq_false h4, rightQ_gcd (by omega) (by omega) (by omega) (by omega)]
  refine ⟨d.natAbs + 2, fun k hk => ?_⟩
  obtain ⟨k, rfl⟩ : ∃ m, k = m + 1 := ⟨k - 1, by omega⟩
  simp only [marigraphref1_Right.j0, Bool.false_eq_true, if_false]
  have ha : marigraphref1_abs.f n = some (n.natAbs : Int) := by
    unfold marigraphref1_abs.f
    by_cases hn0 : n < 0
    · rw [if_pos hn0, wrap64_id ⟨by omega, by omega⟩]
      congr 1
      omega
    · rw [if_neg hn0]
      congr 1
      omega
  rw [ha]
  simp only [Option.bind_some]
  unfold marigraphref1_gcd.f
  have := rgcd_tells d.natAbs n.natAbs k (by omega)
  rw [show ((d.natAbs : Nat) : Int) = d by omega] at this
  rw [this]
  simp only [Option.bind_some]
/-- What an operation tells of right numbers. -/
theorem rnew_end {f : Nat → Option (Int × Int × Int)} {n d : Int} {q : Int × Int × Int} (hn : I64 n) (hd : I64 d) (hq : newQ n d = q) (hf : ∀ k, f (k + 1) = (marigraphref1_New.f k n d).bind fun t => some (t.1, t.2.1, t.2.2)) : Ev f q := by
  refine Ev.step hf ?_
  have h := rnew_tells hn hd
  rw [hq] at h
  exact Ev.bind h (Ev.now _)
theorem rop_start {c n d m e : Int} {q : Int × Int × Int} (h : Rt n d) (k : Rt m e) (hj : Ev (fun K => marigraphref1_Op.j0 K c (if c = 47 then (m == 0) else false) n d m e) q) : Ev (fun K => marigraphref1_Op.f K c n d m e) q := by
  have r1 := rright_tells h.i64n h.i64d
  have r2 := rright_tells k.i64n k.i64d
  rw [h.right] at r1
  rw [k.right] at r2
  refine Ev.bind r1 ?_
  simp only [if_true]
  refine Ev.bind r2 ?_
  simp only [if_true]
  by_cases hc : c = 47
  · simp only [if_pos hc] at hj ⊢
    exact hj
  · simp only [if_neg hc] at hj ⊢
    exact hj
theorem rAdd_tells {n d m e : Int} (h : Rt n d) (k : Rt m e) : Ev (fun K => marigraphref1_Op.f K 43 n d m e) (Pure_ofQ (VQ n d + VQ m e)) := by
  have h1 := h.n1; have h2 := h.n2; have h3 := h.d1; have h4 := h.d2
  have k1 := k.n1; have k2 := k.n2; have k3 := k.d1; have k4 := k.d2
  have hd0 : d ≠ 0 := by omega
  have he0 : e ≠ 0 := by omega
  have p1 := mulM (x := n) (y := e) ⟨by omega, by omega⟩ ⟨by omega, by omega⟩
  have p2 := mulM (x := m) (y := d) ⟨by omega, by omega⟩ ⟨by omega, by omega⟩
  have p3 := mulM (x := d) (y := e) ⟨by omega, by omega⟩ ⟨by omega, by omega⟩
  have hde : d * e ≠ 0 := Int.mul_ne_zero hd0 he0
  refine rop_start h k (rnew_end (n := n * e + m * d) (d := d * e) ⟨by omega, by omega⟩ ⟨by omega, by omega⟩ ?_ fun K => ?_)
  · unfold newQ
    rw [if_neg hde]
    exact congrArg Pure_ofQ (Rat.divInt_add_divInt _ _ hd0 he0).symm
  · simp only [marigraphref1_Op.j0, if_neg (show ¬ (43 : Int) = 47 by decide), Bool.false_eq_true, if_false, if_true]
    rw [wrap64_id (x := d * e) ⟨by omega, by omega⟩]
    rw [wrap64_id (x := n * e) ⟨by omega, by omega⟩, wrap64_id (x := m * d) ⟨by omega, by omega⟩, wrap64_id (x := n * e + m * d) ⟨by omega, by omega⟩]
theorem rSub_tells {n d m e : Int} (h : Rt n d) (k : Rt m e) : Ev (fun K => marigraphref1_Op.f K 45 n d m e) (Pure_ofQ (VQ n d - VQ m e)) := by
  have h1 := h.n1; have h2 := h.n2; have h3 := h.d1; have h4 := h.d2
  have k1 := k.n1; have k2 := k.n2; have k3 := k.d1; have k4 := k.d2
  have hd0 : d ≠ 0 := by omega
  have he0 : e ≠ 0 := by omega
  have p1 := mulM (x := n) (y := e) ⟨by omega, by omega⟩ ⟨by omega, by omega⟩
  have p2 := mulM (x := m) (y := d) ⟨by omega, by omega⟩ ⟨by omega, by omega⟩
  have p3 := mulM (x := d) (y := e) ⟨by omega, by omega⟩ ⟨by omega, by omega⟩
  have hde : d * e ≠ 0 := Int.mul_ne_zero hd0 he0
  refine rop_start h k (rnew_end (n := n * e - m * d) (d := d * e) ⟨by omega, by omega⟩ ⟨by omega, by omega⟩ ?_ fun K => ?_)
  · unfold newQ
    rw [if_neg hde]
    exact congrArg Pure_ofQ (Rat.divInt_sub_divInt _ _ hd0 he0).symm
  · simp only [marigraphref1_Op.j0, if_neg (show ¬ (45 : Int) = 47 by decide), if_neg (show ¬ (45 : Int) = 43 by decide), Bool.false_eq_true, if_false, if_true]
    rw [wrap64_id (x := d * e) ⟨by omega, by omega⟩]
    rw [wrap64_id (x := n * e) ⟨by omega, by omega⟩, wrap64_id (x := m * d) ⟨by omega, by omega⟩, wrap64_id (x := n * e - m * d) ⟨by omega, by omega⟩]
theorem rMul_tells {n d m e : Int} (h : Rt n d) (k : Rt m e) : Ev (fun K => marigraphref1_Op.f K 42 n d m e) (Pure_ofQ (VQ n d * VQ m e)) := by
  have h1 := h.n1; have h2 := h.n2; have h3 := h.d1; have h4 := h.d2
  have k1 := k.n1; have k2 := k.n2; have k3 := k.d1; have k4 := k.d2
  have hd0 : d ≠ 0 := by omega
  have he0 : e ≠ 0 := by omega
  have p1 := mulM (x := n) (y := m) ⟨by omega, by omega⟩ ⟨by omega, by omega⟩
  have p3 := mulM (x := d) (y := e) ⟨by omega, by omega⟩ ⟨by omega, by omega⟩
  have hde : d * e ≠ 0 := Int.mul_ne_zero hd0 he0
  refine rop_start h k (rnew_end (n := n * m) (d := d * e) ⟨by omega, by omega⟩ ⟨by omega, by omega⟩ ?_ fun K => ?_)
  · unfold newQ
    rw [if_neg hde]
    exact congrArg Pure_ofQ (Rat.divInt_mul_divInt _ _).symm
  · simp only [marigraphref1_Op.j0, if_neg (show ¬ (42 : Int) = 47 by decide), if_neg (show ¬ (42 : Int) = 43 by decide), if_neg (show ¬ (42 : Int) = 45 by decide), Bool.false_eq_true, if_false, if_true]
    rw [wrap64_id (x := d * e) ⟨by omega, by omega⟩, wrap64_id (x := n * m) ⟨by omega, by omega⟩]
/-! ### any samples: Right, told by both -/
theorem evDown {α : Type} {g : Nat → Option α} {r : α} (h : Ev (fun k => g (k + 1)) r) : Ev g r := let ⟨K, hK⟩ := h; ⟨K + 1, fun k hk => by
  obtain ⟨m, rfl⟩ : ∃ m, k = m + 1 := ⟨k - 1, by omega⟩
  exact hK m (by omega)⟩
/-- rd_at, not by definition (a rewriting by definition leaves an if's instance as it was). -/
theorem rd_atN (l : List S26) (j : Nat) : rd_T26 l (j : Int) = at_ l j := by cases l <;> rfl
def NumL (l : List S26) : Prop := ∀ j : Nat, j < l.length → I64 (at_ l j).f0 ∧ I64 (at_ l j).f1.f0 ∧ I64 (at_ l j).f1.f1
def goodFrom (l : List S26) : Nat → Nat → Bool
  | 0, _ => true
  | n + 1, j => if (at_ l j).f0 < 0 then false else if (at_ l j).f0 > 4294967295 then false else if rightQ (at_ l j).f1.f0 (at_ l j).f1.f1 = true then (if 0 < j then (if (at_ l (j - 1)).f0 ≥ (at_ l j).f0 then false else goodFrom l n (j + 1)) else goodFrom l n (j + 1)) else false
theorem down_right_all (l : List S26) (hI : NumL l) (hn : l.length < 4611686014132420609) : ∀ n j : Nat, l.length - j = n → Ev (fun k => down_Right.l0 k l l (l.length : Int) (j : Int)) (goodFrom l n j) := by
  intro n
  induction n with
  | zero =>
    intro j hj
    refine evDown ?_
    simp only [down_Right.l0, if_neg (show ¬ (j : Int) < (l.length : Int) by omega)]
    exact Ev.now _
  | succ n ih =>
    intro j hj
    have hlt : j < l.length := by omega
    obtain ⟨i0, i1, i2⟩ := hI j hlt
    refine evDown ?_
    simp only [down_Right.l0, if_pos (show (j : Int) < (l.length : Int) by omega), if_pos (show 0 ≤ (j : Int) by omega), rd_atN]
    unfold goodFrom
    by_cases h0 : (at_ l j).f0 < 0
    · simp only [if_pos h0]; exact Ev.now _
    simp only [if_neg h0]
    by_cases h1 : (at_ l j).f0 > 4294967295
    · simp only [if_pos h1]; exact Ev.now _
    simp only [if_neg h1]
    refine Ev.bind (right_tells i1 i2) ?_
    by_cases h2 : rightQ (at_ l j).f1.f0 (at_ l j).f1.f1 = true
    · simp only [if_pos h2, wrap_succ hlt hn]
      by_cases h3 : 0 < j
      · simp only [wrap_pred hlt hn h3, rd_atN, if_pos h3, if_pos (show (j : Int) > 0 by omega), if_pos (show 0 ≤ ((j - 1 : Nat) : Int) by omega), if_pos (show ((j - 1 : Nat) : Int) < (l.length : Int) by omega)]
        by_cases h4 : (at_ l (j - 1)).f0 ≥ (at_ l j).f0
        · simp only [if_pos h4]; exact Ev.now _
        · simp only [if_neg h4]; exact ih (j + 1) (by omega)
      · simp only [if_neg h3, if_neg (show ¬ (j : Int) > 0 by omega)]
        exact ih (j + 1) (by omega)
    · simp only [if_neg h2]; exact Ev.now _
theorem ref_right_all (l : List S26) (hI : NumL l) (hn : l.length < 4611686014132420609) : ∀ n j : Nat, l.length - j = n → Ev (fun k => marigraphref21_Right.l0 k l (j : Int)) (goodFrom l n j) := by
  intro n
  induction n with
  | zero =>
    intro j hj
    refine evDown ?_
    simp only [marigraphref21_Right.l0, if_neg (show ¬ (j : Int) < (l.length : Int) by omega)]
    exact Ev.now _
  | succ n ih =>
    intro j hj
    have hlt : j < l.length := by omega
    obtain ⟨i0, i1, i2⟩ := hI j hlt
    refine evDown ?_
    simp only [marigraphref21_Right.l0, if_pos (show (j : Int) < (l.length : Int) by omega), if_pos (show 0 ≤ (j : Int) by omega), rd_atN]
    unfold goodFrom
    by_cases h0 : (at_ l j).f0 < 0
    · simp only [if_pos h0]; exact Ev.now _
    simp only [if_neg h0]
    by_cases h1 : (at_ l j).f0 > 4294967295
    · simp only [if_pos h1]; exact Ev.now _
    simp only [if_neg h1]
    refine Ev.bind (rright_tells i1 i2) ?_
    by_cases h2 : rightQ (at_ l j).f1.f0 (at_ l j).f1.f1 = true
    · simp only [if_pos h2, wrap_succ hlt hn]
      by_cases h3 : 0 < j
      · simp only [wrap_pred hlt hn h3, rd_atN, if_pos h3, if_pos (show (j : Int) > 0 by omega), if_pos (show 0 ≤ ((j - 1 : Nat) : Int) by omega), if_pos (show ((j - 1 : Nat) : Int) < (l.length : Int) by omega)]
        by_cases h4 : (at_ l (j - 1)).f0 ≥ (at_ l j).f0
        · simp only [if_pos h4]; exact Ev.now _
        · simp only [if_neg h4]; exact ih (j + 1) (by omega)
      · simp only [if_neg h3, if_neg (show ¬ (j : Int) > 0 by omega)]
        exact ih (j + 1) (by omega)
    · simp only [if_neg h2]; exact Ev.now _
theorem good_of (l : List S26) : ∀ n j : Nat, l.length - j = n → goodFrom l n j = true → ∀ i, j ≤ i → i < l.length → 0 ≤ (at_ l i).f0 ∧ (at_ l i).f0 ≤ 4294967295 ∧ Rt (at_ l i).f1.f0 (at_ l i).f1.f1 ∧ (0 < i → (at_ l (i - 1)).f0 < (at_ l i).f0) := by
  intro n
  induction n with
  | zero => intro j hj _ i h1 h2; omega
  | succ n ih =>
    intro j hj hg i h1 h2
    unfold goodFrom at hg
    by_cases h0 : (at_ l j).f0 < 0
    · rw [if_pos h0] at hg; cases hg
    rw [if_neg h0] at hg
    by_cases h3 : (at_ l j).f0 > 4294967295
    · rw [if_pos h3] at hg; cases hg
    rw [if_neg h3] at hg
    by_cases h4 : rightQ (at_ l j).f1.f0 (at_ l j).f1.f1 = true
    · rw [if_pos h4] at hg
      by_cases h5 : 0 < j
      · rw [if_pos h5] at hg
        by_cases h6 : (at_ l (j - 1)).f0 ≥ (at_ l j).f0
        · rw [if_pos h6] at hg; cases hg
        rw [if_neg h6] at hg
        by_cases hij : i = j
        · subst hij
          exact ⟨by omega, by omega, Rt.of_right h4, fun _ => by omega⟩
        · exact ih (j + 1) (by omega) hg i (by omega) h2
      · rw [if_neg h5] at hg
        by_cases hij : i = j
        · subst hij
          exact ⟨by omega, by omega, Rt.of_right h4, fun h => absurd h h5⟩
        · exact ih (j + 1) (by omega) hg i (by omega) h2
    · rw [if_neg h4] at hg; cases hg
theorem good_all {l : List S26} (h : goodFrom l l.length 0 = true) : GoodL l := fun j hj => good_of l l.length 0 rfl h j (Nat.zero_le _) hj
/-! ### lerp beside the document's -/
theorem ofQ_eta {q : Rat} (h : (Pure_ofQ q).2.2 = 0) : Rt (Pure_ofQ q).1 (Pure_ofQ q).2.1 := (Rt.ofQ (q := q) (n := (Pure_ofQ q).1) (d := (Pure_ofQ q).2.1) (by rw [← h])).1
theorem newQ_rt {n d : Int} (h : (newQ n d).2.2 = 0) : Rt (newQ n d).1 (newQ n d).2.1 := by
  unfold newQ at h ⊢
  by_cases h0 : d = 0
  · rw [if_pos h0] at h; cases h
  · rw [if_neg h0] at h ⊢
    exact ofQ_eta h
theorem wrap_i64 (x : Int) : I64 (wrap64 x) := by unfold I64 wrap64; omega
theorem between_core {a0 a1 a2 b0 b1 b2 : Int} (ha : Rt a1 a2) (hb : Rt b1 b2) (t : Int) : ∃ r, Ev (fun k => lerp_Between.j0 k t false a0 a1 a2 b0 b1 b2) r ∧ Ev (fun k => marigraphref21_Between.j0 k t false a0 a1 a2 b0 b1 b2) r := by
  by_cases h1 : t = a0
  · refine ⟨(a1, a2, 0), evDown ?_, evDown ?_⟩
    · simp only [lerp_Between.j0, Bool.false_eq_true, if_false, if_pos h1]; exact Ev.now _
    · simp only [marigraphref21_Between.j0, Bool.false_eq_true, if_false, if_pos h1]; exact Ev.now _
  by_cases h2 : t = b0
  · refine ⟨(b1, b2, 0), evDown ?_, evDown ?_⟩
    · simp only [lerp_Between.j0, Bool.false_eq_true, if_false, if_neg h1, if_pos h2]; exact Ev.now _
    · simp only [marigraphref21_Between.j0, Bool.false_eq_true, if_false, if_neg h1, if_pos h2]; exact Ev.now _
  have d1 := Sub_tells hb ha
  have d2 := rSub_tells hb ha
  have s1 := new_tells (wrap_i64 (t - a0)) (wrap_i64 (b0 - a0))
  have s2 := rnew_tells (wrap_i64 (t - a0)) (wrap_i64 (b0 - a0))
  have e1 : ∀ r, Ev (fun k => (rat_Sub.f k b1 b2 a1 a2).bind fun bt190 => (if bt190.2.2 = 0 then ((rat_New.f k (wrap64 (t - a0)) (wrap64 (b0 - a0))).bind fun bt194 => (if bt194.2.2 = 0 then ((rat_Mul.f k bt190.1 bt190.2.1 bt194.1 bt194.2.1).bind fun bt198 => (if bt198.2.2 = 0 then ((rat_Add.f k bt198.1 bt198.2.1 a1 a2).bind fun bt202 => (some (bt202.1, bt202.2.1, bt202.2.2))) else (some (0, 0, bt198.2.2)))) else (some (0, 0, bt194.2.2)))) else (some (0, 0, bt190.2.2)))) r → Ev (fun k => lerp_Between.j0 k t false a0 a1 a2 b0 b1 b2) r := by
    intro r h
    refine evDown ?_
    simp only [lerp_Between.j0, Bool.false_eq_true, if_false, if_neg h1, if_neg h2]
    exact h
  have e2 : ∀ r, Ev (fun k => (marigraphref1_Op.f k 45 b1 b2 a1 a2).bind fun bt235 => (if bt235.2.2 = 0 then ((marigraphref1_New.f k (wrap64 (t - a0)) (wrap64 (b0 - a0))).bind fun bt239 => (if bt239.2.2 = 0 then ((marigraphref1_Op.f k 42 bt235.1 bt235.2.1 bt239.1 bt239.2.1).bind fun bt243 => (if bt243.2.2 = 0 then ((marigraphref1_Op.f k 43 bt243.1 bt243.2.1 a1 a2).bind fun bt246 => (some (bt246.1, bt246.2.1, bt246.2.2))) else (some (0, 0, bt243.2.2)))) else (some (0, 0, bt239.2.2)))) else (some (0, 0, bt235.2.2)))) r → Ev (fun k => marigraphref21_Between.j0 k t false a0 a1 a2 b0 b1 b2) r := by
    intro r h
    refine evDown ?_
    simp only [marigraphref21_Between.j0, Bool.false_eq_true, if_false, if_neg h1, if_neg h2]
    exact h
  by_cases c1 : (Pure_ofQ (VQ b1 b2 - VQ a1 a2)).2.2 = 0
  · by_cases c2 : (newQ (wrap64 (t - a0)) (wrap64 (b0 - a0))).2.2 = 0
    · have m1 := Mul_tells (ofQ_eta c1) (newQ_rt c2)
      have m2 := rMul_tells (ofQ_eta c1) (newQ_rt c2)
      generalize VQ (Pure_ofQ (VQ b1 b2 - VQ a1 a2)).1 (Pure_ofQ (VQ b1 b2 - VQ a1 a2)).2.1 * VQ (newQ (wrap64 (t - a0)) (wrap64 (b0 - a0))).1 (newQ (wrap64 (t - a0)) (wrap64 (b0 - a0))).2.1 = z at m1 m2
      by_cases c3 : (Pure_ofQ z).2.2 = 0
      · refine ⟨Pure_ofQ (VQ (Pure_ofQ z).1 (Pure_ofQ z).2.1 + VQ a1 a2), e1 _ (Ev.bind d1 ?_), e2 _ (Ev.bind d2 ?_)⟩
        · simp only [if_pos c1]
          refine Ev.bind s1 ?_
          simp only [if_pos c2]
          refine Ev.bind m1 ?_
          simp only [if_pos c3]
          exact Ev.bind (Add_tells (ofQ_eta c3) ha) (Ev.now _)
        · simp only [if_pos c1]
          refine Ev.bind s2 ?_
          simp only [if_pos c2]
          refine Ev.bind m2 ?_
          simp only [if_pos c3]
          exact Ev.bind (rAdd_tells (ofQ_eta c3) ha) (Ev.now _)
      · refine ⟨(0, 0, (Pure_ofQ z).2.2), e1 _ (Ev.bind d1 ?_), e2 _ (Ev.bind d2 ?_)⟩
        · simp only [if_pos c1]
          refine Ev.bind s1 ?_
          simp only [if_pos c2]
          refine Ev.bind m1 ?_
          simp only [if_neg c3]
          exact Ev.now _
        · simp only [if_pos c1]
          refine Ev.bind s2 ?_
          simp only [if_pos c2]
          refine Ev.bind m2 ?_
          simp only [if_neg c3]
          exact Ev.now _
    · refine ⟨(0, 0, (newQ (wrap64 (t - a0)) (wrap64 (b0 - a0))).2.2), e1 _ (Ev.bind d1 ?_), e2 _ (Ev.bind d2 ?_)⟩
      · simp only [if_pos c1]
        refine Ev.bind s1 ?_
        simp only [if_neg c2]
        exact Ev.now _
      · simp only [if_pos c1]
        refine Ev.bind s2 ?_
        simp only [if_neg c2]
        exact Ev.now _
  · refine ⟨(0, 0, (Pure_ofQ (VQ b1 b2 - VQ a1 a2)).2.2), e1 _ (Ev.bind d1 ?_), e2 _ (Ev.bind d2 ?_)⟩
    · simp only [if_neg c1]; exact Ev.now _
    · simp only [if_neg c1]; exact Ev.now _
theorem between_any {a0 a1 a2 b0 b1 b2 : Int} (i1 : I64 a1) (i2 : I64 a2) (j1 : I64 b1) (j2 : I64 b2) (t : Int) : ∃ r, Ev (fun k => lerp_Between.f k a0 a1 a2 b0 b1 b2 t) r ∧ Ev (fun k => marigraphref21_Between.f k a0 a1 a2 b0 b1 b2 t) r := by
  have bad : Ev (fun k => lerp_Between.j0 k t true a0 a1 a2 b0 b1 b2) (0, 0, 1) ∧ Ev (fun k => marigraphref21_Between.j0 k t true a0 a1 a2 b0 b1 b2) (0, 0, 1) := by
    constructor
    · refine evDown ?_
      simp only [lerp_Between.j0, if_true]
      exact Ev.now _
    · refine evDown ?_
      simp only [marigraphref21_Between.j0, if_true]
      exact Ev.now _
  unfold lerp_Between.f marigraphref21_Between.f
  by_cases h1 : a0 ≥ b0
  · simp only [if_pos h1]; exact ⟨_, bad.1, bad.2⟩
  simp only [if_neg h1]
  by_cases h2 : t < a0
  · simp only [if_pos h2]; exact ⟨_, bad.1, bad.2⟩
  simp only [if_neg h2]
  by_cases h3 : t > b0
  · simp only [if_pos h3]; exact ⟨_, bad.1, bad.2⟩
  simp only [if_neg h3]
  have ra := right_tells i1 i2
  have rra := rright_tells i1 i2
  have rb := right_tells j1 j2
  have rrb := rright_tells j1 j2
  by_cases ha : rightQ a1 a2 = true
  · by_cases hb : rightQ b1 b2 = true
    · obtain ⟨r, e1, e2⟩ := between_core (a0 := a0) (b0 := b0) (Rt.of_right ha) (Rt.of_right hb) t
      rw [ha] at ra rra
      rw [hb] at rb rrb
      refine ⟨r, Ev.bind ra ?_, Ev.bind rra ?_⟩
      · simp only [if_true]
        exact Ev.bind rb e1
      · simp only [if_true]
        exact Ev.bind rrb e2
    · have hb' : rightQ b1 b2 = false := by simpa using hb
      rw [ha] at ra rra
      rw [hb'] at rb rrb
      refine ⟨(0, 0, 1), Ev.bind ra ?_, Ev.bind rra ?_⟩
      · simp only [if_true]
        exact Ev.bind rb bad.1
      · simp only [if_true]
        exact Ev.bind rrb bad.2
  · have ha' : rightQ a1 a2 = false := by simpa using ha
    rw [ha'] at ra rra
    refine ⟨(0, 0, 1), Ev.bind ra ?_, Ev.bind rra ?_⟩
    · simp only [Bool.false_eq_true, if_false]
      exact bad.1
    · simp only [Bool.false_eq_true, if_false]
      exact bad.2
theorem between_same {a0 a1 a2 b0 b1 b2 : Int} (i1 : I64 a1) (i2 : I64 a2) (j1 : I64 b1) (j2 : I64 b2) (t : Int) : Ev (fun k => marigraphlaw22_between.f k a0 a1 a2 b0 b1 b2 t) true := by
  obtain ⟨r, e1, e2⟩ := between_any (a0 := a0) (b0 := b0) i1 i2 j1 j2 t
  refine Ev.bind e1 (Ev.bind e2 ?_)
  simp only [beq_self_eq_true, Bool.and_self, if_true]
  exact Ev.now _
theorem good_mono {l : List S26} (h : GoodL l) : ∀ d i : Nat, i + d < l.length → (at_ l i).f0 + (d : Int) ≤ (at_ l (i + d)).f0 := by
  intro d
  induction d with
  | zero => intro i hi; exact Int.le_of_eq (by simp)
  | succ d ih =>
    intro i hi
    have h1 := ih i (by omega)
    have h2 := (h (i + (d + 1)) hi).2.2.2 (by omega)
    rw [show i + (d + 1) - 1 = i + d by omega] at h2
    omega
theorem place_any {l : List S26} (h : GoodL l) (hn : l.length < 4611686014132420609) (t : Int) : ∃ i : Nat, i ≤ l.length ∧ (∀ j, j < i → (at_ l j).f0 < t) ∧ (∀ j, i ≤ j → j < l.length → t ≤ (at_ l j).f0) ∧ Ev (fun k => lerp_place.f k l t) (i : Int) := by
  have loop : ∀ n lo hi : Nat, hi - lo = n → lo ≤ hi → hi ≤ l.length → (∀ j, j < lo → (at_ l j).f0 < t) → (∀ j, hi ≤ j → j < l.length → t ≤ (at_ l j).f0) →
      ∃ i : Nat, i ≤ l.length ∧ (∀ j, j < i → (at_ l j).f0 < t) ∧ (∀ j, i ≤ j → j < l.length → t ≤ (at_ l j).f0) ∧ Ev (fun k => lerp_place.l0 k l t (lo : Int) (hi : Int)) (i : Int) := by
    intro n
    induction n using Nat.strongRecOn with
    | _ n ih =>
      intro lo hi hd hle hlen h1 h2
      by_cases hlt : lo < hi
      · have hm1 : lo ≤ (lo + hi) / 2 := by omega
        have hm2 : (lo + hi) / 2 < hi := by omega
        have em : wrap64 (Int.tdiv (wrap64 ((lo : Int) + (hi : Int))) 2) = (((lo + hi) / 2 : Nat) : Int) := by
          rw [wrap64_id (x := (lo : Int) + (hi : Int)) ⟨by omega, by omega⟩]
          rw [show ((lo : Int) + (hi : Int)) = ((lo + hi : Nat) : Int) by omega, show (2 : Int) = ((2 : Nat) : Int) from rfl, ← Int.ofNat_tdiv]
          exact wrap64_id ⟨by omega, by omega⟩
        generalize (lo + hi) / 2 = mid at em hm1 hm2
        have es : wrap64 ((mid : Int) + 1) = ((mid + 1 : Nat) : Int) := wrap_succ (n := l.length) (by omega) hn
        by_cases hc : (at_ l mid).f0 < t
        · obtain ⟨i, g1, g2, g3, g4⟩ := ih (hi - (mid + 1)) (by omega) (mid + 1) hi rfl (by omega) hlen (fun j hj => by
            by_cases e : j = mid
            · rw [e]; exact hc
            · have := good_mono h (mid - j) j (by omega)
              rw [show j + (mid - j) = mid by omega] at this
              omega) h2
          refine ⟨i, g1, g2, g3, evDown ?_⟩
          simp only [lerp_place.l0, if_pos (show (lo : Int) < (hi : Int) by omega), em, if_pos (show 0 ≤ (mid : Int) by omega), if_pos (show (mid : Int) < (l.length : Int) by omega), rd_atN, if_pos hc, es]
          exact g4
        · obtain ⟨i, g1, g2, g3, g4⟩ := ih (mid - lo) (by omega) lo mid rfl (by omega) (by omega) h1 (fun j hj hj2 => by
            have := good_mono h (j - mid) mid (by omega)
            rw [show mid + (j - mid) = j by omega] at this
            omega)
          refine ⟨i, g1, g2, g3, evDown ?_⟩
          simp only [lerp_place.l0, if_pos (show (lo : Int) < (hi : Int) by omega), em, if_pos (show 0 ≤ (mid : Int) by omega), if_pos (show (mid : Int) < (l.length : Int) by omega), rd_atN, if_neg hc]
          exact g4
      · refine ⟨lo, by omega, h1, fun j hj => h2 j (by omega), evDown ?_⟩
        simp only [lerp_place.l0, if_neg (show ¬ (lo : Int) < (hi : Int) by omega)]
        exact Ev.now _
  obtain ⟨i, g1, g2, g3, g4⟩ := loop _ 0 l.length rfl (Nat.zero_le _) (Nat.le_refl _) (fun j hj => absurd hj (Nat.not_lt_zero _)) (fun j hj hj2 => by omega)
  exact ⟨i, g1, g2, g3, g4⟩
theorem at_same {l : List S26} (hI : NumL l) (hn : l.length < 4611686014132420609) (t : Int) : Ev (fun k => marigraphlaw22_at.f k l t) true := by
  have hd := down_right_all l hI hn l.length 0 rfl
  have hr := ref_right_all l hI hn l.length 0 rfl
  have key : ∃ r, Ev (fun k => lerp_At.f k l t) r ∧ Ev (fun k => marigraphref21_At.f k l t) r := by
    by_cases hg : goodFrom l l.length 0 = true
    · have gl := good_all hg
      rw [hg] at hd hr
      obtain ⟨i, g1, g2, g3, g4⟩ := place_any gl hn t
      -- the document's loop, from j on
      have skip : ∀ n j : Nat, i - j = n → j ≤ i → ∀ r, Ev (fun k => marigraphref21_At.l0 k l t (i : Int)) r → Ev (fun k => marigraphref21_At.l0 k l t (j : Int)) r := by
        intro n
        induction n with
        | zero => intro j hj hle r hr'; rw [show j = i by omega]; exact hr'
        | succ n ih =>
          intro j hj hle r hr'
          have hlt : j < l.length := by omega
          have hjt := g2 j (by omega)
          refine evDown ?_
          simp only [marigraphref21_At.l0, if_pos (show (j : Int) < (l.length : Int) by omega), if_pos (show 0 ≤ (j : Int) by omega), rd_atN, if_neg (show ¬ (at_ l j).f0 = t by omega), wrap_succ hlt hn]
          by_cases h0 : 0 < j
          · have := g2 (j - 1) (by omega)
            simp only [wrap_pred hlt hn h0, rd_atN, if_pos (show (j : Int) > 0 by omega), if_pos (show 0 ≤ ((j - 1 : Nat) : Int) by omega), if_pos (show ((j - 1 : Nat) : Int) < (l.length : Int) by omega), if_pos this, if_neg (show ¬ t < (at_ l j).f0 by omega)]
            exact ih (j + 1) (by omega) (by omega) r hr'
          · simp only [if_neg (show ¬ (j : Int) > 0 by omega)]
            exact ih (j + 1) (by omega) (by omega) r hr'
      have rest : ∀ n j : Nat, l.length - j = n → 0 < j → (∀ m, j - 1 ≤ m → m < l.length → t < (at_ l m).f0) → Ev (fun k => marigraphref21_At.l0 k l t (j : Int)) (0, 0, false, 0) := by
        intro n
        induction n with
        | zero =>
          intro j hj h0 _
          refine evDown ?_
          simp only [marigraphref21_At.l0, if_neg (show ¬ (j : Int) < (l.length : Int) by omega)]
          exact Ev.now _
        | succ n ih =>
          intro j hj h0 hall
          have hlt : j < l.length := by omega
          have a1 := hall j (by omega) hlt
          have a2 := hall (j - 1) (by omega) (by omega)
          refine evDown ?_
          simp only [marigraphref21_At.l0, if_pos (show (j : Int) < (l.length : Int) by omega), if_pos (show 0 ≤ (j : Int) by omega), rd_atN, if_neg (show ¬ (at_ l j).f0 = t by omega), wrap_succ hlt hn, wrap_pred hlt hn h0, if_pos (show (j : Int) > 0 by omega), if_pos (show 0 ≤ ((j - 1 : Nat) : Int) by omega), if_pos (show ((j - 1 : Nat) : Int) < (l.length : Int) by omega), if_neg (show ¬ (at_ l (j - 1)).f0 < t by omega)]
          exact ih (j + 1) (by omega) (by omega) (fun m hm hm2 => hall m (by omega) hm2)
      have fin : ∀ r, Ev (fun k => marigraphref21_At.l0 k l t (i : Int)) r → Ev (fun k => marigraphref21_At.f k l t) r := by
        intro r hr'
        refine Ev.bind hr ?_
        simp only [if_true]
        exact skip i 0 rfl (Nat.zero_le _) r hr'
      have goes : ∀ r, Ev (fun k => if (i : Int) < (l.length : Int) then (if 0 ≤ (i : Int) then (lerp_At.j0 k l t (i : Int) (((rd_T26 l (i : Int)).f0) == t)) else (none)) else (lerp_At.j0 k l t (i : Int) false)) r → Ev (fun k => lerp_At.f k l t) r := by
        intro r hr'
        refine Ev.bind hd ?_
        simp only [if_true]
        exact Ev.bind g4 hr'
      by_cases hi : i < l.length
      · have hti := g3 i (Nat.le_refl _) hi
        by_cases he : (at_ l i).f0 = t
        · refine ⟨((at_ l i).f1.f0, (at_ l i).f1.f1, true, 0), goes _ ?_, fin _ ?_⟩
          · simp only [if_pos (show (i : Int) < (l.length : Int) by omega), if_pos (show 0 ≤ (i : Int) by omega), rd_atN, he, beq_self_eq_true]
            refine evDown ?_
            simp only [lerp_At.j0, if_true, if_pos (show (i : Int) < (l.length : Int) by omega), if_pos (show 0 ≤ (i : Int) by omega), rd_atN]
            exact Ev.now _
          · refine evDown ?_
            simp only [marigraphref21_At.l0, if_pos (show (i : Int) < (l.length : Int) by omega), if_pos (show 0 ≤ (i : Int) by omega), rd_atN, if_pos he]
            exact Ev.now _
        · have heb : ((at_ l i).f0 == t) = false := by simpa using he
          by_cases h0 : 0 < i
          · obtain ⟨n0, n1, n2⟩ := hI i hi
            obtain ⟨m0, m1, m2⟩ := hI (i - 1) (by omega)
            obtain ⟨r, e1, e2⟩ := between_any (a0 := (at_ l (i - 1)).f0) (b0 := (at_ l i).f0) m1 m2 n1 n2 t
            have hp := g2 (i - 1) (by omega)
            refine ⟨(r.1, r.2.1, (r.2.2 == 0), r.2.2), goes _ ?_, fin _ ?_⟩
            · simp only [if_pos (show (i : Int) < (l.length : Int) by omega), if_pos (show 0 ≤ (i : Int) by omega), rd_atN, heb]
              refine evDown ?_
              simp only [lerp_At.j0, Bool.false_eq_true, if_false, if_neg (show ¬ (i : Int) = 0 by omega), if_neg (show ¬ (i : Int) = (l.length : Int) by omega), wrap_pred hi hn h0, if_pos (show 0 ≤ ((i - 1 : Nat) : Int) by omega), if_pos (show ((i - 1 : Nat) : Int) < (l.length : Int) by omega), if_pos (show (i : Int) < (l.length : Int) by omega), if_pos (show 0 ≤ (i : Int) by omega), rd_atN]
              exact Ev.bind e1 (Ev.now _)
            · refine evDown ?_
              simp only [marigraphref21_At.l0, if_pos (show (i : Int) < (l.length : Int) by omega), if_pos (show 0 ≤ (i : Int) by omega), rd_atN, if_neg he, wrap_pred hi hn h0, if_pos (show (i : Int) > 0 by omega), if_pos (show 0 ≤ ((i - 1 : Nat) : Int) by omega), if_pos (show ((i - 1 : Nat) : Int) < (l.length : Int) by omega), if_pos hp, if_pos (show t < (at_ l i).f0 by omega)]
              exact Ev.bind e2 (Ev.now _)
          · have hi0 : i = 0 := by omega
            subst hi0
            refine ⟨(0, 0, false, 0), goes _ ?_, fin _ ?_⟩
            · simp only [if_pos (show ((0 : Nat) : Int) < (l.length : Int) by omega), if_pos (show 0 ≤ ((0 : Nat) : Int) by omega), rd_atN, heb]
              refine evDown ?_
              simp only [lerp_At.j0, Bool.false_eq_true, if_false, if_pos (show ((0 : Nat) : Int) = 0 by omega)]
              exact Ev.now _
            · refine evDown ?_
              simp only [marigraphref21_At.l0, if_pos (show ((0 : Nat) : Int) < (l.length : Int) by omega), if_pos (show 0 ≤ ((0 : Nat) : Int) by omega), rd_atN, if_neg he, if_neg (show ¬ ((0 : Nat) : Int) > 0 by omega), wrap_succ hi hn]
              refine rest _ 1 rfl (by decide) (fun m hm hm2 => ?_)
              have := good_mono gl m 0 (by omega)
              rw [Nat.zero_add] at this
              omega
      · have hil : i = l.length := by omega
        refine ⟨(0, 0, false, 0), goes _ ?_, fin _ ?_⟩
        · simp only [if_neg (show ¬ (i : Int) < (l.length : Int) by omega)]
          refine evDown ?_
          by_cases hz : i = 0
          · simp only [lerp_At.j0, Bool.false_eq_true, if_false, if_pos (show (i : Int) = 0 by omega)]
            exact Ev.now _
          · simp only [lerp_At.j0, Bool.false_eq_true, if_false, if_neg (show ¬ (i : Int) = 0 by omega), if_pos (show (i : Int) = (l.length : Int) by omega)]
            exact Ev.now _
        · refine evDown ?_
          simp only [marigraphref21_At.l0, if_neg (show ¬ (i : Int) < (l.length : Int) by omega)]
          exact Ev.now _
    · have hg' : goodFrom l l.length 0 = false := by simpa using hg
      rw [hg'] at hd hr
      refine ⟨(0, 0, false, 1), Ev.bind hd ?_, Ev.bind hr ?_⟩
      · simp only [Bool.false_eq_true, if_false]; exact Ev.now _
      · simp only [Bool.false_eq_true, if_false]; exact Ev.now _
  obtain ⟨r, e1, e2⟩ := key
  refine Ev.bind e1 (Ev.bind e2 ?_)
  simp only [beq_self_eq_true, Bool.and_self, if_true]
  exact Ev.now _
structure Ok (x : S26) : Prop where
  rt : Rt x.f1.f0 x.f1.f1
  lo : -60 ≤ x.f1.f0
  hi : x.f1.f0 ≤ 60
  dd : x.f1.f1 ≤ 12
structure Smp (l : List S26) : Prop where
  len : l.length ≤ 20
  ok : ∀ j : Nat, j < l.length → Ok (at_ l j)
  t0 : ∀ j : Nat, j < l.length → 0 ≤ (at_ l j).f0 ∧ (at_ l j).f0 ≤ 40 * j
  up : ∀ j : Nat, j < l.length → 0 < j → (at_ l (j - 1)).f0 < (at_ l j).f0
theorem at_left {l : List S26} {x : S26} {j : Nat} (h : j < l.length) : at_ (l ++ [x]) j = at_ l j := by
  unfold at_; rw [List.getD_eq_getElem?_getD, List.getD_eq_getElem?_getD, List.getElem?_append_left h]
theorem at_last {l : List S26} {x : S26} : at_ (l ++ [x]) l.length = x := by
  unfold at_; rw [List.getD_eq_getElem?_getD, List.getElem?_append_right (Nat.le_refl _), Nat.sub_self]; rfl
theorem Smp.snoc {l : List S26} (h : Smp l) (hl : l.length < 20) {t : Int} {n d : Int} (hok : Ok ⟨t, ⟨n, d⟩⟩) (t0 : 0 ≤ t) (t1 : t ≤ 40 * l.length) (t2 : ∀ j : Nat, j < l.length → (at_ l j).f0 < t) : Smp (l ++ [⟨t, ⟨n, d⟩⟩]) := by
  have hlen : (l ++ [(⟨t, ⟨n, d⟩⟩ : S26)]).length = l.length + 1 := by rw [List.length_append]; rfl
  refine ⟨by omega, fun j hj => ?_, fun j hj => ?_, fun j hj h0 => ?_⟩
  · by_cases hlt : j < l.length
    · rw [at_left hlt]; exact h.ok j hlt
    · obtain rfl : j = l.length := by omega
      rw [at_last]; exact hok
  · by_cases hlt : j < l.length
    · rw [at_left hlt]; exact h.t0 j hlt
    · obtain rfl : j = l.length := by omega
      rw [at_last]; exact ⟨t0, t1⟩
  · by_cases hlt : j < l.length
    · rw [at_left hlt, at_left (by omega)]; exact h.up j hlt h0
    · obtain rfl : j = l.length := by omega
      rw [at_last, at_left (by omega)]; exact t2 _ (by omega)
theorem rdI_mem {l : List Int} {j : Nat} (h : j < l.length) : rd l (j : Int) ∈ l := by
  unfold rd
  rw [Int.toNat_natCast, List.getD_eq_getElem?_getD, List.getElem?_eq_getElem h]
  exact List.getElem_mem h
theorem samples_loop {xs ys : List Int} (hx : ∀ x ∈ xs, I64 x) (hy : ∀ y ∈ ys, I64 y) : ∀ (n i : Nat) (l : List S26) (t : Int), 20 - i = n → l.length = i → i ≤ 20 → Smp l → 0 ≤ t → t ≤ 40 * i → (∀ j : Nat, j < l.length → (at_ l j).f0 < t) →
    ∃ m, Smp m ∧ Ev (fun K => marigraphkeep_Samples.l0 K xs ys 20 l t (i : Int)) m := by
  intro n
  induction n with
  | zero =>
    intro i l t hn hl hi h t0 t1 t2
    have hj : Ev (fun K => marigraphkeep_Samples.j1 K xs ys 20 l t (i : Int) false) l := by
      refine Ev.step (f := fun _ => some l) (fun K => ?_) (Ev.now _)
      simp only [marigraphkeep_Samples.j1]
      rw [if_neg (by decide)]
    refine ⟨l, h, Ev.step (fun K => ?_) hj⟩
    simp only [marigraphkeep_Samples.l0]
    by_cases c : (i : Int) < (xs.length : Int)
    · rw [if_pos c, decide_eq_false (by omega)]
    · rw [if_neg c]
  | succ n ih =>
    intro i l t hn hl hi h t0 t1 t2
    by_cases c : i < xs.length
    · obtain ⟨r, hr, r1, r2, _⟩ := within_ev (lo := 1) (hi := 40) (by omega) (by omega) (by omega) (by omega) (hx _ (rdI_mem c))
      have e1 : wrap64 (t + r) = t + r := wrap64_id ⟨by omega, by omega⟩
      have e2 : wrap64 ((i : Int) + 1) = ((i + 1 : Nat) : Int) := wrap_succ (n := 20) (by omega) (by omega)
      have hnext : ∀ N D : Int, Rt N D → -60 ≤ N → N ≤ 60 → D ≤ 12 → ∃ m, Smp m ∧ Ev (fun K => marigraphkeep_Samples.l0 K xs ys 20 (l ++ [(⟨t, (⟨N, D⟩ : S24)⟩ : S26)]) (t + r) ((i + 1 : Nat) : Int)) m := by
        intro N D h1 h2 h3 h4
        have hlen : (l ++ [(⟨t, (⟨N, D⟩ : S24)⟩ : S26)]).length = l.length + 1 := by rw [List.length_append]; rfl
        refine ih (i + 1) _ (t + r) (by omega) (by omega) (by omega) (h.snoc (by omega) ⟨h1, h2, h3, h4⟩ t0 (by omega) t2) (by omega) (by omega) (fun j hj => ?_)
        by_cases hlt : j < l.length
        · rw [at_left hlt]; have := t2 j hlt; omega
        · obtain rfl : j = l.length := by omega
          rw [at_last]; show t < t + r; omega
      have hstep : ∀ m, Ev (fun K => marigraphkeep_Samples.j1 K xs ys 20 l t (i : Int) true) m → Ev (fun K => marigraphkeep_Samples.l0 K xs ys 20 l t (i : Int)) m := by
        intro m hm
        refine Ev.step (fun K => ?_) hm
        simp only [marigraphkeep_Samples.l0]
        rw [if_pos (by omega), decide_eq_true (by omega)]
      have hz : l.length < 5864062014805 := by omega
      by_cases cy : i < ys.length
      · have hw : I64 (wrap64 (1 + (Int.tmod (wrap64 ((Int.tmod (rd ys (i : Int)) 5) * (rd ys (i : Int)))) 5))) := by unfold I64 wrap64; omega
        obtain ⟨N, D, hk, k1, k2, k3, k4, k5⟩ := keep_tells (hy _ (rdI_mem cy)) hw
        obtain ⟨m, hm, he⟩ := hnext N D k1 k2 k3 k5
        refine ⟨m, hm, hstep m ?_⟩
        refine Ev.step (f := fun K => (marigraphkeep_Rat.f K (rd ys (i : Int)) (wrap64 (1 + (Int.tmod (wrap64 ((Int.tmod (rd ys (i : Int)) 5) * (rd ys (i : Int)))) 5)))).bind fun bt105 => ((marigraphbook_Within.f K (rd xs (i : Int)) 1 40).bind fun t111 => (marigraphkeep_Samples.l0 K xs ys 20 (l ++ [(⟨t, (⟨bt105.1, bt105.2⟩ : S24)⟩ : S26)]) (wrap64 (t + t111)) ((i + 1 : Nat) : Int)))) (fun K => ?_) ?_
        · simp only [marigraphkeep_Samples.j1]
          rw [if_pos trivial, if_pos (by omega), if_pos (by omega)]
          simp only [if_pos hz, if_pos (show (i : Int) < (xs.length : Int) by omega), e2]
        · refine Ev.bind hk (Ev.bind hr ?_)
          simp only [e1]
          exact he
      · obtain ⟨N, D, hk, k1, k2, k3, k4, k5⟩ := keep_tells (x := 0) (y := 1 + ((((0 : Int) % 5) * 0) % 5)) ⟨by decide, by decide⟩ ⟨by decide, by decide⟩
        obtain ⟨m, hm, he⟩ := hnext N D k1 k2 k3 k5
        refine ⟨m, hm, hstep m ?_⟩
        refine Ev.step (f := fun K => (marigraphkeep_Rat.f K 0 (1 + ((((0 : Int) % 5) * 0) % 5))).bind fun bt105 => ((marigraphbook_Within.f K (rd xs (i : Int)) 1 40).bind fun t111 => (marigraphkeep_Samples.l0 K xs ys 20 (l ++ [(⟨t, (⟨bt105.1, bt105.2⟩ : S24)⟩ : S26)]) (wrap64 (t + t111)) ((i + 1 : Nat) : Int)))) (fun K => ?_) ?_
        · simp only [marigraphkeep_Samples.j1]
          rw [if_pos trivial, if_neg (by omega)]
          simp only [if_pos hz, if_pos (show 0 ≤ (i : Int) by omega), if_pos (show (i : Int) < (xs.length : Int) by omega), e2]
        · refine Ev.bind hk (Ev.bind hr ?_)
          simp only [e1]
          exact he
    · have hj : Ev (fun K => marigraphkeep_Samples.j1 K xs ys 20 l t (i : Int) false) l := by
        refine Ev.step (f := fun _ => some l) (fun K => ?_) (Ev.now _)
        simp only [marigraphkeep_Samples.j1]
        rw [if_neg (by decide)]
      refine ⟨l, h, Ev.step (fun K => ?_) hj⟩
      simp only [marigraphkeep_Samples.l0]
      rw [if_neg (by omega)]
theorem samples_tells {xs ys : List Int} (hx : ∀ x ∈ xs, I64 x) (hy : ∀ y ∈ ys, I64 y) : ∃ m, Smp m ∧ Ev (fun K => marigraphkeep_Samples.f K xs ys 20) m :=
  samples_loop hx hy 20 0 [] 0 rfl rfl (by decide) ⟨by decide, fun j hj => absurd hj (Nat.not_lt_zero _), fun j hj => absurd hj (Nat.not_lt_zero _), fun j hj => absurd hj (Nat.not_lt_zero _)⟩ (Int.le_refl _) (by decide) (fun j hj => absurd hj (Nat.not_lt_zero _))
theorem known22 : Ev (fun k => marigraphlaw22_known.f k) true := Ev.of (k := 60) marigraphlaw22_known.mono (by decide +kernel)
theorem Smp.num {l : List S26} (h : Smp l) : NumL l := fun j hj => ⟨⟨by have := (h.t0 j hj).1; omega, by have := (h.t0 j hj).2; have := h.len; omega⟩, (h.ok j hj).rt.i64n, (h.ok j hj).rt.i64d⟩
theorem LerpTells : PLerpTells.LerpTells.Pure := by
  intro l0 l1 t a0 a1 a2 b0 b1 b2 l6 h0 h1 ht ha0 ha1 ha2 hb0 hb1 hb2 h6 hw
  obtain ⟨s, hs, es⟩ := samples_tells (fun x hx => i64_of (h0 x hx)) (fun x hx => i64_of (h1 x hx))
  obtain ⟨n, en, _⟩ := within_ev (n := t) (lo := 0) (hi := 500) (by decide) (by decide) (by decide) (by decide) (i64_of ht)
  have hl := hs.len
  have n6 : NumL l6 := by
    intro j hj
    have hx : at_ l6 j ∈ l6 := by
      unfold at_
      rw [List.getD_eq_getElem?_getD, List.getElem?_eq_getElem hj]
      exact List.getElem_mem hj
    obtain ⟨w0, w1, w2⟩ := hw _ hx
    exact ⟨i64_of w0, i64_of w1, i64_of w2⟩
  have hx : ∃ K, ∀ k, K ≤ k → (1 < s.length → ∃ q, wrap64 ((rd_T26 s 1).f0 + 1) = q ∧ 0 < q ∧ marigraphlaw22_between.f k (rd_T26 s 0).f0 (rd_T26 s 0).f1.f0 (rd_T26 s 0).f1.f1 (rd_T26 s 1).f0 (rd_T26 s 1).f1.f0 (rd_T26 s 1).f1.f1 (Int.tmod n q) = some true) := by
    by_cases h2 : 1 < s.length
    · obtain ⟨t0, t1⟩ := hs.t0 1 h2
      obtain ⟨_, i1, i2⟩ := hs.num 0 (by omega)
      obtain ⟨_, j1, j2⟩ := hs.num 1 h2
      have e : wrap64 ((at_ s 1).f0 + 1) = (at_ s 1).f0 + 1 := wrap64_id ⟨by omega, by omega⟩
      obtain ⟨K, hK⟩ := between_same (a0 := (at_ s 0).f0) (b0 := (at_ s 1).f0) i1 i2 j1 j2 (Int.tmod n ((at_ s 1).f0 + 1))
      exact ⟨K, fun k hk _ => ⟨(at_ s 1).f0 + 1, e, by omega, hK k hk⟩⟩
    · exact ⟨0, fun _ _ h => absurd h h2⟩
  obtain ⟨K1, e1⟩ := es
  obtain ⟨K2, e2⟩ := en
  obtain ⟨K3, e3⟩ := at_same hs.num (by omega) n
  obtain ⟨K4, e4⟩ := at_same hs.num (by omega) t
  obtain ⟨K5, e5⟩ := at_same n6 (by omega) n
  obtain ⟨K6, e6⟩ := between_same (a0 := Int.tmod a0 1152921504606846976) (b0 := Int.tmod b0 1152921504606846976) (i64_of ha1) (i64_of ha2) (i64_of hb1) (i64_of hb2) (Int.tmod t 1152921504606846976)
  obtain ⟨K7, e7⟩ := known22
  obtain ⟨K8, e8⟩ := hx
  exact ⟨K1 + K2 + K3 + K4 + K5 + K6 + K7 + K8, s, n, e1 _ (by omega), e2 _ (by omega), e3 _ (by omega), e4 _ (by omega), e5 _ (by omega), e6 _ (by omega), e7 _ (by omega), e8 _ (by omega)⟩

end Go.Proofs.Ytlmcnlaopolinaa.Pure

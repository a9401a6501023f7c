/- RateTells: what the two packages tell of any samples is the same. No condition beyond the statement. -/
import Derived.Test.YtlmcnlaopolinaaPRateTellsx15
namespace Go.Proofs.Ytlmcnlaopolinaa.Pure
open Go.RowKit Go.Proofs.Ytlmcnlaopolinaa.PRateTells Go.Proofs.YtlmcnlaopolinaaW.PrintWords Go.Proofs.YtlmcnlaopolinaaW.PrintLast
set_option linter.unusedVariables false
set_option linter.unusedSimpArgs false

theorem evEq {α : Type} {f g : Nat → Option α} {r : α} (hf : ∀ k, f k = g k) (h : Ev g r) : Ev f r := by rw [funext hf]; exact h
theorem i64_of {a : Int} (h : (Lit.int .i64 a).wf = true) : -9223372036854775808 ≤ a ∧ a ≤ 9223372036854775807 := by
  have h1 : IntKind.i64.min = -9223372036854775808 := rfl
  have h2 : IntKind.i64.max = 9223372036854775807 := rfl
  simp only [Lit.wf, Bool.and_eq_true, decide_eq_true_eq] at h
  omega
/-! ### rationals: New, Right -/
def Pure_ofQ (q : Rat) : Int × Int × Int := if q.num.natAbs > 2147483647 ∨ q.den > 2147483647 then (0, 0, 23) else (q.num, (q.den : Int), 0)
def newQ (n d : Int) : Int × Int × Int := if d = 0 then (0, 0, 1) else Pure_ofQ (Rat.divInt n d)
def I64 (n : Int) : Prop := -9223372036854775808 ≤ n ∧ n ≤ 9223372036854775807
theorem wrapU {x : Int} (h0 : 0 ≤ x) (h1 : x < 18446744073709551616) : IntKind.u64.wrap x = x := by
  have : IntKind.u64.wrap x = x % 18446744073709551616 := by simp [IntKind.wrap, IntKind.bits, IntKind.signed]
  rw [this]; exact Int.emod_eq_of_lt h0 h1
theorem wrapU_eq (x : Int) : IntKind.u64.wrap x = x % 18446744073709551616 := by simp [IntKind.wrap, IntKind.bits, IntKind.signed]
theorem wrap64_id {x : Int} (h : I64 x) : wrap64 x = x := by unfold I64 at h; unfold wrap64; omega
theorem size_tells {n : Int} (h : I64 n) : rat_size.f n = some (n.natAbs : Int) := by
  unfold I64 at h
  unfold rat_size.f
  by_cases hn : n < 0
  · rw [if_pos hn, wrapU_eq, wrapU_eq]
    congr 1
    omega
  · rw [if_neg hn, wrapU_eq]
    congr 1
    omega
theorem common_tells (b : Nat) : ∀ (a k : Nat), b < k → rat_common.l0 k (a : Int) (b : Int) = some ((Nat.gcd a b : Nat) : Int) := by
  induction b using Nat.strongRecOn with
  | _ b ih =>
    intro a k hk
    obtain ⟨k, rfl⟩ : ∃ m, k = m + 1 := ⟨k - 1, by omega⟩
    simp only [rat_common.l0]
    by_cases hb : b = 0
    · subst hb
      rw [if_neg (by omega), Nat.gcd_zero_right]
    · rw [if_pos (by omega), if_neg (by omega)]
      have e : Int.tmod (a : Int) (b : Int) = ((a % b : Nat) : Int) := by rw [Int.ofNat_tmod]
      have hl : a % b < b := Nat.mod_lt _ (by omega)
      rw [e, ih (a % b) hl b k (by omega), Nat.gcd_comm a b, Nat.gcd_rec b a, Nat.gcd_comm]
theorem new_parts (n d : Int) (hd : d ≠ 0) : (Rat.divInt n d).den = d.natAbs / Nat.gcd n.natAbs d.natAbs ∧ (Rat.divInt n d).num.natAbs = n.natAbs / Nat.gcd n.natAbs d.natAbs ∧
    (if (decide (n < 0)) != (decide (d < 0)) then (Rat.divInt n d).num = -((n.natAbs / Nat.gcd n.natAbs d.natAbs : Nat) : Int) else (Rat.divInt n d).num = ((n.natAbs / Nat.gcd n.natAbs d.natAbs : Nat) : Int)) := by
  have hg : Int.gcd d n = Nat.gcd n.natAbs d.natAbs := by unfold Int.gcd; exact Nat.gcd_comm _ _
  have hpos : 0 < Nat.gcd n.natAbs d.natAbs := Nat.gcd_pos_of_pos_right _ (by omega)
  refine ⟨by rw [Rat.den_divInt, if_neg hd, hg], ?_⟩
  rw [Rat.num_divInt, hg]
  obtain ⟨c, hc⟩ : ∃ c : Int, n = (Nat.gcd n.natAbs d.natAbs : Int) * c := by
    have : ((Nat.gcd n.natAbs d.natAbs : Nat) : Int) ∣ n := Int.natAbs_dvd_natAbs.1 (by rw [Int.natAbs_natCast]; exact Nat.gcd_dvd_left _ _)
    exact this
  generalize Nat.gcd n.natAbs d.natAbs = g at *
  have hA : n.natAbs / g = c.natAbs := by
    rw [hc, Int.natAbs_mul, Int.natAbs_natCast]
    exact Nat.mul_div_cancel_left _ hpos
  have hnc : (n < 0 ↔ c < 0) := by
    have hg0 : (0 : Int) < (g : Int) := by omega
    constructor
    · intro h
      by_cases h' : c < 0
      · exact h'
      · have := Int.mul_nonneg (Int.le_of_lt hg0) (Int.not_lt.1 h'); omega
    · intro h
      have := Int.mul_neg_of_pos_of_neg hg0 h; omega
  rw [hA]
  have hq : d.sign * n / (g : Int) = d.sign * c := by
    rw [hc, ← Int.mul_assoc, Int.mul_comm d.sign, Int.mul_assoc]
    exact Int.mul_ediv_cancel_left _ (by omega)
  rw [hq]
  rcases Int.lt_trichotomy d 0 with h | h | h
  · rw [Int.sign_eq_neg_one_of_neg h]
    have h1 : decide (d < 0) = true := decide_eq_true h
    rw [h1]
    by_cases hn : n < 0
    · have h2 := hnc.1 hn
      rw [decide_eq_true hn]
      simp only [bne_self_eq_false, Bool.false_eq_true, if_false]
      omega
    · have h2 : ¬ c < 0 := fun h => hn (hnc.2 h)
      rw [decide_eq_false hn]
      simp only [Bool.bne_true, Bool.not_false, if_true]
      omega
  · exact absurd h hd
  · rw [Int.sign_eq_one_of_pos h]
    have h1 : decide (d < 0) = false := decide_eq_false (by omega)
    rw [h1]
    by_cases hn : n < 0
    · have h2 := hnc.1 hn
      rw [decide_eq_true hn]
      simp only [Bool.bne_false, if_true]
      omega
    · have h2 : ¬ c < 0 := fun h => hn (hnc.2 h)
      rw [decide_eq_false hn]
      simp only [bne_self_eq_false, Bool.false_eq_true, if_false]
      omega
theorem new_at (n d : Int) (hn : I64 n) (hd : I64 d) (k : Nat) (hk : d.natAbs + 2 < k) : rat_New.f k n d = some (newQ n d) := by
  unfold rat_New.f newQ
  by_cases h0 : d = 0
  · rw [if_pos h0, if_pos h0]
  rw [if_neg h0, if_neg h0, size_tells hn, size_tells hd]
  simp only [Option.bind_some]
  unfold rat_common.f
  rw [common_tells d.natAbs n.natAbs k (by omega)]
  simp only [Option.bind_some]
  obtain ⟨e1, e2, e3⟩ := new_parts n d h0
  have hpos : 0 < Nat.gcd n.natAbs d.natAbs := Nat.gcd_pos_of_pos_right _ (by omega)
  generalize Nat.gcd n.natAbs d.natAbs = g at *
  have t1 : IntKind.u64.wrap (Int.tdiv (n.natAbs : Int) (g : Int)) = ((n.natAbs / g : Nat) : Int) := by
    rw [← Int.ofNat_tdiv]
    have := Nat.div_le_self n.natAbs g
    unfold I64 at hn
    exact wrapU (by omega) (by omega)
  have t2 : IntKind.u64.wrap (Int.tdiv (d.natAbs : Int) (g : Int)) = ((d.natAbs / g : Nat) : Int) := by
    rw [← Int.ofNat_tdiv]
    have := Nat.div_le_self d.natAbs g
    unfold I64 at hd
    exact wrapU (by omega) (by omega)
  rw [t1, t2, if_neg (by omega)]
  unfold Pure_ofQ
  rw [e1, e2]
  generalize n.natAbs / g = A at *
  generalize d.natAbs / g = B at *
  obtain ⟨k, rfl⟩ : ∃ m, k = m + 1 := ⟨k - 1, by omega⟩
  by_cases hA : (A : Int) > 2147483647
  · rw [if_pos hA, if_pos (Or.inl (by omega))]
    simp only [rat_New.j0, if_true]
  · rw [if_neg hA]
    by_cases hB : (B : Int) > 2147483647
    · rw [decide_eq_true hB, if_pos (Or.inr (by omega))]
      simp only [rat_New.j0, if_true]
    · rw [decide_eq_false hB, if_neg (by omega)]
      simp only [rat_New.j0, Bool.false_eq_true, if_false]
      have w1 : wrap64 (A : Int) = (A : Int) := wrap64_id (by unfold I64; omega)
      have w2 : wrap64 (B : Int) = (B : Int) := wrap64_id (by unfold I64; omega)
      have w3 : wrap64 (-(A : Int)) = -(A : Int) := wrap64_id (by unfold I64; omega)
      rw [w1, w2, w3]
      by_cases hs : ((decide (n < 0)) != (decide (d < 0))) = true
      · rw [if_pos hs] at e3 ⊢
        rw [e3]
      · rw [if_neg hs] at e3 ⊢
        rw [e3]
theorem new_tells {n d : Int} (hn : I64 n) (hd : I64 d) : Ev (fun k => rat_New.f k n d) (newQ n d) := ⟨d.natAbs + 3, fun k hk => new_at n d hn hd k (by omega)⟩
/-- A number that is right: in lowest terms, within the bounds. -/
structure Rt (n d : Int) : Prop where
  n1 : -2147483647 ≤ n
  n2 : n ≤ 2147483647
  d1 : 1 ≤ d
  d2 : d ≤ 2147483647
  num : (Rat.divInt n d).num = n
  den : ((Rat.divInt n d).den : Int) = d
def rightQ (n d : Int) : Bool := decide (d > 0) && decide (newQ n d = (n, d, 0))
theorem Rt.right {n d : Int} (h : Rt n d) : rightQ n d = true := by
  unfold rightQ newQ Pure_ofQ
  have h1 := h.n1
  have h2 := h.n2
  have h3 := h.d1
  have h4 := h.d2
  have h5 := h.num
  have h6 := h.den
  rw [if_neg (by omega), if_neg (by omega), h5, h6]
  simp only [decide_true, Bool.and_true, decide_eq_true_eq]
  omega
theorem Rt.of_right {n d : Int} (h : rightQ n d = true) : Rt n d := by
  unfold rightQ newQ Pure_ofQ at h
  rw [Bool.and_eq_true, decide_eq_true_eq, decide_eq_true_eq] at h
  obtain ⟨hd, h⟩ := h
  rw [if_neg (by omega)] at h
  by_cases hb : (Rat.divInt n d).num.natAbs > 2147483647 ∨ (Rat.divInt n d).den > 2147483647
  · rw [if_pos hb] at h
    simp only [Prod.mk.injEq] at h
    omega
  · rw [if_neg hb] at h
    simp only [Prod.mk.injEq, and_true] at h
    obtain ⟨h1, h2⟩ := h
    exact ⟨by omega, by omega, by omega, by omega, h1, h2⟩
theorem right_tells {n d : Int} (hn : I64 n) (hd : I64 d) : Ev (fun k => rat_Right.f k n d) (rightQ n d) := by
  refine Ev.bind (new_tells hn hd) ?_
  unfold rightQ
  by_cases h0 : d > 0
  · simp only [if_pos h0, decide_eq_true h0, Bool.true_and]
    obtain ⟨a, b, c⟩ := newQ n d
    simp only [Prod.mk.injEq]
    by_cases hc : c = 0
    · simp only [if_pos hc]
      refine ⟨0, fun _ _ => ?_⟩
      show some _ = some _
      congr 1
      rw [Bool.eq_iff_iff]
      simp [hc]
    · simp only [if_neg hc]
      refine ⟨0, fun _ _ => ?_⟩
      show some _ = some _
      congr 1
      simp [hc]
  · simp only [if_neg h0, decide_eq_false h0, Bool.false_and]
    exact Ev.now _
theorem Rt.i64n {n d : Int} (h : Rt n d) : I64 n := ⟨by have := h.n1; omega, by have := h.n2; omega⟩
theorem Rt.i64d {n d : Int} (h : Rt n d) : I64 d := ⟨by have := h.d1; omega, by have := h.d2; omega⟩
theorem Rt.ofQ {q : Rat} {n d : Int} (h : Pure_ofQ q = (n, d, 0)) : Rt n d ∧ Rat.divInt n d = q := by
  unfold Pure_ofQ at h
  by_cases hb : q.num.natAbs > 2147483647 ∨ q.den > 2147483647
  · rw [if_pos hb] at h; simp at h
  · rw [if_neg hb] at h
    simp only [Prod.mk.injEq, and_true] at h
    obtain ⟨rfl, rfl⟩ := h
    have e := Rat.num_divInt_den q
    have hd := q.den_pos
    exact ⟨⟨by omega, by omega, by omega, by omega, by rw [e], by rw [e]⟩, e⟩
theorem ofQ_rt {q : Rat} (h1 : q.num.natAbs ≤ 2147483647) (h2 : q.den ≤ 2147483647) : Pure_ofQ q = (q.num, (q.den : Int), 0) ∧ Rt q.num q.den := by
  have e : Pure_ofQ q = (q.num, (q.den : Int), 0) := by unfold Pure_ofQ; rw [if_neg (by omega)]
  exact ⟨e, (Rt.ofQ e).1⟩
theorem Rt.same {a b c d : Int} (h : Rt a b) (k : Rt c d) (e : Rat.divInt a b = Rat.divInt c d) : a = c ∧ b = d := by
  have h1 := h.num; have h2 := h.den; have k1 := k.num; have k2 := k.den
  rw [e] at h1 h2
  omega
theorem mulM {x y : Int} (hx : -2147483647 ≤ x ∧ x ≤ 2147483647) (hy : -2147483647 ≤ y ∧ y ≤ 2147483647) : -4611686014132420609 ≤ x * y ∧ x * y ≤ 4611686014132420609 := by
  have h := Nat.mul_le_mul (show x.natAbs ≤ 2147483647 by omega) (show y.natAbs ≤ 2147483647 by omega)
  rw [← Int.natAbs_mul] at h
  omega
/-! ### marigraphkeep.Rat: a right number, small -/
theorem within_ev {n lo hi : Int} (h1 : 0 ≤ lo + 1000) (h2 : lo ≤ hi) (h3 : hi < 1000000) (h4 : -1000 ≤ lo) (hn : I64 n) : ∃ r, Ev (fun k => marigraphbook_Within.f k n lo hi) r ∧ lo ≤ r ∧ r ≤ hi ∧ (lo ≤ n → n ≤ hi → r = n) := by
  unfold I64 at hn
  have e1 : wrap64 (wrap64 (hi - lo) + 1) = hi - lo + 1 := by unfold wrap64; omega
  have hj : ∀ b : Bool, (b = true ↔ (lo ≤ n ∧ n ≤ hi)) → ∃ r, (∀ k, marigraphbook_Within.j0 (k + 1) n lo hi b = some r) ∧ lo ≤ r ∧ r ≤ hi ∧ (lo ≤ n → n ≤ hi → r = n) := by
    intro b hb
    simp only [marigraphbook_Within.j0, e1]
    cases b with
    | true =>
      have := hb.1 rfl
      exact ⟨n, fun _ => by rw [if_pos rfl], this.1, this.2, fun _ _ => rfl⟩
    | false =>
      have hno : ¬ (lo ≤ n ∧ n ≤ hi) := fun h => by have := hb.2 h; cases this
      simp only [Bool.false_eq_true, if_false]
      rw [if_neg (by omega)]
      have hm : (0 : Int) < hi - lo + 1 := by omega
      have t1 : Int.tmod n (hi - lo + 1) < hi - lo + 1 := Int.tmod_lt_of_pos _ hm
      have t2 : -(hi - lo + 1) < Int.tmod n (hi - lo + 1) := by
        have := Int.tmod_lt_of_pos (-n) hm
        rw [Int.neg_tmod] at this
        omega
      generalize Int.tmod n (hi - lo + 1) = t at *
      by_cases ht : t < 0
      · rw [if_pos ht]
        have e : wrap64 (lo + wrap64 (wrap64 (wrap64 (t + hi) - lo) + 1)) = t + hi + 1 := by unfold wrap64; omega
        rw [e]
        exact ⟨_, fun _ => rfl, by omega, by omega, fun a b => absurd ⟨a, b⟩ hno⟩
      · rw [if_neg ht]
        have e : wrap64 (lo + t) = lo + t := by unfold wrap64; omega
        rw [e]
        exact ⟨_, fun _ => rfl, by omega, by omega, fun a b => absurd ⟨a, b⟩ hno⟩
  have fin : ∀ b : Bool, (∀ k, marigraphbook_Within.f k n lo hi = marigraphbook_Within.j0 k n lo hi b) → (b = true ↔ (lo ≤ n ∧ n ≤ hi)) → ∃ r, Ev (fun k => marigraphbook_Within.f k n lo hi) r ∧ lo ≤ r ∧ r ≤ hi ∧ (lo ≤ n → n ≤ hi → r = n) := by
    intro b hf hb
    obtain ⟨r, h, hr⟩ := hj b hb
    refine ⟨r, ⟨1, fun k hk => ?_⟩, hr⟩
    obtain ⟨k, rfl⟩ : ∃ m, k = m + 1 := ⟨k - 1, by omega⟩
    show marigraphbook_Within.f (k + 1) n lo hi = some r
    rw [hf]
    exact h k
  by_cases hlo : n ≥ lo
  · refine fin (decide (n ≤ hi)) (fun k => by unfold marigraphbook_Within.f; rw [if_pos hlo]) ?_
    rw [decide_eq_true_iff]
    exact ⟨fun h => ⟨hlo, h⟩, fun h => h.2⟩
  · refine fin false (fun k => by unfold marigraphbook_Within.f; rw [if_neg hlo]) ?_
    constructor
    · intro h; cases h
    · intro h; omega
def NoDiv (a b j : Int) : Prop := ∀ i : Int, 2 ≤ i → i < j → ¬ (i ∣ a ∧ i ∣ b)
theorem keep_loops (K : Nat) : (∀ (a b j : Int), 1 ≤ b → b ≤ 12 → -60 ≤ a → a ≤ 60 → 2 ≤ j → j ≤ 13 → 3 * b + 2 * (14 - j) + 1 ≤ K → NoDiv a b j → ∃ N D, marigraphkeep_Rat.l0 K a b j = some (N, D) ∧ 1 ≤ D ∧ D ≤ 12 ∧ -60 ≤ N ∧ N ≤ 60 ∧ NoDiv N D (D + 1)) ∧
    (∀ (a b j : Int), 1 ≤ b → b ≤ 12 → -60 ≤ a → a ≤ 60 → 2 ≤ j → j ≤ b → 3 * b + 2 * (14 - j) ≤ K → NoDiv a b j → ∃ N D, marigraphkeep_Rat.l1 K a b j = some (N, D) ∧ 1 ≤ D ∧ D ≤ 12 ∧ -60 ≤ N ∧ N ≤ 60 ∧ NoDiv N D (D + 1)) := by
  induction K with
  | zero => exact ⟨fun a b j h1 h2 h3 h4 h5 h6 hK => by omega, fun a b j h1 h2 h3 h4 h5 h6 hK => by omega⟩
  | succ K ih =>
    refine ⟨fun a b j h1 h2 h3 h4 h5 h6 hK hno => ?_, fun a b j h1 h2 h3 h4 h5 h6 hK hno => ?_⟩
    · simp only [marigraphkeep_Rat.l0]
      by_cases hj : j ≤ b
      · rw [if_pos hj]
        exact ih.2 a b j h1 h2 h3 h4 h5 hj (by omega) hno
      · rw [if_neg hj]
        exact ⟨a, b, rfl, h1, h2, h3, h4, fun i hi1 hi2 => hno i hi1 (by omega)⟩
    · simp only [marigraphkeep_Rat.l1]
      rw [if_neg (by omega)]
      have wj : wrap64 (j + 1) = j + 1 := wrap64_id ⟨by omega, by omega⟩
      have next : (¬ (j ∣ a ∧ j ∣ b)) → ∃ N D, marigraphkeep_Rat.l0 K a b (wrap64 (j + 1)) = some (N, D) ∧ 1 ≤ D ∧ D ≤ 12 ∧ -60 ≤ N ∧ N ≤ 60 ∧ NoDiv N D (D + 1) := by
        intro hnd
        rw [wj]
        refine ih.1 a b (j + 1) h1 h2 h3 h4 (by omega) (by omega) (by omega) (fun i hi1 hi2 hd => ?_)
        by_cases hij : i < j
        · exact hno i hi1 hij hd
        · obtain rfl : i = j := by omega
          exact hnd hd
      by_cases ha : Int.tmod a j = 0
      · rw [if_pos ha]
        have da : j ∣ a := Int.dvd_of_tmod_eq_zero ha
        by_cases hb : Int.tmod b j = 0
        · rw [if_pos hb]
          have db : j ∣ b := Int.dvd_of_tmod_eq_zero hb
          obtain ⟨x, rfl⟩ := da
          obtain ⟨y, rfl⟩ := db
          have ex : Int.tdiv (j * x) j = x := Int.mul_tdiv_cancel_left _ (by omega)
          have ey : Int.tdiv (j * y) j = y := Int.mul_tdiv_cancel_left _ (by omega)
          have y1 : 1 ≤ y := by
            by_cases hy : y ≤ 0
            · have := Int.mul_nonneg_of_nonpos_of_nonpos (show -j ≤ 0 by omega) hy
              rw [Int.neg_mul] at this
              omega
            · omega
          have y2 : 2 * y ≤ j * y := Int.mul_le_mul_of_nonneg_right h5 (by omega)
          have x1 : x.natAbs ≤ (j * x).natAbs := by
            rw [Int.natAbs_mul]
            exact Nat.le_mul_of_pos_left _ (by omega)
          rw [ex, ey, wrap64_id (show I64 x from ⟨by omega, by omega⟩), wrap64_id (show I64 y from ⟨by omega, by omega⟩)]
          have hno' : NoDiv x y j := fun i hi1 hi2 hd => hno i hi1 hi2 ⟨Int.dvd_trans hd.1 (Int.dvd_mul_left _ _), Int.dvd_trans hd.2 (Int.dvd_mul_left _ _)⟩
          by_cases hjy : j ≤ y
          · exact ih.2 x y j (by omega) (by omega) (by omega) (by omega) h5 hjy (by omega) hno'
          · obtain ⟨K', rfl⟩ : ∃ m, K = m + 1 := ⟨K - 1, by omega⟩
            simp only [marigraphkeep_Rat.l1]
            rw [if_neg (by omega)]
            have wj' : wrap64 (j + 1) = j + 1 := wj
            have stop : ∀ k' : Nat, 0 < k' → ∀ j' : Int, j ≤ j' → ∃ N D, marigraphkeep_Rat.l0 k' x y j' = some (N, D) ∧ 1 ≤ D ∧ D ≤ 12 ∧ -60 ≤ N ∧ N ≤ 60 ∧ NoDiv N D (D + 1) := by
              intro k' hk' j' hj'
              obtain ⟨k', rfl⟩ : ∃ m, k' = m + 1 := ⟨k' - 1, by omega⟩
              simp only [marigraphkeep_Rat.l0]
              rw [if_neg (by omega)]
              exact ⟨x, y, rfl, by omega, by omega, by omega, by omega, fun i hi1 hi2 => hno' i hi1 (by omega)⟩
            have hty : ¬ Int.tmod y j = 0 := by
              rw [Int.tmod_eq_of_lt (by omega) (by omega)]
              omega
            rw [wj', if_neg hty]
            by_cases hx : Int.tmod x j = 0
            · rw [if_pos hx]; exact stop K' (by omega) _ (by omega)
            · rw [if_neg hx]; exact stop K' (by omega) _ (by omega)
        · rw [if_neg hb]
          exact next (fun h => hb (Int.tmod_eq_zero_of_dvd h.2))
      · rw [if_neg ha]
        exact next (fun h => ha (Int.tmod_eq_zero_of_dvd h.1))
theorem rt_of_nodiv {N D : Int} (h1 : 1 ≤ D) (h2 : D ≤ 12) (h3 : -60 ≤ N) (h4 : N ≤ 60) (hno : NoDiv N D (D + 1)) : Rt N D := by
  have hg : Nat.gcd N.natAbs D.natAbs = 1 := by
    have hpos : 0 < Nat.gcd N.natAbs D.natAbs := Nat.gcd_pos_of_pos_right _ (by omega)
    have hle : Nat.gcd N.natAbs D.natAbs ≤ D.natAbs := Nat.le_of_dvd (by omega) (Nat.gcd_dvd_right _ _)
    by_cases h : Nat.gcd N.natAbs D.natAbs = 1
    · exact h
    · refine absurd ⟨?_, ?_⟩ (hno (Nat.gcd N.natAbs D.natAbs : Nat) (by omega) (by omega))
      · exact Int.natAbs_dvd_natAbs.1 (by rw [Int.natAbs_natCast]; exact Nat.gcd_dvd_left _ _)
      · exact Int.natAbs_dvd_natAbs.1 (by rw [Int.natAbs_natCast]; exact Nat.gcd_dvd_right _ _)
  obtain ⟨e1, _, e3⟩ := new_parts N D (by omega)
  rw [hg, Nat.div_one] at e1 e3
  rw [decide_eq_false (show ¬ D < 0 by omega)] at e3
  refine ⟨by omega, by omega, by omega, by omega, ?_, by omega⟩
  by_cases hn : N < 0
  · rw [decide_eq_true hn] at e3
    simp only [Bool.bne_false, if_true] at e3
    omega
  · rw [decide_eq_false hn] at e3
    simp only [bne_self_eq_false, Bool.false_eq_true, if_false] at e3
    omega
theorem keep_tells {x y : Int} (hx : I64 x) (hy : I64 y) : ∃ N D, Ev (fun k => marigraphkeep_Rat.f k x y) (N, D) ∧ Rt N D ∧ -60 ≤ N ∧ N ≤ 60 ∧ 1 ≤ D ∧ D ≤ 12 := by
  obtain ⟨a, ha, a1, a2, _⟩ := within_ev (lo := -60) (hi := 60) (by omega) (by omega) (by omega) (by omega) hx
  obtain ⟨b, hb, b1, b2, _⟩ := within_ev (lo := 1) (hi := 12) (by omega) (by omega) (by omega) (by omega) hy
  have hl : ∀ K : Nat, 100 ≤ K → ∃ N D, marigraphkeep_Rat.l0 K a b 2 = some (N, D) ∧ 1 ≤ D ∧ D ≤ 12 ∧ -60 ≤ N ∧ N ≤ 60 ∧ NoDiv N D (D + 1) :=
    fun K hK => (keep_loops K).1 a b 2 b1 b2 a1 a2 (by omega) (by omega) (by omega) (fun i h1 h2 => by omega)
  obtain ⟨N, D, h0, d1, d2, n1, n2, hno⟩ := hl 100 (by omega)
  refine ⟨N, D, ?_, rt_of_nodiv d1 d2 n1 n2 hno, n1, n2, d1, d2⟩
  refine Ev.bind ha (Ev.bind hb ?_)
  exact Ev.of (fun k => marigraphkeep_Rat.mono_l k |>.1 _ _ _) h0
/-! ### Cmp, Add, Sub, Mul, Div of right numbers -/
def VQ (n d : Int) : Rat := Rat.divInt n d
theorem ratlt {n d m e : Int} (h : Rt n d) (k : Rt m e) : n * e < m * d ↔ VQ n d < VQ m e := by
  rw [Rat.lt_iff]
  unfold VQ
  rw [h.num, h.den, k.num, k.den]
theorem rateq {n d m e : Int} (h : Rt n d) (k : Rt m e) : (n = m ∧ d = e) ↔ VQ n d = VQ m e := ⟨fun he => by rw [he.1, he.2], fun he => h.same k he⟩
def cmpQ (a b : Rat) : Int := if a < b then -1 else if a = b then 0 else 1
theorem prodw {x y : Int} (hx : -2147483647 ≤ x ∧ x ≤ 2147483647) (hy : -2147483647 ≤ y ∧ y ≤ 2147483647) : wrap64 (x * y) = x * y := by
  have := mulM hx hy
  exact wrap64_id ⟨by omega, by omega⟩
theorem exactQ {f : Nat → Option (Int × Int × Int)} {n d : Int} {q : Rat} (hn : I64 n) (hd : I64 d) (h0 : d ≠ 0) (hq : Rat.divInt n d = q) (hf : ∀ k, f (k + 1) = (rat_New.f k n d).bind fun t => some (t.1, t.2.1, t.2.2)) : Ev f (Pure_ofQ q) := by
  refine Ev.step hf ?_
  have h := new_tells hn hd
  have e : newQ n d = Pure_ofQ q := by unfold newQ; rw [if_neg h0, hq]
  rw [e] at h
  exact Ev.bind h (Ev.now _)
theorem cmp_tells {n d m e : Int} (h : Rt n d) (k : Rt m e) : Ev (fun K => rat_Cmp.f K n d m e) (cmpQ (VQ n d) (VQ m e)) := by
  have r1 := right_tells h.i64n h.i64d
  have r2 := right_tells k.i64n k.i64d
  rw [h.right] at r1
  rw [k.right] at r2
  refine Ev.bind r1 (Ev.bind r2 ?_)
  simp only [if_true, Bool.not_true]
  refine ⟨1, fun K hK => ?_⟩
  obtain ⟨K, rfl⟩ : ∃ m, K = m + 1 := ⟨K - 1, by omega⟩
  simp only [rat_Cmp.j0, Bool.false_eq_true, if_false, if_true]
  have h1 := h.n1; have h2 := h.n2; have h3 := h.d1; have h4 := h.d2
  have k1 := k.n1; have k2 := k.n2; have k3 := k.d1; have k4 := k.d2
  rw [prodw (x := n) (y := e) ⟨by omega, by omega⟩ ⟨by omega, by omega⟩, prodw (x := m) (y := d) ⟨by omega, by omega⟩ ⟨by omega, by omega⟩]
  unfold cmpQ
  by_cases hlt : n * e < m * d
  · rw [if_pos hlt, if_pos ((ratlt h k).1 hlt)]
  · rw [if_neg hlt, if_neg (fun hh => hlt ((ratlt h k).2 hh))]
    by_cases he : VQ n d = VQ m e
    · obtain ⟨e1, e2⟩ := (rateq h k).2 he
      rw [if_pos (by rw [e1, e2]; simp), if_pos he]
    · rw [if_neg (fun hh => he ((rateq h k).1 (by simpa using hh))), if_neg he]
theorem Add_tells {n d m e : Int} (h : Rt n d) (k : Rt m e) : Ev (fun K => rat_Add.f K n d m e) (Pure_ofQ (VQ n d + VQ m e)) := by
  have r1 := right_tells h.i64n h.i64d
  have r2 := right_tells k.i64n k.i64d
  rw [h.right] at r1
  rw [k.right] at r2
  have h1 := h.n1; have h2 := h.n2; have h3 := h.d1; have h4 := h.d2
  have k1 := k.n1; have k2 := k.n2; have k3 := k.d1; have k4 := k.d2
  have hd0 : d ≠ 0 := by omega
  have he0 : e ≠ 0 := by omega
  have p1 := mulM (x := n) (y := e) ⟨by omega, by omega⟩ ⟨by omega, by omega⟩
  have p2 := mulM (x := m) (y := d) ⟨by omega, by omega⟩ ⟨by omega, by omega⟩
  have p3 := mulM (x := d) (y := e) ⟨by omega, by omega⟩ ⟨by omega, by omega⟩
  have p4 := mulM (x := n) (y := m) ⟨by omega, by omega⟩ ⟨by omega, by omega⟩
  have hde : d * e ≠ 0 := Int.mul_ne_zero hd0 he0
  refine Ev.bind (g := fun K => rat_exact_of_rat_Add_1_rat_both.f K n d m e) (a := Pure_ofQ (VQ n d + VQ m e)) (f := fun _ b => some (b.1, b.2.1, b.2.2)) (Ev.bind r1 ?_) (Ev.now _)
  simp only [if_true]
  refine Ev.bind r2 ?_
  refine exactQ (n := n * e + m * d) (d := d * e) ⟨by omega, by omega⟩ ⟨by omega, by omega⟩ hde ?_ (fun K => ?_)
  · exact (Rat.divInt_add_divInt _ _ hd0 he0).symm
  · simp only [rat_exact_of_rat_Add_1_rat_both.j0, rat_Add_1.f, rat_both.f, Bool.not_true, Bool.false_eq_true, if_false, Option.bind_some]
    rw [wrap64_id (x := d * e) ⟨by omega, by omega⟩]
    rw [wrap64_id (x := n * e) ⟨by omega, by omega⟩, wrap64_id (x := m * d) ⟨by omega, by omega⟩, wrap64_id (x := n * e + m * d) ⟨by omega, by omega⟩]
theorem Sub_tells {n d m e : Int} (h : Rt n d) (k : Rt m e) : Ev (fun K => rat_Sub.f K n d m e) (Pure_ofQ (VQ n d - VQ m e)) := by
  have r1 := right_tells h.i64n h.i64d
  have r2 := right_tells k.i64n k.i64d
  rw [h.right] at r1
  rw [k.right] at r2
  have h1 := h.n1; have h2 := h.n2; have h3 := h.d1; have h4 := h.d2
  have k1 := k.n1; have k2 := k.n2; have k3 := k.d1; have k4 := k.d2
  have hd0 : d ≠ 0 := by omega
  have he0 : e ≠ 0 := by omega
  have p1 := mulM (x := n) (y := e) ⟨by omega, by omega⟩ ⟨by omega, by omega⟩
  have p2 := mulM (x := m) (y := d) ⟨by omega, by omega⟩ ⟨by omega, by omega⟩
  have p3 := mulM (x := d) (y := e) ⟨by omega, by omega⟩ ⟨by omega, by omega⟩
  have p4 := mulM (x := n) (y := m) ⟨by omega, by omega⟩ ⟨by omega, by omega⟩
  have hde : d * e ≠ 0 := Int.mul_ne_zero hd0 he0
  refine Ev.bind (g := fun K => rat_exact_of_rat_Sub_1_rat_both.f K n d m e) (a := Pure_ofQ (VQ n d - VQ m e)) (f := fun _ b => some (b.1, b.2.1, b.2.2)) (Ev.bind r1 ?_) (Ev.now _)
  simp only [if_true]
  refine Ev.bind r2 ?_
  refine exactQ (n := n * e - m * d) (d := d * e) ⟨by omega, by omega⟩ ⟨by omega, by omega⟩ hde ?_ (fun K => ?_)
  · exact (Rat.divInt_sub_divInt _ _ hd0 he0).symm
  · simp only [rat_exact_of_rat_Sub_1_rat_both.j0, rat_Sub_1.f, rat_both.f, Bool.not_true, Bool.false_eq_true, if_false, Option.bind_some]
    rw [wrap64_id (x := d * e) ⟨by omega, by omega⟩]
    rw [wrap64_id (x := n * e) ⟨by omega, by omega⟩, wrap64_id (x := m * d) ⟨by omega, by omega⟩, wrap64_id (x := n * e - m * d) ⟨by omega, by omega⟩]
theorem Div_tells {n d m e : Int} (h : Rt n d) (k : Rt m e) : Ev (fun K => rat_Div.f K n d m e) (newQ (n * e) (d * m)) := by
  have r1 := right_tells h.i64n h.i64d
  have r2 := right_tells k.i64n k.i64d
  rw [h.right] at r1
  rw [k.right] at r2
  have h1 := h.n1; have h2 := h.n2; have h3 := h.d1; have h4 := h.d2
  have k1 := k.n1; have k2 := k.n2; have k3 := k.d1; have k4 := k.d2
  have p1 := mulM (x := n) (y := e) ⟨by omega, by omega⟩ ⟨by omega, by omega⟩
  have p2 := mulM (x := d) (y := m) ⟨by omega, by omega⟩ ⟨by omega, by omega⟩
  refine Ev.bind (g := fun K => rat_exact_of_rat_Div_1_rat_Div_2.f K n d m e) (a := newQ (n * e) (d * m)) (f := fun _ b => some (b.1, b.2.1, b.2.2)) (Ev.bind r1 ?_) (Ev.now _)
  simp only [if_true]
  refine Ev.bind r2 ?_
  refine Ev.step (f := fun K => (rat_New.f K (n * e) (d * m)).bind fun t => some (t.1, t.2.1, t.2.2)) (fun K => ?_) (Ev.bind (new_tells ⟨by omega, by omega⟩ ⟨by omega, by omega⟩) (Ev.now _))
  simp only [rat_exact_of_rat_Div_1_rat_Div_2.j0, rat_Div_1.f, rat_Div_2.f, Bool.not_true, Bool.false_eq_true, if_false, Option.bind_some]
  rw [wrap64_id (x := n * e) ⟨by omega, by omega⟩, wrap64_id (x := d * m) ⟨by omega, by omega⟩]
/-! ### how great sums and products are -/
def Bnd (q : Rat) (A B : Nat) : Prop := q.num.natAbs ≤ A ∧ q.den ≤ B
/-- What a rational within the bounds is told as. -/
theorem told {q : Rat} {A B : Nat} (h : Bnd q A B) (hA : A ≤ 2147483647) (hB : B ≤ 2147483647) : Pure_ofQ q = (q.num, (q.den : Int), 0) ∧ Rt q.num q.den := ofQ_rt (Nat.le_trans h.1 hA) (Nat.le_trans h.2 hB)
/-- The i-th sample. -/
def at_ (l : List S26) (j : Nat) : S26 := l.getD j z26
theorem rd_at (l : List S26) (j : Nat) : rd_T26 l (j : Int) = at_ l j := rfl
/-- Samples that are right: times in the row, numbers right, each later than the one ahead. -/
def GoodL (l : List S26) : Prop := ∀ j : Nat, j < l.length → 0 ≤ (at_ l j).f0 ∧ (at_ l j).f0 ≤ 4294967295 ∧ Rt (at_ l j).f1.f0 (at_ l j).f1.f1 ∧ (0 < j → (at_ l (j - 1)).f0 < (at_ l j).f0)
theorem wrap_succ {j n : Nat} (h : j < n) (hn : n < 4611686014132420609) : wrap64 ((j : Int) + 1) = ((j + 1 : Nat) : Int) := by
  unfold wrap64; omega
theorem wrap_pred {j n : Nat} (h : j < n) (hn : n < 4611686014132420609) (h0 : 0 < j) : wrap64 ((j : Int) - 1) = ((j - 1 : Nat) : Int) := by
  unfold wrap64; omega
theorem rt_one {n : Int} (h1 : -2147483647 ≤ n) (h2 : n ≤ 2147483647) : Rt n 1 := by
  obtain ⟨e1, e2, e3⟩ := new_parts n 1 (by decide)
  simp only [Int.natAbs_one, Nat.gcd_one_right, Nat.div_one] at e1 e2 e3
  refine ⟨h1, h2, by decide, by decide, ?_, by rw [e1]; rfl⟩
  by_cases hn : n < 0
  · simp [hn] at e3; omega
  · simp [hn] at e3; omega
theorem of_tells {n : Int} (h1 : -2147483647 ≤ n) (h2 : n ≤ 2147483647) : Ev (fun k => rat_Of.f k n) (n, 1, 0) := by
  have h := new_tells (n := n) (d := 1) ⟨by omega, by omega⟩ ⟨by decide, by decide⟩
  have r := rt_one h1 h2
  have e : newQ n 1 = (n, 1, 0) := by
    unfold newQ Pure_ofQ
    have := r.num; have := r.den
    rw [if_neg (by decide), if_neg (by omega), r.num, r.den]
  rw [e] at h
  exact Ev.bind h (Ev.now _)
/-! ### the document's rationals: New, Right, Op, Cmp tell the same -/
theorem rparts {n : Int} (h : I64 n) : marigraphref1_parts.f n = some (decide (n < 0), (n.natAbs : Int)) := by
  unfold I64 at h
  unfold marigraphref1_parts.f
  by_cases hn : n < 0
  · rw [if_pos hn, decide_eq_true hn, wrapU_eq, wrapU_eq]
    congr 2
    omega
  · rw [if_neg hn, decide_eq_false hn, wrapU_eq]
    congr 2
    omega
def finQ (s t : Bool) (A B : Nat) : Int × Int × Int := if A > 2147483647 ∨ B > 2147483647 then (0, 0, 23) else if (s != t) = true then (-(A : Int), (B : Int), 0) else ((A : Int), (B : Int), 0)
theorem rnew_j1 (s t : Bool) (A B k : Nat) (hA : ¬ A > 2147483647) : marigraphref1_New.j1 (k + 1) s (A : Int) t (B : Int) (decide ((B : Int) > 2147483647)) = some (finQ s t A B) := by
  unfold finQ
  by_cases hB : (B : Int) > 2147483647
  · rw [decide_eq_true hB, if_pos (Or.inr (by omega))]
    simp only [marigraphref1_New.j1, if_true]
  · rw [decide_eq_false hB, if_neg (by omega)]
    simp only [marigraphref1_New.j1, Bool.false_eq_true, if_false]
    have w1 : wrap64 (A : Int) = (A : Int) := wrap64_id (by unfold I64; omega)
    have w2 : wrap64 (B : Int) = (B : Int) := wrap64_id (by unfold I64; omega)
    have w3 : wrap64 (-(A : Int)) = -(A : Int) := wrap64_id (by unfold I64; omega)
    rw [w1, w2, w3]
    by_cases hs : (s != t) = true
    · rw [if_pos hs, if_pos hs]
    · rw [if_neg hs, if_neg hs]
theorem rnew_loop (X Y : Nat) (s t : Bool) (hX : X < 18446744073709551616) (hY : Y < 18446744073709551616) (b : Nat) : ∀ (a k : Nat), 0 < Nat.gcd a b → b + 1 < k →
    marigraphref1_New.l0 k s (X : Int) t (Y : Int) (a : Int) (b : Int) = some (finQ s t (X / Nat.gcd a b) (Y / Nat.gcd a b)) := by
  induction b using Nat.strongRecOn with
  | _ b ih =>
    intro a k hg hk
    obtain ⟨k, rfl⟩ : ∃ m, k = m + 1 := ⟨k - 1, by omega⟩
    simp only [marigraphref1_New.l0]
    by_cases hb : b = 0
    · subst hb
      rw [Nat.gcd_zero_right] at hg ⊢
      rw [if_pos (by omega), if_neg (by omega)]
      have t1 : IntKind.u64.wrap (Int.tdiv (X : Int) (a : Int)) = ((X / a : Nat) : Int) := by
        rw [← Int.ofNat_tdiv]
        have h9 := Nat.div_le_self X a
        generalize X / a = Z at h9
        exact wrapU (by omega) (by omega)
      have t2 : IntKind.u64.wrap (Int.tdiv (Y : Int) (a : Int)) = ((Y / a : Nat) : Int) := by
        rw [← Int.ofNat_tdiv]
        have h9 := Nat.div_le_self Y a
        generalize Y / a = Z at h9
        exact wrapU (by omega) (by omega)
      rw [t1, t2]
      generalize X / a = A
      generalize Y / a = B
      obtain ⟨k, rfl⟩ : ∃ m, k = m + 1 := ⟨k - 1, by omega⟩
      by_cases hA : A > 2147483647
      · rw [if_pos (by omega)]
        unfold finQ
        rw [if_pos (Or.inl hA)]
        simp only [marigraphref1_New.j1, if_true]
      · rw [if_neg (by omega)]
        exact rnew_j1 s t A B k hA
    · rw [if_neg (by omega)]
      have e : Int.tmod (a : Int) (b : Int) = ((a % b : Nat) : Int) := by rw [Int.ofNat_tmod]
      have hl : a % b < b := Nat.mod_lt _ (by omega)
      have hgg : Nat.gcd b (a % b) = Nat.gcd a b := by rw [Nat.gcd_comm a b, Nat.gcd_rec b a, Nat.gcd_comm]
      rw [e, ih (a % b) hl b k (by rw [hgg]; exact hg) (by omega), hgg]
theorem fin_newQ {n d : Int} (h0 : d ≠ 0) : finQ (decide (n < 0)) (decide (d < 0)) (n.natAbs / Nat.gcd n.natAbs d.natAbs) (d.natAbs / Nat.gcd n.natAbs d.natAbs) = newQ n d := by
  obtain ⟨e1, e2, e3⟩ := new_parts n d h0
  unfold finQ newQ Pure_ofQ
  rw [if_neg h0, e1, e2]
  generalize n.natAbs / Nat.gcd n.natAbs d.natAbs = A at *
  generalize d.natAbs / Nat.gcd n.natAbs d.natAbs = B at *
  by_cases hc : A > 2147483647 ∨ B > 2147483647
  · rw [if_pos hc, if_pos hc]
  · rw [if_neg hc, if_neg hc]
    by_cases hs : ((decide (n < 0)) != (decide (d < 0))) = true
    · rw [if_pos hs] at e3 ⊢
      rw [e3]
    · rw [if_neg hs] at e3 ⊢
      rw [e3]
theorem rnew_tells {n d : Int} (hn : I64 n) (hd : I64 d) : Ev (fun k => marigraphref1_New.f k n d) (newQ n d) := by
  refine ⟨d.natAbs + 3, fun k hk => ?_⟩
  show marigraphref1_New.f k n d = _
  unfold marigraphref1_New.f
  by_cases h0 : d = 0
  · rw [if_pos h0]; unfold newQ; rw [if_pos h0]
  rw [if_neg h0, rparts hn, rparts hd]
  simp only [Option.bind_some]
  have hpos : 0 < Nat.gcd n.natAbs d.natAbs := Nat.gcd_pos_of_pos_right _ (by omega)
  have := hn; have := hd
  unfold I64 at *
  rw [rnew_loop n.natAbs d.natAbs _ _ (by omega) (by omega) d.natAbs n.natAbs k hpos (by omega), fin_newQ h0]
theorem rgcd_tells (b : Nat) : ∀ (a k : Nat), b < k → marigraphref1_gcd.l0 k (a : Int) (b : Int) = some ((Nat.gcd a b : Nat) : Int) := by
  induction b using Nat.strongRecOn with
  | _ b ih =>
    intro a k hk
    obtain ⟨k, rfl⟩ : ∃ m, k = m + 1 := ⟨k - 1, by omega⟩
    simp only [marigraphref1_gcd.l0]
    by_cases hb : b = 0
    · subst hb
      rw [if_pos (by omega), Nat.gcd_zero_right]
    · rw [if_neg (by omega)]
      have e : Int.tmod (a : Int) (b : Int) = ((a % b : Nat) : Int) := by rw [Int.ofNat_tmod]
      have hl : a % b < b := Nat.mod_lt _ (by omega)
      rw [e, ih (a % b) hl b k (by omega), Nat.gcd_comm a b, Nat.gcd_rec b a, Nat.gcd_comm]
theorem rightQ_gcd {n d : Int} (h1 : 1 ≤ d) (h2 : d ≤ 2147483647) (h3 : -2147483647 ≤ n) (h4 : n ≤ 2147483647) : rightQ n d = (((Nat.gcd n.natAbs d.natAbs : Nat) : Int) == 1) := by
  have h0 : d ≠ 0 := by omega
  obtain ⟨e1, e2, e3⟩ := new_parts n d h0
  have hpos : 0 < Nat.gcd n.natAbs d.natAbs := Nat.gcd_pos_of_pos_right _ (by omega)
  have hdv : Nat.gcd n.natAbs d.natAbs ∣ d.natAbs := Nat.gcd_dvd_right _ _
  rw [Bool.eq_iff_iff, beq_iff_eq]
  constructor
  · intro h
    have hr := Rt.of_right h
    have hden := hr.den
    rw [e1] at hden
    generalize Nat.gcd n.natAbs d.natAbs = g at *
    obtain ⟨c, hc⟩ := hdv
    rw [hc, Nat.mul_div_cancel_left _ hpos] at hden
    have hcd : c = d.natAbs := by omega
    rw [hcd] at hc
    have : g = 1 := Nat.eq_of_mul_eq_mul_right (show 0 < d.natAbs by omega) (by rw [Nat.one_mul]; exact hc.symm)
    omega
  · intro h
    have hg : Nat.gcd n.natAbs d.natAbs = 1 := by omega
    rw [hg, Nat.div_one] at e1 e3
    refine Rt.right ⟨h3, h4, h1, h2, ?_, by omega⟩
    by_cases hn : n < 0
    · rw [decide_eq_true hn, decide_eq_false (show ¬ d < 0 by omega)] at e3
      simp only [Bool.bne_false, if_true] at e3
      omega
    · rw [decide_eq_false hn, decide_eq_false (show ¬ d < 0 by omega)] at e3
      simp only [bne_self_eq_false, Bool.false_eq_true, if_false] at e3
      omega
theorem rright_tells {n d : Int} (hn : I64 n) (hd : I64 d) : Ev (fun k => marigraphref1_Right.f k n d) (rightQ n d) := by
  have jt : ∀ x y, Ev (fun k => marigraphref1_Right.j0 k true x y) false := fun x y => ⟨1, fun k hk => by
    obtain ⟨k, rfl⟩ : ∃ m, k = m + 1 := ⟨k - 1, by omega⟩
    simp only [marigraphref1_Right.j0, if_true]⟩
  have no : (¬ (1 ≤ d ∧ d ≤ 2147483647 ∧ -2147483647 ≤ n ∧ n ≤ 2147483647)) → rightQ n d = false := by
    intro h
    cases hr : rightQ n d with
    | false => rfl
    | true =>
      have := Rt.of_right hr
      exact absurd ⟨this.d1, this.d2, this.n1, this.n2⟩ h
  have un : ∀ k, marigraphref1_Right.f k n d = if d < 1 then (marigraphref1_Right.j0 k true n d) else (if d > 2147483647 then (marigraphref1_Right.j0 k true n d) else (if n < (-2147483647) then (marigraphref1_Right.j0 k true n d) else (marigraphref1_Right.j0 k (decide (n > 2147483647)) n d))) := fun k => rfl
  refine evEq un ?_
  by_cases h1 : d < 1
  · simp only [if_pos h1]
    rw [no (by omega)]
    exact jt _ _
  simp only [if_neg h1]
  by_cases h2 : d > 2147483647
  · simp only [if_pos h2]
    rw [no (by omega)]
    exact jt _ _
  simp only [if_neg h2]
  by_cases h3 : n < -2147483647
  · simp only [if_pos h3]
    rw [no (by omega)]
    exact jt _ _
  simp only [if_neg h3]
  by_cases h4 : n > 2147483647
  · rw [decide_eq_true h4, no (by omega)]
    exact jt _ _
  rw [decide_eq_false h4, rightQ_gcd (by omega) (by omega) (by omega) (by omega)]
  refine ⟨d.natAbs + 2, fun k hk => ?_⟩
  obtain ⟨k, rfl⟩ : ∃ m, k = m + 1 := ⟨k - 1, by omega⟩
  simp only [marigraphref1_Right.j0, Bool.false_eq_true, if_false]
  have ha : marigraphref1_abs.f n = some (n.natAbs : Int) := by
    unfold marigraphref1_abs.f
    by_cases hn0 : n < 0
    · rw [if_pos hn0, wrap64_id ⟨by omega, by omega⟩]
      congr 1
      omega
    · rw [if_neg hn0]
      congr 1
      omega
  rw [ha]
  simp only [Option.bind_some]
  unfold marigraphref1_gcd.f
  have := rgcd_tells d.natAbs n.natAbs k (by omega)
  rw [show ((d.natAbs : Nat) : Int) = d by omega] at this
  rw [this]
  simp only [Option.bind_some]
/-- What an operation tells of right numbers. -/
theorem rnew_end {f : Nat → Option (Int × Int × Int)} {n d : Int} {q : Int × Int × Int} (hn : I64 n) (hd : I64 d) (hq : newQ n d = q) (hf : ∀ k, f (k + 1) = (marigraphref1_New.f k n d).bind fun t => some (t.1, t.2.1, t.2.2)) : Ev f q := by
  refine Ev.step hf ?_
  have h := rnew_tells hn hd
  rw [hq] at h
  exact Ev.bind h (Ev.now _)
theorem rop_start {c n d m e : Int} {q : Int × Int × Int} (h : Rt n d) (k : Rt m e) (hj : Ev (fun K => marigraphref1_Op.j0 K c (if c = 47 then (m == 0) else false) n d m e) q) : Ev (fun K => marigraphref1_Op.f K c n d m e) q := by
  have r1 := rright_tells h.i64n h.i64d
  have r2 := rright_tells k.i64n k.i64d
  rw [h.right] at r1
  rw [k.right] at r2
  refine Ev.bind r1 ?_
  simp only [if_true]
  refine Ev.bind r2 ?_
  simp only [if_true]
  by_cases hc : c = 47
  · simp only [if_pos hc] at hj ⊢
    exact hj
  · simp only [if_neg hc] at hj ⊢
    exact hj
theorem rAdd_tells {n d m e : Int} (h : Rt n d) (k : Rt m e) : Ev (fun K => marigraphref1_Op.f K 43 n d m e) (Pure_ofQ (VQ n d + VQ m e)) := by
  have h1 := h.n1; have h2 := h.n2; have h3 := h.d1; have h4 := h.d2
  have k1 := k.n1; have k2 := k.n2; have k3 := k.d1; have k4 := k.d2
  have hd0 : d ≠ 0 := by omega
  have he0 : e ≠ 0 := by omega
  have p1 := mulM (x := n) (y := e) ⟨by omega, by omega⟩ ⟨by omega, by omega⟩
  have p2 := mulM (x := m) (y := d) ⟨by omega, by omega⟩ ⟨by omega, by omega⟩
  have p3 := mulM (x := d) (y := e) ⟨by omega, by omega⟩ ⟨by omega, by omega⟩
  have hde : d * e ≠ 0 := Int.mul_ne_zero hd0 he0
  refine rop_start h k (rnew_end (n := n * e + m * d) (d := d * e) ⟨by omega, by omega⟩ ⟨by omega, by omega⟩ ?_ fun K => ?_)
  · unfold newQ
    rw [if_neg hde]
    exact congrArg Pure_ofQ (Rat.divInt_add_divInt _ _ hd0 he0).symm
  · simp only [marigraphref1_Op.j0, if_neg (show ¬ (43 : Int) = 47 by decide), Bool.false_eq_true, if_false, if_true]
    rw [wrap64_id (x := d * e) ⟨by omega, by omega⟩]
    rw [wrap64_id (x := n * e) ⟨by omega, by omega⟩, wrap64_id (x := m * d) ⟨by omega, by omega⟩, wrap64_id (x := n * e + m * d) ⟨by omega, by omega⟩]
theorem rSub_tells {n d m e : Int} (h : Rt n d) (k : Rt m e) : Ev (fun K => marigraphref1_Op.f K 45 n d m e) (Pure_ofQ (VQ n d - VQ m e)) := by
  have h1 := h.n1; have h2 := h.n2; have h3 := h.d1; have h4 := h.d2
  have k1 := k.n1; have k2 := k.n2; have k3 := k.d1; have k4 := k.d2
  have hd0 : d ≠ 0 := by omega
  have he0 : e ≠ 0 := by omega
  have p1 := mulM (x := n) (y := e) ⟨by omega, by omega⟩ ⟨by omega, by omega⟩
  have p2 := mulM (x := m) (y := d) ⟨by omega, by omega⟩ ⟨by omega, by omega⟩
  have p3 := mulM (x := d) (y := e) ⟨by omega, by omega⟩ ⟨by omega, by omega⟩
  have hde : d * e ≠ 0 := Int.mul_ne_zero hd0 he0
  refine rop_start h k (rnew_end (n := n * e - m * d) (d := d * e) ⟨by omega, by omega⟩ ⟨by omega, by omega⟩ ?_ fun K => ?_)
  · unfold newQ
    rw [if_neg hde]
    exact congrArg Pure_ofQ (Rat.divInt_sub_divInt _ _ hd0 he0).symm
  · simp only [marigraphref1_Op.j0, if_neg (show ¬ (45 : Int) = 47 by decide), if_neg (show ¬ (45 : Int) = 43 by decide), Bool.false_eq_true, if_false, if_true]
    rw [wrap64_id (x := d * e) ⟨by omega, by omega⟩]
    rw [wrap64_id (x := n * e) ⟨by omega, by omega⟩, wrap64_id (x := m * d) ⟨by omega, by omega⟩, wrap64_id (x := n * e - m * d) ⟨by omega, by omega⟩]
theorem rDiv_tells {n d m e : Int} (h : Rt n d) (k : Rt m e) : Ev (fun K => marigraphref1_Op.f K 47 n d m e) (newQ (n * e) (d * m)) := by
  have h1 := h.n1; have h2 := h.n2; have h3 := h.d1; have h4 := h.d2
  have k1 := k.n1; have k2 := k.n2; have k3 := k.d1; have k4 := k.d2
  have hd0 : d ≠ 0 := by omega
  have p1 := mulM (x := n) (y := e) ⟨by omega, by omega⟩ ⟨by omega, by omega⟩
  have p2 := mulM (x := d) (y := m) ⟨by omega, by omega⟩ ⟨by omega, by omega⟩
  refine rop_start h k ?_
  simp only [if_true]
  by_cases hm : m = 0
  · subst hm
    refine ⟨1, fun K hK => ?_⟩
    obtain ⟨K, rfl⟩ : ∃ z, K = z + 1 := ⟨K - 1, by omega⟩
    simp only [marigraphref1_Op.j0, beq_self_eq_true, if_true]
    unfold newQ
    rw [if_pos (by simp)]
  · rw [show (m == 0) = false by simpa using hm]
    refine rnew_end (n := n * e) (d := d * m) ⟨by omega, by omega⟩ ⟨by omega, by omega⟩ rfl fun K => ?_
    simp only [marigraphref1_Op.j0, if_neg (show ¬ (47 : Int) = 43 by decide), if_neg (show ¬ (47 : Int) = 45 by decide), if_neg (show ¬ (47 : Int) = 42 by decide), Bool.false_eq_true, if_false]
    rw [wrap64_id (x := n * e) ⟨by omega, by omega⟩, wrap64_id (x := d * m) ⟨by omega, by omega⟩]
theorem rcmp_tells {n d m e : Int} (h : Rt n d) (k : Rt m e) : Ev (fun K => marigraphref1_Cmp.f K n d m e) (cmpQ (VQ n d) (VQ m e)) := by
  have r1 := rright_tells h.i64n h.i64d
  have r2 := rright_tells k.i64n k.i64d
  rw [h.right] at r1
  rw [k.right] at r2
  refine Ev.bind r1 (Ev.bind r2 ?_)
  simp only [if_true]
  refine ⟨1, fun K hK => ?_⟩
  obtain ⟨K, rfl⟩ : ∃ m, K = m + 1 := ⟨K - 1, by omega⟩
  simp only [marigraphref1_Cmp.j0, Bool.false_eq_true, if_false, if_true]
  have h1 := h.n1; have h2 := h.n2; have h3 := h.d1; have h4 := h.d2
  have k1 := k.n1; have k2 := k.n2; have k3 := k.d1; have k4 := k.d2
  rw [prodw (x := n) (y := e) ⟨by omega, by omega⟩ ⟨by omega, by omega⟩, prodw (x := m) (y := d) ⟨by omega, by omega⟩ ⟨by omega, by omega⟩]
  unfold cmpQ
  by_cases hlt : n * e < m * d
  · rw [if_pos hlt, if_pos ((ratlt h k).1 hlt)]
  · rw [if_neg hlt, if_neg (fun hh => hlt ((ratlt h k).2 hh))]
    by_cases hgt : n * e > m * d
    · rw [if_pos hgt]
      have := (ratlt k h).1 hgt
      rw [if_neg (fun he => by rw [he] at this; exact absurd this (Rat.lt_irrefl))]
    · rw [if_neg hgt]
      have h5 : ¬ VQ m e < VQ n d := fun hh => hgt ((ratlt k h).2 hh)
      have h6 : ¬ VQ n d < VQ m e := fun hh => hlt ((ratlt h k).2 hh)
      rw [if_pos (Rat.le_antisymm (Rat.not_lt.1 h5) (Rat.not_lt.1 h6))]
/-! ### any samples: Right, told by both -/
theorem evDown {α : Type} {g : Nat → Option α} {r : α} (h : Ev (fun k => g (k + 1)) r) : Ev g r := let ⟨K, hK⟩ := h; ⟨K + 1, fun k hk => by
  obtain ⟨m, rfl⟩ : ∃ m, k = m + 1 := ⟨k - 1, by omega⟩
  exact hK m (by omega)⟩
/-- rd_at, not by definition (a rewriting by definition leaves an if's instance as it was). -/
theorem rd_atN (l : List S26) (j : Nat) : rd_T26 l (j : Int) = at_ l j := by cases l <;> rfl
def NumL (l : List S26) : Prop := ∀ j : Nat, j < l.length → I64 (at_ l j).f0 ∧ I64 (at_ l j).f1.f0 ∧ I64 (at_ l j).f1.f1
def goodFrom (l : List S26) : Nat → Nat → Bool
  | 0, _ => true
  | n + 1, j => if (at_ l j).f0 < 0 then false else if (at_ l j).f0 > 4294967295 then false else if rightQ (at_ l j).f1.f0 (at_ l j).f1.f1 = true then (if 0 < j then (if (at_ l (j - 1)).f0 ≥ (at_ l j).f0 then false else goodFrom l n (j + 1)) else goodFrom l n (j + 1)) else false
theorem down_right_all (l : List S26) (hI : NumL l) (hn : l.length < 4611686014132420609) : ∀ n j : Nat, l.length - j = n → Ev (fun k => down_Right.l0 k l l (l.length : Int) (j : Int)) (goodFrom l n j) := by
  intro n
  induction n with
  | zero =>
    intro j hj
    refine evDown ?_
    simp only [down_Right.l0, if_neg (show ¬ (j : Int) < (l.length : Int) by omega)]
    exact Ev.now _
  | succ n ih =>
    intro j hj
    have hlt : j < l.length := by omega
    obtain ⟨i0, i1, i2⟩ := hI j hlt
    refine evDown ?_
    simp only [down_Right.l0, if_pos (show (j : Int) < (l.length : Int) by omega), if_pos (show 0 ≤ (j : Int) by omega), rd_atN]
    unfold goodFrom
    by_cases h0 : (at_ l j).f0 < 0
    · simp only [if_pos h0]; exact Ev.now _
    simp only [if_neg h0]
    by_cases h1 : (at_ l j).f0 > 4294967295
    · simp only [if_pos h1]; exact Ev.now _
    simp only [if_neg h1]
    refine Ev.bind (right_tells i1 i2) ?_
    by_cases h2 : rightQ (at_ l j).f1.f0 (at_ l j).f1.f1 = true
    · simp only [if_pos h2, wrap_succ hlt hn]
      by_cases h3 : 0 < j
      · simp only [wrap_pred hlt hn h3, rd_atN, if_pos h3, if_pos (show (j : Int) > 0 by omega), if_pos (show 0 ≤ ((j - 1 : Nat) : Int) by omega), if_pos (show ((j - 1 : Nat) : Int) < (l.length : Int) by omega)]
        by_cases h4 : (at_ l (j - 1)).f0 ≥ (at_ l j).f0
        · simp only [if_pos h4]; exact Ev.now _
        · simp only [if_neg h4]; exact ih (j + 1) (by omega)
      · simp only [if_neg h3, if_neg (show ¬ (j : Int) > 0 by omega)]
        exact ih (j + 1) (by omega)
    · simp only [if_neg h2]; exact Ev.now _
theorem ref_right_all (l : List S26) (hI : NumL l) (hn : l.length < 4611686014132420609) : ∀ n j : Nat, l.length - j = n → Ev (fun k => marigraphref21_Right.l0 k l (j : Int)) (goodFrom l n j) := by
  intro n
  induction n with
  | zero =>
    intro j hj
    refine evDown ?_
    simp only [marigraphref21_Right.l0, if_neg (show ¬ (j : Int) < (l.length : Int) by omega)]
    exact Ev.now _
  | succ n ih =>
    intro j hj
    have hlt : j < l.length := by omega
    obtain ⟨i0, i1, i2⟩ := hI j hlt
    refine evDown ?_
    simp only [marigraphref21_Right.l0, if_pos (show (j : Int) < (l.length : Int) by omega), if_pos (show 0 ≤ (j : Int) by omega), rd_atN]
    unfold goodFrom
    by_cases h0 : (at_ l j).f0 < 0
    · simp only [if_pos h0]; exact Ev.now _
    simp only [if_neg h0]
    by_cases h1 : (at_ l j).f0 > 4294967295
    · simp only [if_pos h1]; exact Ev.now _
    simp only [if_neg h1]
    refine Ev.bind (rright_tells i1 i2) ?_
    by_cases h2 : rightQ (at_ l j).f1.f0 (at_ l j).f1.f1 = true
    · simp only [if_pos h2, wrap_succ hlt hn]
      by_cases h3 : 0 < j
      · simp only [wrap_pred hlt hn h3, rd_atN, if_pos h3, if_pos (show (j : Int) > 0 by omega), if_pos (show 0 ≤ ((j - 1 : Nat) : Int) by omega), if_pos (show ((j - 1 : Nat) : Int) < (l.length : Int) by omega)]
        by_cases h4 : (at_ l (j - 1)).f0 ≥ (at_ l j).f0
        · simp only [if_pos h4]; exact Ev.now _
        · simp only [if_neg h4]; exact ih (j + 1) (by omega)
      · simp only [if_neg h3, if_neg (show ¬ (j : Int) > 0 by omega)]
        exact ih (j + 1) (by omega)
    · simp only [if_neg h2]; exact Ev.now _
theorem good_of (l : List S26) : ∀ n j : Nat, l.length - j = n → goodFrom l n j = true → ∀ i, j ≤ i → i < l.length → 0 ≤ (at_ l i).f0 ∧ (at_ l i).f0 ≤ 4294967295 ∧ Rt (at_ l i).f1.f0 (at_ l i).f1.f1 ∧ (0 < i → (at_ l (i - 1)).f0 < (at_ l i).f0) := by
  intro n
  induction n with
  | zero => intro j hj _ i h1 h2; omega
  | succ n ih =>
    intro j hj hg i h1 h2
    unfold goodFrom at hg
    by_cases h0 : (at_ l j).f0 < 0
    · rw [if_pos h0] at hg; cases hg
    rw [if_neg h0] at hg
    by_cases h3 : (at_ l j).f0 > 4294967295
    · rw [if_pos h3] at hg; cases hg
    rw [if_neg h3] at hg
    by_cases h4 : rightQ (at_ l j).f1.f0 (at_ l j).f1.f1 = true
    · rw [if_pos h4] at hg
      by_cases h5 : 0 < j
      · rw [if_pos h5] at hg
        by_cases h6 : (at_ l (j - 1)).f0 ≥ (at_ l j).f0
        · rw [if_pos h6] at hg; cases hg
        rw [if_neg h6] at hg
        by_cases hij : i = j
        · subst hij
          exact ⟨by omega, by omega, Rt.of_right h4, fun _ => by omega⟩
        · exact ih (j + 1) (by omega) hg i (by omega) h2
      · rw [if_neg h5] at hg
        by_cases hij : i = j
        · subst hij
          exact ⟨by omega, by omega, Rt.of_right h4, fun h => absurd h h5⟩
        · exact ih (j + 1) (by omega) hg i (by omega) h2
    · rw [if_neg h4] at hg; cases hg
theorem good_all {l : List S26} (h : goodFrom l l.length 0 = true) : GoodL l := fun j hj => good_of l l.length 0 rfl h j (Nat.zero_le _) hj
/-! ### rate.Do beside the document's -/
def vlx (x : S26) : Rat := VQ x.f1.f0 x.f1.f1
/-- The change of two samples, as far as it is told. -/
def chX (c : Bool) (m : Int) (x y : S26) : Int × Int × Int :=
  if c = true ∧ vlx y < vlx x then (if (Pure_ofQ (VQ m 1 - vlx x)).2.2 = 0 then Pure_ofQ (VQ (Pure_ofQ (VQ m 1 - vlx x)).1 (Pure_ofQ (VQ m 1 - vlx x)).2.1 + vlx y) else (0, 0, (Pure_ofQ (VQ m 1 - vlx x)).2.2)) else Pure_ofQ (vlx y - vlx x)
theorem ofQ_eta {q : Rat} (h : (Pure_ofQ q).2.2 = 0) : Rt (Pure_ofQ q).1 (Pure_ofQ q).2.1 := (Rt.ofQ (q := q) (n := (Pure_ofQ q).1) (d := (Pure_ofQ q).2.1) (by rw [← h])).1
theorem cmpQ_neg (a b : Rat) : cmpQ a b ≥ 0 ↔ ¬ a < b := by
  unfold cmpQ
  by_cases h : a < b
  · rw [if_pos h]; simp [h]
  · rw [if_neg h]; by_cases h2 : a = b <;> simp [h, h2]
theorem chX_rt {c : Bool} {m : Int} {x y : S26} (h : (chX c m x y).2.2 = 0) : Rt (chX c m x y).1 (chX c m x y).2.1 := by
  unfold chX at h ⊢
  by_cases h1 : c = true ∧ vlx y < vlx x
  · rw [if_pos h1] at h ⊢
    by_cases h2 : (Pure_ofQ (VQ m 1 - vlx x)).2.2 = 0
    · rw [if_pos h2] at h ⊢
      exact ofQ_eta h
    · rw [if_neg h2] at h
      exact absurd h h2
  · rw [if_neg h1] at h ⊢
    exact ofQ_eta h
theorem change_any {x y : S26} (hx : Rt x.f1.f0 x.f1.f1) (hy : Rt y.f1.f0 y.f1.f1) (c : Bool) {m : Int} (hm : c = true → 1 ≤ m ∧ m ≤ 2147483647) :
    Ev (fun K => rate_change.f K x.f0 x.f1.f0 x.f1.f1 y.f0 y.f1.f0 y.f1.f1 c m) (chX c m x y) := by
  have hsub : ¬ (c = true ∧ vlx y < vlx x) → Ev (fun K => rate_change.j0 K m true x.f0 x.f1.f0 x.f1.f1 y.f0 y.f1.f0 y.f1.f1) (chX c m x y) := by
    intro hn
    unfold chX
    rw [if_neg hn]
    refine evDown ?_
    simp only [rate_change.j0, if_true]
    exact Ev.bind (Sub_tells hy hx) (Ev.now _)
  unfold rate_change.f
  cases c with
  | false =>
    simp only [Bool.false_eq_true, if_false]
    exact hsub (fun h => by cases h.1)
  | true =>
    obtain ⟨m1, m2⟩ := hm rfl
    simp only [if_true]
    refine Ev.bind (cmp_tells hy hx) ?_
    by_cases hlt : vlx y < vlx x
    · have hd : decide (cmpQ (VQ y.f1.f0 y.f1.f1) (VQ x.f1.f0 x.f1.f1) ≥ 0) = false := decide_eq_false (fun h => (cmpQ_neg _ _).1 h hlt)
      simp only [hd]
      have r1 := rt_one (n := m) (by omega) (by omega)
      unfold chX
      rw [if_pos ⟨rfl, hlt⟩]
      refine evDown ?_
      simp only [rate_change.j0, Bool.false_eq_true, if_false]
      refine Ev.bind (of_tells (by omega) (by omega)) ?_
      simp only [if_true]
      refine Ev.bind (Sub_tells r1 hx) ?_
      show Ev _ (if (Pure_ofQ (VQ m 1 - VQ x.f1.f0 x.f1.f1)).2.2 = 0 then _ else _)
      by_cases h2 : (Pure_ofQ (VQ m 1 - VQ x.f1.f0 x.f1.f1)).2.2 = 0
      · rw [if_pos h2]
        simp only [if_pos h2]
        exact Ev.bind (Add_tells (ofQ_eta h2) hy) (Ev.now _)
      · rw [if_neg h2]
        simp only [if_neg h2]
        exact Ev.now _
    · have hd : decide (cmpQ (VQ y.f1.f0 y.f1.f1) (VQ x.f1.f0 x.f1.f1) ≥ 0) = true := decide_eq_true ((cmpQ_neg _ _).2 hlt)
      simp only [hd]
      exact hsub (fun h => hlt h.2)
/-- One round: the change by seconds. -/
def rdX (c : Bool) (m : Int) (x y : S26) : Int × Int × Int :=
  if (chX c m x y).2.2 = 0 then (if (newQ (y.f0 - x.f0) 1).2.2 = 0 then newQ ((chX c m x y).1 * (newQ (y.f0 - x.f0) 1).2.1) ((chX c m x y).2.1 * (newQ (y.f0 - x.f0) 1).1) else (0, 0, (newQ (y.f0 - x.f0) 1).2.2)) else (0, 0, (chX c m x y).2.2)
def doX (c : Bool) (m : Int) (l : List S26) : Nat → Nat → List S26 → List S26 × Int
  | 0, _, acc => (acc, 0)
  | n + 1, i, acc => if (rdX c m (at_ l (i - 1)) (at_ l i)).2.2 = 0 then doX c m l n (i + 1) (acc ++ [⟨(at_ l i).f0, ⟨(rdX c m (at_ l (i - 1)) (at_ l i)).1, (rdX c m (at_ l (i - 1)) (at_ l i)).2.1⟩⟩]) else ([], (rdX c m (at_ l (i - 1)) (at_ l i)).2.2)
theorem newQ_rt {n d : Int} (h : (newQ n d).2.2 = 0) : Rt (newQ n d).1 (newQ n d).2.1 := by
  unfold newQ at h ⊢
  by_cases h0 : d = 0
  · rw [if_pos h0] at h; cases h
  · rw [if_neg h0] at h ⊢
    exact ofQ_eta h
theorem of_any {n : Int} (h : I64 n) : Ev (fun k => rat_Of.f k n) (newQ n 1) := Ev.bind (new_tells h ⟨by decide, by decide⟩) (Ev.now _)
theorem do_any (c : Bool) {m : Int} (hm : c = true → 1 ≤ m ∧ m ≤ 2147483647) {l : List S26} (h : GoodL l) (hn : l.length < 5864062014805) : ∀ (n i : Nat) (acc : List S26), 1 ≤ i → l.length - i = n → acc.length + 1 ≤ i →
    Ev (fun K => rate_Do.l0 K l c m acc (i : Int)) (doX c m l n i acc) := by
  intro n
  induction n with
  | zero =>
    intro i acc hi hni ha
    refine evDown ?_
    simp only [rate_Do.l0, if_neg (show ¬ (i : Int) < (l.length : Int) by omega)]
    exact Ev.now _
  | succ n ih =>
    intro i acc hi hni ha
    have hlt : i < l.length := by omega
    obtain ⟨g0, g1, g2, g3⟩ := h i hlt
    obtain ⟨p0, p1, p2, _⟩ := h (i - 1) (by omega)
    have g4 := g3 (by omega)
    have hd : wrap64 ((at_ l i).f0 - (at_ l (i - 1)).f0) = (at_ l i).f0 - (at_ l (i - 1)).f0 := wrap64_id ⟨by omega, by omega⟩
    refine evDown ?_
    simp only [rate_Do.l0, if_pos (show (i : Int) < (l.length : Int) by omega), wrap_pred hlt (by omega) hi, wrap_succ hlt (by omega), rd_atN, hd, if_pos (show 0 ≤ ((i - 1 : Nat) : Int) by omega), if_pos (show ((i - 1 : Nat) : Int) < (l.length : Int) by omega), if_pos (show 0 ≤ (i : Int) by omega)]
    refine Ev.bind (change_any p2 g2 c hm) ?_
    unfold doX rdX
    by_cases h1 : (chX c m (at_ l (i - 1)) (at_ l i)).2.2 = 0
    · simp only [if_pos h1]
      refine Ev.bind (of_any ⟨by omega, by omega⟩) ?_
      by_cases h2 : (newQ ((at_ l i).f0 - (at_ l (i - 1)).f0) 1).2.2 = 0
      · simp only [if_pos h2]
        refine Ev.bind (Div_tells (chX_rt h1) (newQ_rt h2)) ?_
        generalize newQ ((chX c m (at_ l (i - 1)) (at_ l i)).1 * (newQ ((at_ l i).f0 - (at_ l (i - 1)).f0) 1).2.1) ((chX c m (at_ l (i - 1)) (at_ l i)).2.1 * (newQ ((at_ l i).f0 - (at_ l (i - 1)).f0) 1).1) = q
        by_cases h3 : q.2.2 = 0
        · simp only [if_pos h3, if_pos (show acc.length < 5864062014805 by omega)]
          exact ih (i + 1) _ (by omega) (by omega) (by rw [List.length_append, List.length_singleton]; omega)
        · simp only [if_neg h3]; exact Ev.now _
      · simp only [if_neg h2]; exact Ev.now _
    · simp only [if_neg h1]; exact Ev.now _
theorem ref_j3 (c : Bool) {m : Int} {l : List S26} (i : Nat) (acc : List S26) {x y : S26} {q r' : Int × Int × Int} {r : List S26 × Int} (hd : wrap64 (y.f0 - x.f0) = y.f0 - x.f0) (hi : I64 (y.f0 - x.f0)) (hs : wrap64 ((i : Int) + 1) = ((i + 1 : Nat) : Int)) (hq : q.2.2 = 0 → Rt q.1 q.2.1) (ha : acc.length < 5864062014805)
    (hr : (if q.2.2 = 0 then (if (newQ (y.f0 - x.f0) 1).2.2 = 0 then (newQ (q.1 * (newQ (y.f0 - x.f0) 1).2.1) (q.2.1 * (newQ (y.f0 - x.f0) 1).1)) else (0, 0, (newQ (y.f0 - x.f0) 1).2.2)) else (0, 0, q.2.2)) = r' )
    (h0 : r'.2.2 = 0 → Ev (fun K => marigraphref21_Rate.l0 K l c m (acc ++ [⟨y.f0, ⟨r'.1, r'.2.1⟩⟩]) ((i + 1 : Nat) : Int)) r) (h1 : r'.2.2 ≠ 0 → r = ([], r'.2.2)) :
    Ev (fun K => marigraphref21_Rate.j3 K l c m acc (i : Int) q.2.2 x.f0 x.f1.f0 x.f1.f1 y.f0 y.f1.f0 y.f1.f1 q.1 q.2.1) r := by
  refine evDown ?_
  simp only [marigraphref21_Rate.j3, hd, hs]
  by_cases e1 : q.2.2 = 0
  · rw [if_pos e1] at hr
    simp only [if_pos e1]
    refine Ev.bind (rnew_tells hi ⟨by decide, by decide⟩) ?_
    by_cases e2 : (newQ (y.f0 - x.f0) 1).2.2 = 0
    · rw [if_pos e2] at hr
      simp only [if_pos e2]
      refine Ev.bind (rDiv_tells (hq e1) (newQ_rt e2)) ?_
      simp only [hr]
      by_cases e3 : r'.2.2 = 0
      · simp only [if_pos e3, if_pos ha]; exact h0 e3
      · simp only [if_neg e3]; rw [h1 e3]; exact Ev.now _
    · rw [if_neg e2] at hr
      subst hr
      simp only [if_neg e2]
      rw [h1 e2]; exact Ev.now _
  · rw [if_neg e1] at hr
    subst hr
    simp only [if_neg e1]
    rw [h1 e1]; exact Ev.now _
theorem ref_any (c : Bool) {m : Int} (hm : c = true → 1 ≤ m ∧ m ≤ 2147483647) {l : List S26} (h : GoodL l) (hn : l.length < 5864062014805) : ∀ (n i : Nat) (acc : List S26), 1 ≤ i → l.length - i = n → acc.length + 1 ≤ i →
    Ev (fun K => marigraphref21_Rate.l0 K l c m acc (i : Int)) (doX c m l n i acc) := by
  intro n
  induction n with
  | zero =>
    intro i acc hi hni ha
    refine evDown ?_
    simp only [marigraphref21_Rate.l0, if_neg (show ¬ (i : Int) < (l.length : Int) by omega)]
    exact Ev.now _
  | succ n ih =>
    intro i acc hi hni ha
    have hlt : i < l.length := by omega
    obtain ⟨g0, g1, g2, g3⟩ := h i hlt
    obtain ⟨p0, p1, p2, _⟩ := h (i - 1) (by omega)
    have g4 := g3 (by omega)
    have hd : wrap64 ((at_ l i).f0 - (at_ l (i - 1)).f0) = (at_ l i).f0 - (at_ l (i - 1)).f0 := wrap64_id ⟨by omega, by omega⟩
    have hs := wrap_succ hlt (show l.length < 4611686014132420609 by omega)
    refine evDown ?_
    simp only [marigraphref21_Rate.l0, if_pos (show (i : Int) < (l.length : Int) by omega), wrap_pred hlt (show l.length < 4611686014132420609 by omega) hi, rd_atN, if_pos (show 0 ≤ ((i - 1 : Nat) : Int) by omega), if_pos (show ((i - 1 : Nat) : Int) < (l.length : Int) by omega), if_pos (show 0 ≤ (i : Int) by omega)]
    refine Ev.bind (rSub_tells g2 p2) ?_
    have fin : ∀ q : Int × Int × Int, (q.2.2 = (chX c m (at_ l (i - 1)) (at_ l i)).2.2) → (q.2.2 = 0 → q = chX c m (at_ l (i - 1)) (at_ l i)) → Ev (fun K => marigraphref21_Rate.j3 K l c m acc (i : Int) q.2.2 (at_ l (i - 1)).f0 (at_ l (i - 1)).f1.f0 (at_ l (i - 1)).f1.f1 (at_ l i).f0 (at_ l i).f1.f0 (at_ l i).f1.f1 q.1 q.2.1) (doX c m l (n + 1) i acc) := by
      intro q hq0 hq1
      refine ref_j3 (r' := rdX c m (at_ l (i - 1)) (at_ l i)) c i acc hd ⟨by omega, by omega⟩ hs (fun e => ?_) (by omega) ?_ (fun e => ?_) (fun e => ?_)
      · rw [hq1 e]; rw [hq1 e] at e; exact chX_rt e
      · unfold rdX
        rw [← hq0]
        by_cases e : q.2.2 = 0
        · rw [if_pos e, if_pos e, ← hq1 e]
        · rw [if_neg e, if_neg e]
      · unfold doX
        rw [if_pos e]
        exact ih (i + 1) _ (by omega) (by omega) (by rw [List.length_append, List.length_singleton]; omega)
      · unfold doX
        rw [if_neg e]
    have plain : ¬ (c = true ∧ vlx (at_ l i) < vlx (at_ l (i - 1))) → chX c m (at_ l (i - 1)) (at_ l i) = Pure_ofQ (VQ (at_ l i).f1.f0 (at_ l i).f1.f1 - VQ (at_ l (i - 1)).f1.f0 (at_ l (i - 1)).f1.f1) := fun hn => by unfold chX; rw [if_neg hn]; rfl
    cases c with
    | false =>
      simp only [Bool.false_eq_true, if_false]
      refine evDown ?_
      simp only [marigraphref21_Rate.j2, Bool.false_eq_true, if_false]
      have hp := plain (fun hh => by cases hh.1)
      exact fin _ (by rw [hp]) (fun _ => hp.symm)
    | true =>
      obtain ⟨m1, m2⟩ := hm rfl
      simp only [if_true]
      refine Ev.bind (rcmp_tells g2 p2) ?_
      by_cases hlt2 : vlx (at_ l i) < vlx (at_ l (i - 1))
      · have hd2 : decide (cmpQ (VQ (at_ l i).f1.f0 (at_ l i).f1.f1) (VQ (at_ l (i - 1)).f1.f0 (at_ l (i - 1)).f1.f1) < 0) = true := decide_eq_true (by have := mt (cmpQ_neg (VQ (at_ l i).f1.f0 (at_ l i).f1.f1) (VQ (at_ l (i - 1)).f1.f0 (at_ l (i - 1)).f1.f1)).1 (fun hh => hh hlt2); omega)
        simp only [hd2]
        refine evDown ?_
        simp only [marigraphref21_Rate.j2, if_true]
        have r1 := rt_one (n := m) (by omega) (by omega)
        refine Ev.bind (rSub_tells r1 p2) ?_
        by_cases h2 : (Pure_ofQ (VQ m 1 - VQ (at_ l (i - 1)).f1.f0 (at_ l (i - 1)).f1.f1)).2.2 = 0
        · simp only [if_pos h2]
          refine Ev.bind (rAdd_tells (ofQ_eta h2) g2) ?_
          have he : chX true m (at_ l (i - 1)) (at_ l i) = Pure_ofQ (VQ (Pure_ofQ (VQ m 1 - VQ (at_ l (i - 1)).f1.f0 (at_ l (i - 1)).f1.f1)).1 (Pure_ofQ (VQ m 1 - VQ (at_ l (i - 1)).f1.f0 (at_ l (i - 1)).f1.f1)).2.1 + VQ (at_ l i).f1.f0 (at_ l i).f1.f1) := by
            unfold chX
            rw [if_pos ⟨rfl, hlt2⟩]
            exact if_pos h2
          exact fin _ (by rw [he]) (fun _ => he.symm)
        · simp only [if_neg h2]
          have he : chX true m (at_ l (i - 1)) (at_ l i) = (0, 0, (Pure_ofQ (VQ m 1 - VQ (at_ l (i - 1)).f1.f0 (at_ l (i - 1)).f1.f1)).2.2) := by
            unfold chX
            rw [if_pos ⟨rfl, hlt2⟩]
            exact if_neg h2
          exact fin _ (by rw [he]) (fun e => absurd e h2)
      · have hd2 : decide (cmpQ (VQ (at_ l i).f1.f0 (at_ l i).f1.f1) (VQ (at_ l (i - 1)).f1.f0 (at_ l (i - 1)).f1.f1) < 0) = false := decide_eq_false (by have := (cmpQ_neg (VQ (at_ l i).f1.f0 (at_ l i).f1.f1) (VQ (at_ l (i - 1)).f1.f0 (at_ l (i - 1)).f1.f1)).2 hlt2; omega)
        simp only [hd2]
        refine evDown ?_
        simp only [marigraphref21_Rate.j2, Bool.false_eq_true, if_false]
        have hp := plain (fun hh => hlt2 hh.2)
        exact fin _ (by rw [hp]) (fun _ => hp.symm)
theorem doX_len (c : Bool) (m : Int) (l : List S26) : ∀ (n i : Nat) (acc : List S26), (doX c m l n i acc).1.length ≤ acc.length + n := by
  intro n
  induction n with
  | zero => intro i acc; exact Nat.le_refl _
  | succ n ih =>
    intro i acc
    unfold doX
    by_cases h : (rdX c m (at_ l (i - 1)) (at_ l i)).2.2 = 0
    · rw [if_pos h]
      have := ih (i + 1) (acc ++ [⟨(at_ l i).f0, ⟨(rdX c m (at_ l (i - 1)) (at_ l i)).1, (rdX c m (at_ l (i - 1)) (at_ l i)).2.1⟩⟩])
      rw [List.length_append, List.length_singleton] at this
      omega
    · rw [if_neg h]; exact Nat.zero_le _
theorem same_self (a : List S26) (hn : a.length < 4611686014132420609) : Ev (fun k => marigraphref21_Same.f k a a) true := by
  have loop : ∀ n i : Nat, a.length - i = n → Ev (fun k => marigraphref21_Same.l0 k a a (i : Int)) true := by
    intro n
    induction n with
    | zero =>
      intro i hi
      refine evDown ?_
      simp only [marigraphref21_Same.l0, if_neg (show ¬ (i : Int) < (a.length : Int) by omega)]
      exact Ev.now _
    | succ n ih =>
      intro i hi
      refine evDown ?_
      simp only [marigraphref21_Same.l0, if_pos (show (i : Int) < (a.length : Int) by omega), if_pos (show 0 ≤ (i : Int) by omega), wrap_succ (show i < a.length by omega) hn, beq_self_eq_true, Bool.not_true, Bool.or_false, Bool.false_eq_true, if_false]
      exact ih (i + 1) (by omega)
  unfold marigraphref21_Same.f
  simp only [if_true]
  exact loop _ 0 rfl
theorem rate_same {l : List S26} (hI : NumL l) (hn : l.length < 5864062014805) (c : Bool) (m : Int) : Ev (fun k => marigraphlaw24_same.f k l c m) true := by
  have hd := down_right_all l hI (by omega) l.length 0 rfl
  have hr := ref_right_all l hI (by omega) l.length 0 rfl
  have key : ∃ r : List S26 × Int, r.1.length < 4611686014132420609 ∧ Ev (fun k => rate_Do.f k l c m) r ∧ Ev (fun k => marigraphref21_Rate.f k l c m) r := by
    have bad : Ev (fun k => rate_Do.j0 k l c m true) ([], 1) ∧ Ev (fun k => marigraphref21_Rate.j0 k l c m true) ([], 1) := by
      constructor
      · refine evDown ?_
        simp only [rate_Do.j0, if_true]
        exact Ev.now _
      · refine evDown ?_
        simp only [marigraphref21_Rate.j0, if_true]
        exact Ev.now _
    by_cases hg : goodFrom l l.length 0 = true
    · have gl := good_all hg
      rw [hg] at hd hr
      have good : (c = true → 1 ≤ m ∧ m ≤ 2147483647) → Ev (fun k => rate_Do.j0 k l c m false) (doX c m l (l.length - 1) 1 []) ∧ Ev (fun k => marigraphref21_Rate.j0 k l c m false) (doX c m l (l.length - 1) 1 []) := by
        intro hm
        constructor
        · refine evDown ?_
          simp only [rate_Do.j0, Bool.false_eq_true, if_false]
          exact do_any c hm gl hn _ 1 [] (Nat.le_refl _) rfl (by simp)
        · refine evDown ?_
          simp only [marigraphref21_Rate.j0, Bool.false_eq_true, if_false]
          exact ref_any c hm gl hn _ 1 [] (Nat.le_refl _) rfl (by simp)
      have hlen := doX_len c m l (l.length - 1) 1 []
      cases c with
      | false =>
        obtain ⟨e1, e2⟩ := good (fun h => by cases h)
        refine ⟨doX false m l (l.length - 1) 1 [], ?_, Ev.bind hd ?_, Ev.bind hr ?_⟩
        rotate_left
        · simp only [if_true, Bool.false_eq_true, if_false]; exact e1
        · simp only [if_true, Bool.false_eq_true, if_false]; exact e2
        · simp only [List.length_nil] at hlen; omega
      | true =>
        by_cases m1 : m < 1
        · refine ⟨([], 1), by simp, Ev.bind hd ?_, Ev.bind hr ?_⟩
          · simp only [if_true, if_pos m1]; exact bad.1
          · simp only [if_true, if_pos m1]; exact bad.2
        · by_cases m2 : m > 2147483647
          · refine ⟨([], 1), by simp, Ev.bind hd ?_, Ev.bind hr ?_⟩
            · simp only [if_true, if_neg m1, decide_eq_true m2]; exact bad.1
            · simp only [if_true, if_neg m1, decide_eq_true m2]; exact bad.2
          · obtain ⟨e1, e2⟩ := good (fun _ => ⟨by omega, by omega⟩)
            refine ⟨doX true m l (l.length - 1) 1 [], ?_, Ev.bind hd ?_, Ev.bind hr ?_⟩
            rotate_left
            · simp only [if_true, if_neg m1, decide_eq_false m2]; exact e1
            · simp only [if_true, if_neg m1, decide_eq_false m2]; exact e2
            · simp only [List.length_nil] at hlen; omega
    · have hg' : goodFrom l l.length 0 = false := by simpa using hg
      rw [hg'] at hd hr
      refine ⟨([], 1), by simp, Ev.bind hd ?_, Ev.bind hr ?_⟩
      · simp only [Bool.false_eq_true, if_false]; exact bad.1
      · simp only [Bool.false_eq_true, if_false]; exact bad.2
  obtain ⟨r, hlr, e1, e2⟩ := key
  refine Ev.bind e1 (Ev.bind e2 ?_)
  simp only [if_true]
  exact Ev.bind (same_self r.1 hlr) (Ev.now _)
structure Ok (x : S26) : Prop where
  rt : Rt x.f1.f0 x.f1.f1
  lo : -60 ≤ x.f1.f0
  hi : x.f1.f0 ≤ 60
  dd : x.f1.f1 ≤ 12
structure Smp (l : List S26) : Prop where
  len : l.length ≤ 20
  ok : ∀ j : Nat, j < l.length → Ok (at_ l j)
  t0 : ∀ j : Nat, j < l.length → 0 ≤ (at_ l j).f0 ∧ (at_ l j).f0 ≤ 40 * j
  up : ∀ j : Nat, j < l.length → 0 < j → (at_ l (j - 1)).f0 < (at_ l j).f0
theorem Smp.good {l : List S26} (h : Smp l) : GoodL l := fun j hj => ⟨(h.t0 j hj).1, by have := (h.t0 j hj).2; have := h.len; omega, (h.ok j hj).rt, h.up j hj⟩
theorem at_left {l : List S26} {x : S26} {j : Nat} (h : j < l.length) : at_ (l ++ [x]) j = at_ l j := by
  unfold at_; rw [List.getD_eq_getElem?_getD, List.getD_eq_getElem?_getD, List.getElem?_append_left h]
theorem at_last {l : List S26} {x : S26} : at_ (l ++ [x]) l.length = x := by
  unfold at_; rw [List.getD_eq_getElem?_getD, List.getElem?_append_right (Nat.le_refl _), Nat.sub_self]; rfl
theorem Smp.snoc {l : List S26} (h : Smp l) (hl : l.length < 20) {t : Int} {n d : Int} (hok : Ok ⟨t, ⟨n, d⟩⟩) (t0 : 0 ≤ t) (t1 : t ≤ 40 * l.length) (t2 : ∀ j : Nat, j < l.length → (at_ l j).f0 < t) : Smp (l ++ [⟨t, ⟨n, d⟩⟩]) := by
  have hlen : (l ++ [(⟨t, ⟨n, d⟩⟩ : S26)]).length = l.length + 1 := by rw [List.length_append]; rfl
  refine ⟨by omega, fun j hj => ?_, fun j hj => ?_, fun j hj h0 => ?_⟩
  · by_cases hlt : j < l.length
    · rw [at_left hlt]; exact h.ok j hlt
    · obtain rfl : j = l.length := by omega
      rw [at_last]; exact hok
  · by_cases hlt : j < l.length
    · rw [at_left hlt]; exact h.t0 j hlt
    · obtain rfl : j = l.length := by omega
      rw [at_last]; exact ⟨t0, t1⟩
  · by_cases hlt : j < l.length
    · rw [at_left hlt, at_left (by omega)]; exact h.up j hlt h0
    · obtain rfl : j = l.length := by omega
      rw [at_last, at_left (by omega)]; exact t2 _ (by omega)
theorem rdI_mem {l : List Int} {j : Nat} (h : j < l.length) : rd l (j : Int) ∈ l := by
  unfold rd
  rw [Int.toNat_natCast, List.getD_eq_getElem?_getD, List.getElem?_eq_getElem h]
  exact List.getElem_mem h
theorem samples_loop {xs ys : List Int} (hx : ∀ x ∈ xs, I64 x) (hy : ∀ y ∈ ys, I64 y) : ∀ (n i : Nat) (l : List S26) (t : Int), 20 - i = n → l.length = i → i ≤ 20 → Smp l → 0 ≤ t → t ≤ 40 * i → (∀ j : Nat, j < l.length → (at_ l j).f0 < t) →
    ∃ m, Smp m ∧ Ev (fun K => marigraphkeep_Samples.l0 K xs ys 20 l t (i : Int)) m := by
  intro n
  induction n with
  | zero =>
    intro i l t hn hl hi h t0 t1 t2
    have hj : Ev (fun K => marigraphkeep_Samples.j1 K xs ys 20 l t (i : Int) false) l := by
      refine Ev.step (f := fun _ => some l) (fun K => ?_) (Ev.now _)
      simp only [marigraphkeep_Samples.j1]
      rw [if_neg (by decide)]
    refine ⟨l, h, Ev.step (fun K => ?_) hj⟩
    simp only [marigraphkeep_Samples.l0]
    by_cases c : (i : Int) < (xs.length : Int)
    · rw [if_pos c, decide_eq_false (by omega)]
    · rw [if_neg c]
  | succ n ih =>
    intro i l t hn hl hi h t0 t1 t2
    by_cases c : i < xs.length
    · obtain ⟨r, hr, r1, r2, _⟩ := within_ev (lo := 1) (hi := 40) (by omega) (by omega) (by omega) (by omega) (hx _ (rdI_mem c))
      have e1 : wrap64 (t + r) = t + r := wrap64_id ⟨by omega, by omega⟩
      have e2 : wrap64 ((i : Int) + 1) = ((i + 1 : Nat) : Int) := wrap_succ (n := 20) (by omega) (by omega)
      have hnext : ∀ N D : Int, Rt N D → -60 ≤ N → N ≤ 60 → D ≤ 12 → ∃ m, Smp m ∧ Ev (fun K => marigraphkeep_Samples.l0 K xs ys 20 (l ++ [(⟨t, (⟨N, D⟩ : S24)⟩ : S26)]) (t + r) ((i + 1 : Nat) : Int)) m := by
        intro N D h1 h2 h3 h4
        have hlen : (l ++ [(⟨t, (⟨N, D⟩ : S24)⟩ : S26)]).length = l.length + 1 := by rw [List.length_append]; rfl
        refine ih (i + 1) _ (t + r) (by omega) (by omega) (by omega) (h.snoc (by omega) ⟨h1, h2, h3, h4⟩ t0 (by omega) t2) (by omega) (by omega) (fun j hj => ?_)
        by_cases hlt : j < l.length
        · rw [at_left hlt]; have := t2 j hlt; omega
        · obtain rfl : j = l.length := by omega
          rw [at_last]; show t < t + r; omega
      have hstep : ∀ m, Ev (fun K => marigraphkeep_Samples.j1 K xs ys 20 l t (i : Int) true) m → Ev (fun K => marigraphkeep_Samples.l0 K xs ys 20 l t (i : Int)) m := by
        intro m hm
        refine Ev.step (fun K => ?_) hm
        simp only [marigraphkeep_Samples.l0]
        rw [if_pos (by omega), decide_eq_true (by omega)]
      have hz : l.length < 5864062014805 := by omega
      by_cases cy : i < ys.length
      · have hw : I64 (wrap64 (1 + (Int.tmod (wrap64 ((Int.tmod (rd ys (i : Int)) 5) * (rd ys (i : Int)))) 5))) := by unfold I64 wrap64; omega
        obtain ⟨N, D, hk, k1, k2, k3, k4, k5⟩ := keep_tells (hy _ (rdI_mem cy)) hw
        obtain ⟨m, hm, he⟩ := hnext N D k1 k2 k3 k5
        refine ⟨m, hm, hstep m ?_⟩
        refine Ev.step (f := fun K => (marigraphkeep_Rat.f K (rd ys (i : Int)) (wrap64 (1 + (Int.tmod (wrap64 ((Int.tmod (rd ys (i : Int)) 5) * (rd ys (i : Int)))) 5)))).bind fun bt105 => ((marigraphbook_Within.f K (rd xs (i : Int)) 1 40).bind fun t111 => (marigraphkeep_Samples.l0 K xs ys 20 (l ++ [(⟨t, (⟨bt105.1, bt105.2⟩ : S24)⟩ : S26)]) (wrap64 (t + t111)) ((i + 1 : Nat) : Int)))) (fun K => ?_) ?_
        · simp only [marigraphkeep_Samples.j1]
          rw [if_pos trivial, if_pos (by omega), if_pos (by omega)]
          simp only [if_pos hz, if_pos (show (i : Int) < (xs.length : Int) by omega), e2]
        · refine Ev.bind hk (Ev.bind hr ?_)
          simp only [e1]
          exact he
      · obtain ⟨N, D, hk, k1, k2, k3, k4, k5⟩ := keep_tells (x := 0) (y := 1 + ((((0 : Int) % 5) * 0) % 5)) ⟨by decide, by decide⟩ ⟨by decide, by decide⟩
        obtain ⟨m, hm, he⟩ := hnext N D k1 k2 k3 k5
        refine ⟨m, hm, hstep m ?_⟩
        refine Ev.step (f := fun K => (marigraphkeep_Rat.f K 0 (1 + ((((0 : Int) % 5) * 0) % 5))).bind fun bt105 => ((marigraphbook_Within.f K (rd xs (i : Int)) 1 40).bind fun t111 => (marigraphkeep_Samples.l0 K xs ys 20 (l ++ [(⟨t, (⟨bt105.1, bt105.2⟩ : S24)⟩ : S26)]) (wrap64 (t + t111)) ((i + 1 : Nat) : Int)))) (fun K => ?_) ?_
        · simp only [marigraphkeep_Samples.j1]
          rw [if_pos trivial, if_neg (by omega)]
          simp only [if_pos hz, if_pos (show 0 ≤ (i : Int) by omega), if_pos (show (i : Int) < (xs.length : Int) by omega), e2]
        · refine Ev.bind hk (Ev.bind hr ?_)
          simp only [e1]
          exact he
    · have hj : Ev (fun K => marigraphkeep_Samples.j1 K xs ys 20 l t (i : Int) false) l := by
        refine Ev.step (f := fun _ => some l) (fun K => ?_) (Ev.now _)
        simp only [marigraphkeep_Samples.j1]
        rw [if_neg (by decide)]
      refine ⟨l, h, Ev.step (fun K => ?_) hj⟩
      simp only [marigraphkeep_Samples.l0]
      rw [if_neg (by omega)]
theorem samples_tells {xs ys : List Int} (hx : ∀ x ∈ xs, I64 x) (hy : ∀ y ∈ ys, I64 y) : ∃ m, Smp m ∧ Ev (fun K => marigraphkeep_Samples.f K xs ys 20) m :=
  samples_loop hx hy 20 0 [] 0 rfl rfl (by decide) ⟨by decide, fun j hj => absurd hj (Nat.not_lt_zero _), fun j hj => absurd hj (Nat.not_lt_zero _), fun j hj => absurd hj (Nat.not_lt_zero _)⟩ (Int.le_refl _) (by decide) (fun j hj => absurd hj (Nat.not_lt_zero _))
theorem known_ev : Ev (fun k => marigraphlaw24_known.f k) true := Ev.of (k := 60) marigraphlaw24_known.mono (by decide +kernel)
theorem Smp.num {l : List S26} (h : Smp l) : NumL l := fun j hj => ⟨⟨by have := (h.t0 j hj).1; omega, by have := (h.t0 j hj).2; have := h.len; omega⟩, (h.ok j hj).rt.i64n, (h.ok j hj).rt.i64d⟩
theorem RateTells : PRateTells.RateTells.Pure := by
  intro l0 l1 b m l6 h0 h1 hm h6 hw
  obtain ⟨s, hs, es⟩ := samples_tells (fun x hx => i64_of (h0 x hx)) (fun x hx => i64_of (h1 x hx))
  obtain ⟨q, eq, _⟩ := within_ev (n := m) (lo := 1) (hi := 1000) (by decide) (by decide) (by decide) (by decide) (i64_of hm)
  have hl := hs.len
  have n6 : NumL l6 := by
    intro j hj
    have hx : at_ l6 j ∈ l6 := by
      unfold at_
      rw [List.getD_eq_getElem?_getD, List.getElem?_eq_getElem hj]
      exact List.getElem_mem hj
    obtain ⟨w0, w1, w2⟩ := hw _ hx
    exact ⟨i64_of w0, i64_of w1, i64_of w2⟩
  obtain ⟨K1, e1⟩ := es
  obtain ⟨K2, e2⟩ := rate_same hs.num (by omega) b m
  obtain ⟨K3, e3⟩ := eq
  obtain ⟨K4, e4⟩ := rate_same hs.num (by omega) true q
  obtain ⟨K5, e5⟩ := rate_same n6 (by omega) b m
  obtain ⟨K6, e6⟩ := known_ev
  exact ⟨K1 + K2 + K3 + K4 + K5 + K6, s, q, e1 _ (by omega), e2 _ (by omega), e3 _ (by omega), e4 _ (by omega), e5 _ (by omega), e6 _ (by omega)⟩

end Go.Proofs.Ytlmcnlaopolinaa.Pure

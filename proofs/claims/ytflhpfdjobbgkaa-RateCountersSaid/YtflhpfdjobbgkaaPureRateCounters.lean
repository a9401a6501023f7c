/- A counter's changes are never below 0, if it never is above its top, and where it does not fall they are as without: the plain law; no condition beyond the statement's own. -/
import Derived.Test.YtflhpfdjobbgkaaPRateCountersx9
namespace Go.Proofs.Ytflhpfdjobbgkaa.Pure
open Go.RowKit Go.Proofs.Ytflhpfdjobbgkaa.PRateCounters Go.Proofs.YtflhpfdjobbgkaaW.PrintWords Go.Proofs.YtflhpfdjobbgkaaW.PrintLast
set_option linter.unusedVariables false
set_option linter.unusedSimpArgs false

theorem i64_of {a : Int} (h : (Lit.int .i64 a).wf = true) : -9223372036854775808 ≤ a ∧ a ≤ 9223372036854775807 := by
  have h1 : IntKind.i64.min = -9223372036854775808 := rfl
  have h2 : IntKind.i64.max = 9223372036854775807 := rfl
  simp only [Lit.wf, Bool.and_eq_true, decide_eq_true_eq] at h
  omega
/-! ### rationals: New, Right -/
def Pure_ofQ (q : Rat) : Int × Int × Int := if q.num.natAbs > 2147483647 ∨ q.den > 2147483647 then (0, 0, 23) else (q.num, (q.den : Int), 0)
def newQ (n d : Int) : Int × Int × Int := if d = 0 then (0, 0, 1) else Pure_ofQ (Rat.divInt n d)
def I64 (n : Int) : Prop := -9223372036854775808 ≤ n ∧ n ≤ 9223372036854775807
theorem wrapU {x : Int} (h0 : 0 ≤ x) (h1 : x < 18446744073709551616) : IntKind.u64.wrap x = x := by
  have : IntKind.u64.wrap x = x % 18446744073709551616 := by simp [IntKind.wrap, IntKind.bits, IntKind.signed]
  rw [this]; exact Int.emod_eq_of_lt h0 h1
theorem wrapU_eq (x : Int) : IntKind.u64.wrap x = x % 18446744073709551616 := by simp [IntKind.wrap, IntKind.bits, IntKind.signed]
theorem wrap64_id {x : Int} (h : I64 x) : wrap64 x = x := by unfold I64 at h; unfold wrap64; omega
theorem size_tells {n : Int} (h : I64 n) : rat_size.f n = some (n.natAbs : Int) := by
  unfold I64 at h
  unfold rat_size.f
  by_cases hn : n < 0
  · rw [if_pos hn, wrapU_eq, wrapU_eq]
    congr 1
    omega
  · rw [if_neg hn, wrapU_eq]
    congr 1
    omega
theorem common_tells (b : Nat) : ∀ (a k : Nat), b < k → rat_common.l0 k (a : Int) (b : Int) = some ((Nat.gcd a b : Nat) : Int) := by
  induction b using Nat.strongRecOn with
  | _ b ih =>
    intro a k hk
    obtain ⟨k, rfl⟩ : ∃ m, k = m + 1 := ⟨k - 1, by omega⟩
    simp only [rat_common.l0]
    by_cases hb : b = 0
    · subst hb
      rw [if_neg (by omega), Nat.gcd_zero_right]
    · rw [if_pos (by omega), if_neg (by omega)]
      have e : Int.tmod (a : Int) (b : Int) = ((a % b : Nat) : Int) := by rw [Int.ofNat_tmod]
      have hl : a % b < b := Nat.mod_lt _ (by omega)
      rw [e, ih (a % b) hl b k (by omega), Nat.gcd_comm a b, Nat.gcd_rec b a, Nat.gcd_comm]
theorem new_parts (n d : Int) (hd : d ≠ 0) : (Rat.divInt n d).den = d.natAbs / Nat.gcd n.natAbs d.natAbs ∧ (Rat.divInt n d).num.natAbs = n.natAbs / Nat.gcd n.natAbs d.natAbs ∧
    (if (decide (n < 0)) != (decide (d < 0)) then (Rat.divInt n d).num = -((n.natAbs / Nat.gcd n.natAbs d.natAbs : Nat) : Int) else (Rat.divInt n d).num = ((n.natAbs / Nat.gcd n.natAbs d.natAbs : Nat) : Int)) := by
  have hg : Int.gcd d n = Nat.gcd n.natAbs d.natAbs := by unfold Int.gcd; exact Nat.gcd_comm _ _
  have hpos : 0 < Nat.gcd n.natAbs d.natAbs := Nat.gcd_pos_of_pos_right _ (by omega)
  refine ⟨by rw [Rat.den_divInt, if_neg hd, hg], ?_⟩
  rw [Rat.num_divInt, hg]
  obtain ⟨c, hc⟩ : ∃ c : Int, n = (Nat.gcd n.natAbs d.natAbs : Int) * c := by
    have : ((Nat.gcd n.natAbs d.natAbs : Nat) : Int) ∣ n := Int.natAbs_dvd_natAbs.1 (by rw [Int.natAbs_natCast]; exact Nat.gcd_dvd_left _ _)
    exact this
  generalize Nat.gcd n.natAbs d.natAbs = g at *
  have hA : n.natAbs / g = c.natAbs := by
    rw [hc, Int.natAbs_mul, Int.natAbs_natCast]
    exact Nat.mul_div_cancel_left _ hpos
  have hnc : (n < 0 ↔ c < 0) := by
    have hg0 : (0 : Int) < (g : Int) := by omega
    constructor
    · intro h
      by_cases h' : c < 0
      · exact h'
      · have := Int.mul_nonneg (Int.le_of_lt hg0) (Int.not_lt.1 h'); omega
    · intro h
      have := Int.mul_neg_of_pos_of_neg hg0 h; omega
  rw [hA]
  have hq : d.sign * n / (g : Int) = d.sign * c := by
    rw [hc, ← Int.mul_assoc, Int.mul_comm d.sign, Int.mul_assoc]
    exact Int.mul_ediv_cancel_left _ (by omega)
  rw [hq]
  rcases Int.lt_trichotomy d 0 with h | h | h
  · rw [Int.sign_eq_neg_one_of_neg h]
    have h1 : decide (d < 0) = true := decide_eq_true h
    rw [h1]
    by_cases hn : n < 0
    · have h2 := hnc.1 hn
      rw [decide_eq_true hn]
      simp only [bne_self_eq_false, Bool.false_eq_true, if_false]
      omega
    · have h2 : ¬ c < 0 := fun h => hn (hnc.2 h)
      rw [decide_eq_false hn]
      simp only [Bool.bne_true, Bool.not_false, if_true]
      omega
  · exact absurd h hd
  · rw [Int.sign_eq_one_of_pos h]
    have h1 : decide (d < 0) = false := decide_eq_false (by omega)
    rw [h1]
    by_cases hn : n < 0
    · have h2 := hnc.1 hn
      rw [decide_eq_true hn]
      simp only [Bool.bne_false, if_true]
      omega
    · have h2 : ¬ c < 0 := fun h => hn (hnc.2 h)
      rw [decide_eq_false hn]
      simp only [bne_self_eq_false, Bool.false_eq_true, if_false]
      omega
theorem new_at (n d : Int) (hn : I64 n) (hd : I64 d) (k : Nat) (hk : d.natAbs + 2 < k) : rat_New.f k n d = some (newQ n d) := by
  unfold rat_New.f newQ
  by_cases h0 : d = 0
  · rw [if_pos h0, if_pos h0]
  rw [if_neg h0, if_neg h0, size_tells hn, size_tells hd]
  simp only [Option.bind_some]
  unfold rat_common.f
  rw [common_tells d.natAbs n.natAbs k (by omega)]
  simp only [Option.bind_some]
  obtain ⟨e1, e2, e3⟩ := new_parts n d h0
  have hpos : 0 < Nat.gcd n.natAbs d.natAbs := Nat.gcd_pos_of_pos_right _ (by omega)
  generalize Nat.gcd n.natAbs d.natAbs = g at *
  have t1 : IntKind.u64.wrap (Int.tdiv (n.natAbs : Int) (g : Int)) = ((n.natAbs / g : Nat) : Int) := by
    rw [← Int.ofNat_tdiv]
    have := Nat.div_le_self n.natAbs g
    unfold I64 at hn
    exact wrapU (by omega) (by omega)
  have t2 : IntKind.u64.wrap (Int.tdiv (d.natAbs : Int) (g : Int)) = ((d.natAbs / g : Nat) : Int) := by
    rw [← Int.ofNat_tdiv]
    have := Nat.div_le_self d.natAbs g
    unfold I64 at hd
    exact wrapU (by omega) (by omega)
  rw [t1, t2, if_neg (by omega)]
  unfold Pure_ofQ
  rw [e1, e2]
  generalize n.natAbs / g = A at *
  generalize d.natAbs / g = B at *
  obtain ⟨k, rfl⟩ : ∃ m, k = m + 1 := ⟨k - 1, by omega⟩
  by_cases hA : (A : Int) > 2147483647
  · rw [if_pos hA, if_pos (Or.inl (by omega))]
    simp only [rat_New.j0, if_true]
  · rw [if_neg hA]
    by_cases hB : (B : Int) > 2147483647
    · rw [decide_eq_true hB, if_pos (Or.inr (by omega))]
      simp only [rat_New.j0, if_true]
    · rw [decide_eq_false hB, if_neg (by omega)]
      simp only [rat_New.j0, Bool.false_eq_true, if_false]
      have w1 : wrap64 (A : Int) = (A : Int) := wrap64_id (by unfold I64; omega)
      have w2 : wrap64 (B : Int) = (B : Int) := wrap64_id (by unfold I64; omega)
      have w3 : wrap64 (-(A : Int)) = -(A : Int) := wrap64_id (by unfold I64; omega)
      rw [w1, w2, w3]
      by_cases hs : ((decide (n < 0)) != (decide (d < 0))) = true
      · rw [if_pos hs] at e3 ⊢
        rw [e3]
      · rw [if_neg hs] at e3 ⊢
        rw [e3]
theorem new_tells {n d : Int} (hn : I64 n) (hd : I64 d) : Ev (fun k => rat_New.f k n d) (newQ n d) := ⟨d.natAbs + 3, fun k hk => new_at n d hn hd k (by omega)⟩
/-- A number that is right: in lowest terms, within the bounds. -/
structure Rt (n d : Int) : Prop where
  n1 : -2147483647 ≤ n
  n2 : n ≤ 2147483647
  d1 : 1 ≤ d
  d2 : d ≤ 2147483647
  num : (Rat.divInt n d).num = n
  den : ((Rat.divInt n d).den : Int) = d
def rightQ (n d : Int) : Bool := decide (d > 0) && decide (newQ n d = (n, d, 0))
theorem Rt.right {n d : Int} (h : Rt n d) : rightQ n d = true := by
  unfold rightQ newQ Pure_ofQ
  have h1 := h.n1
  have h2 := h.n2
  have h3 := h.d1
  have h4 := h.d2
  have h5 := h.num
  have h6 := h.den
  rw [if_neg (by omega), if_neg (by omega), h5, h6]
  simp only [decide_true, Bool.and_true, decide_eq_true_eq]
  omega
theorem right_tells {n d : Int} (hn : I64 n) (hd : I64 d) : Ev (fun k => rat_Right.f k n d) (rightQ n d) := by
  refine Ev.bind (new_tells hn hd) ?_
  unfold rightQ
  by_cases h0 : d > 0
  · simp only [if_pos h0, decide_eq_true h0, Bool.true_and]
    obtain ⟨a, b, c⟩ := newQ n d
    simp only [Prod.mk.injEq]
    by_cases hc : c = 0
    · simp only [if_pos hc]
      refine ⟨0, fun _ _ => ?_⟩
      show some _ = some _
      congr 1
      rw [Bool.eq_iff_iff]
      simp [hc]
    · simp only [if_neg hc]
      refine ⟨0, fun _ _ => ?_⟩
      show some _ = some _
      congr 1
      simp [hc]
  · simp only [if_neg h0, decide_eq_false h0, Bool.false_and]
    exact Ev.now _
theorem Rt.i64n {n d : Int} (h : Rt n d) : I64 n := ⟨by have := h.n1; omega, by have := h.n2; omega⟩
theorem Rt.i64d {n d : Int} (h : Rt n d) : I64 d := ⟨by have := h.d1; omega, by have := h.d2; omega⟩
theorem Rt.ofQ {q : Rat} {n d : Int} (h : Pure_ofQ q = (n, d, 0)) : Rt n d ∧ Rat.divInt n d = q := by
  unfold Pure_ofQ at h
  by_cases hb : q.num.natAbs > 2147483647 ∨ q.den > 2147483647
  · rw [if_pos hb] at h; simp at h
  · rw [if_neg hb] at h
    simp only [Prod.mk.injEq, and_true] at h
    obtain ⟨rfl, rfl⟩ := h
    have e := Rat.num_divInt_den q
    have hd := q.den_pos
    exact ⟨⟨by omega, by omega, by omega, by omega, by rw [e], by rw [e]⟩, e⟩
theorem ofQ_rt {q : Rat} (h1 : q.num.natAbs ≤ 2147483647) (h2 : q.den ≤ 2147483647) : Pure_ofQ q = (q.num, (q.den : Int), 0) ∧ Rt q.num q.den := by
  have e : Pure_ofQ q = (q.num, (q.den : Int), 0) := by unfold Pure_ofQ; rw [if_neg (by omega)]
  exact ⟨e, (Rt.ofQ e).1⟩
theorem Rt.same {a b c d : Int} (h : Rt a b) (k : Rt c d) (e : Rat.divInt a b = Rat.divInt c d) : a = c ∧ b = d := by
  have h1 := h.num; have h2 := h.den; have k1 := k.num; have k2 := k.den
  rw [e] at h1 h2
  omega
theorem mulM {x y : Int} (hx : -2147483647 ≤ x ∧ x ≤ 2147483647) (hy : -2147483647 ≤ y ∧ y ≤ 2147483647) : -4611686014132420609 ≤ x * y ∧ x * y ≤ 4611686014132420609 := by
  have h := Nat.mul_le_mul (show x.natAbs ≤ 2147483647 by omega) (show y.natAbs ≤ 2147483647 by omega)
  rw [← Int.natAbs_mul] at h
  omega
/-! ### marigraphkeep.Rat: a right number, small -/
theorem within_ev {n lo hi : Int} (h1 : 0 ≤ lo + 1000) (h2 : lo ≤ hi) (h3 : hi < 1000000) (h4 : -1000 ≤ lo) (hn : I64 n) : ∃ r, Ev (fun k => marigraphbook_Within.f k n lo hi) r ∧ lo ≤ r ∧ r ≤ hi ∧ (lo ≤ n → n ≤ hi → r = n) := by
  unfold I64 at hn
  have e1 : wrap64 (wrap64 (hi - lo) + 1) = hi - lo + 1 := by unfold wrap64; omega
  have hj : ∀ b : Bool, (b = true ↔ (lo ≤ n ∧ n ≤ hi)) → ∃ r, (∀ k, marigraphbook_Within.j0 (k + 1) n lo hi b = some r) ∧ lo ≤ r ∧ r ≤ hi ∧ (lo ≤ n → n ≤ hi → r = n) := by
    intro b hb
    simp only [marigraphbook_Within.j0, e1]
    cases b with
    | true =>
      have := hb.1 rfl
      exact ⟨n, fun _ => by rw [if_pos rfl], this.1, this.2, fun _ _ => rfl⟩
    | false =>
      have hno : ¬ (lo ≤ n ∧ n ≤ hi) := fun h => by have := hb.2 h; cases this
      simp only [Bool.false_eq_true, if_false]
      rw [if_neg (by omega)]
      have hm : (0 : Int) < hi - lo + 1 := by omega
      have t1 : Int.tmod n (hi - lo + 1) < hi - lo + 1 := Int.tmod_lt_of_pos _ hm
      have t2 : -(hi - lo + 1) < Int.tmod n (hi - lo + 1) := by
        have := Int.tmod_lt_of_pos (-n) hm
        rw [Int.neg_tmod] at this
        omega
      generalize Int.tmod n (hi - lo + 1) = t at *
      by_cases ht : t < 0
      · rw [if_pos ht]
        have e : wrap64 (lo + wrap64 (wrap64 (wrap64 (t + hi) - lo) + 1)) = t + hi + 1 := by unfold wrap64; omega
        rw [e]
        exact ⟨_, fun _ => rfl, by omega, by omega, fun a b => absurd ⟨a, b⟩ hno⟩
      · rw [if_neg ht]
        have e : wrap64 (lo + t) = lo + t := by unfold wrap64; omega
        rw [e]
        exact ⟨_, fun _ => rfl, by omega, by omega, fun a b => absurd ⟨a, b⟩ hno⟩
  have fin : ∀ b : Bool, (∀ k, marigraphbook_Within.f k n lo hi = marigraphbook_Within.j0 k n lo hi b) → (b = true ↔ (lo ≤ n ∧ n ≤ hi)) → ∃ r, Ev (fun k => marigraphbook_Within.f k n lo hi) r ∧ lo ≤ r ∧ r ≤ hi ∧ (lo ≤ n → n ≤ hi → r = n) := by
    intro b hf hb
    obtain ⟨r, h, hr⟩ := hj b hb
    refine ⟨r, ⟨1, fun k hk => ?_⟩, hr⟩
    obtain ⟨k, rfl⟩ : ∃ m, k = m + 1 := ⟨k - 1, by omega⟩
    show marigraphbook_Within.f (k + 1) n lo hi = some r
    rw [hf]
    exact h k
  by_cases hlo : n ≥ lo
  · refine fin (decide (n ≤ hi)) (fun k => by unfold marigraphbook_Within.f; rw [if_pos hlo]) ?_
    rw [decide_eq_true_iff]
    exact ⟨fun h => ⟨hlo, h⟩, fun h => h.2⟩
  · refine fin false (fun k => by unfold marigraphbook_Within.f; rw [if_neg hlo]) ?_
    constructor
    · intro h; cases h
    · intro h; omega
def NoDiv (a b j : Int) : Prop := ∀ i : Int, 2 ≤ i → i < j → ¬ (i ∣ a ∧ i ∣ b)
theorem keep_loops (K : Nat) : (∀ (a b j : Int), 1 ≤ b → b ≤ 12 → -60 ≤ a → a ≤ 60 → 2 ≤ j → j ≤ 13 → 3 * b + 2 * (14 - j) + 1 ≤ K → NoDiv a b j → ∃ N D, marigraphkeep_Rat.l0 K a b j = some (N, D) ∧ 1 ≤ D ∧ D ≤ 12 ∧ -60 ≤ N ∧ N ≤ 60 ∧ NoDiv N D (D + 1)) ∧
    (∀ (a b j : Int), 1 ≤ b → b ≤ 12 → -60 ≤ a → a ≤ 60 → 2 ≤ j → j ≤ b → 3 * b + 2 * (14 - j) ≤ K → NoDiv a b j → ∃ N D, marigraphkeep_Rat.l1 K a b j = some (N, D) ∧ 1 ≤ D ∧ D ≤ 12 ∧ -60 ≤ N ∧ N ≤ 60 ∧ NoDiv N D (D + 1)) := by
  induction K with
  | zero => exact ⟨fun a b j h1 h2 h3 h4 h5 h6 hK => by omega, fun a b j h1 h2 h3 h4 h5 h6 hK => by omega⟩
  | succ K ih =>
    refine ⟨fun a b j h1 h2 h3 h4 h5 h6 hK hno => ?_, fun a b j h1 h2 h3 h4 h5 h6 hK hno => ?_⟩
    · simp only [marigraphkeep_Rat.l0]
      by_cases hj : j ≤ b
      · rw [if_pos hj]
        exact ih.2 a b j h1 h2 h3 h4 h5 hj (by omega) hno
      · rw [if_neg hj]
        exact ⟨a, b, rfl, h1, h2, h3, h4, fun i hi1 hi2 => hno i hi1 (by omega)⟩
    · simp only [marigraphkeep_Rat.l1]
      rw [if_neg (by omega)]
      have wj : wrap64 (j + 1) = j + 1 := wrap64_id ⟨by omega, by omega⟩
      have next : (¬ (j ∣ a ∧ j ∣ b)) → ∃ N D, marigraphkeep_Rat.l0 K a b (wrap64 (j + 1)) = some (N, D) ∧ 1 ≤ D ∧ D ≤ 12 ∧ -60 ≤ N ∧ N ≤ 60 ∧ NoDiv N D (D + 1) := by
        intro hnd
        rw [wj]
        refine ih.1 a b (j + 1) h1 h2 h3 h4 (by omega) (by omega) (by omega) (fun i hi1 hi2 hd => ?_)
        by_cases hij : i < j
        · exact hno i hi1 hij hd
        · obtain rfl : i = j := by omega
          exact hnd hd
      by_cases ha : Int.tmod a j = 0
      · rw [if_pos ha]
        have da : j ∣ a := Int.dvd_of_tmod_eq_zero ha
        by_cases hb : Int.tmod b j = 0
        · rw [if_pos hb]
          have db : j ∣ b := Int.dvd_of_tmod_eq_zero hb
          obtain ⟨x, rfl⟩ := da
          obtain ⟨y, rfl⟩ := db
          have ex : Int.tdiv (j * x) j = x := Int.mul_tdiv_cancel_left _ (by omega)
          have ey : Int.tdiv (j * y) j = y := Int.mul_tdiv_cancel_left _ (by omega)
          have y1 : 1 ≤ y := by
            by_cases hy : y ≤ 0
            · have := Int.mul_nonneg_of_nonpos_of_nonpos (show -j ≤ 0 by omega) hy
              rw [Int.neg_mul] at this
              omega
            · omega
          have y2 : 2 * y ≤ j * y := Int.mul_le_mul_of_nonneg_right h5 (by omega)
          have x1 : x.natAbs ≤ (j * x).natAbs := by
            rw [Int.natAbs_mul]
            exact Nat.le_mul_of_pos_left _ (by omega)
          rw [ex, ey, wrap64_id (show I64 x from ⟨by omega, by omega⟩), wrap64_id (show I64 y from ⟨by omega, by omega⟩)]
          have hno' : NoDiv x y j := fun i hi1 hi2 hd => hno i hi1 hi2 ⟨Int.dvd_trans hd.1 (Int.dvd_mul_left _ _), Int.dvd_trans hd.2 (Int.dvd_mul_left _ _)⟩
          by_cases hjy : j ≤ y
          · exact ih.2 x y j (by omega) (by omega) (by omega) (by omega) h5 hjy (by omega) hno'
          · obtain ⟨K', rfl⟩ : ∃ m, K = m + 1 := ⟨K - 1, by omega⟩
            simp only [marigraphkeep_Rat.l1]
            rw [if_neg (by omega)]
            have wj' : wrap64 (j + 1) = j + 1 := wj
            have stop : ∀ k' : Nat, 0 < k' → ∀ j' : Int, j ≤ j' → ∃ N D, marigraphkeep_Rat.l0 k' x y j' = some (N, D) ∧ 1 ≤ D ∧ D ≤ 12 ∧ -60 ≤ N ∧ N ≤ 60 ∧ NoDiv N D (D + 1) := by
              intro k' hk' j' hj'
              obtain ⟨k', rfl⟩ : ∃ m, k' = m + 1 := ⟨k' - 1, by omega⟩
              simp only [marigraphkeep_Rat.l0]
              rw [if_neg (by omega)]
              exact ⟨x, y, rfl, by omega, by omega, by omega, by omega, fun i hi1 hi2 => hno' i hi1 (by omega)⟩
            have hty : ¬ Int.tmod y j = 0 := by
              rw [Int.tmod_eq_of_lt (by omega) (by omega)]
              omega
            rw [wj', if_neg hty]
            by_cases hx : Int.tmod x j = 0
            · rw [if_pos hx]; exact stop K' (by omega) _ (by omega)
            · rw [if_neg hx]; exact stop K' (by omega) _ (by omega)
        · rw [if_neg hb]
          exact next (fun h => hb (Int.tmod_eq_zero_of_dvd h.2))
      · rw [if_neg ha]
        exact next (fun h => ha (Int.tmod_eq_zero_of_dvd h.1))
theorem rt_of_nodiv {N D : Int} (h1 : 1 ≤ D) (h2 : D ≤ 12) (h3 : -60 ≤ N) (h4 : N ≤ 60) (hno : NoDiv N D (D + 1)) : Rt N D := by
  have hg : Nat.gcd N.natAbs D.natAbs = 1 := by
    have hpos : 0 < Nat.gcd N.natAbs D.natAbs := Nat.gcd_pos_of_pos_right _ (by omega)
    have hle : Nat.gcd N.natAbs D.natAbs ≤ D.natAbs := Nat.le_of_dvd (by omega) (Nat.gcd_dvd_right _ _)
    by_cases h : Nat.gcd N.natAbs D.natAbs = 1
    · exact h
    · refine absurd ⟨?_, ?_⟩ (hno (Nat.gcd N.natAbs D.natAbs : Nat) (by omega) (by omega))
      · exact Int.natAbs_dvd_natAbs.1 (by rw [Int.natAbs_natCast]; exact Nat.gcd_dvd_left _ _)
      · exact Int.natAbs_dvd_natAbs.1 (by rw [Int.natAbs_natCast]; exact Nat.gcd_dvd_right _ _)
  obtain ⟨e1, _, e3⟩ := new_parts N D (by omega)
  rw [hg, Nat.div_one] at e1 e3
  rw [decide_eq_false (show ¬ D < 0 by omega)] at e3
  refine ⟨by omega, by omega, by omega, by omega, ?_, by omega⟩
  by_cases hn : N < 0
  · rw [decide_eq_true hn] at e3
    simp only [Bool.bne_false, if_true] at e3
    omega
  · rw [decide_eq_false hn] at e3
    simp only [bne_self_eq_false, Bool.false_eq_true, if_false] at e3
    omega
theorem keep_tells {x y : Int} (hx : I64 x) (hy : I64 y) : ∃ N D, Ev (fun k => marigraphkeep_Rat.f k x y) (N, D) ∧ Rt N D ∧ -60 ≤ N ∧ N ≤ 60 ∧ 1 ≤ D ∧ D ≤ 12 := by
  obtain ⟨a, ha, a1, a2, _⟩ := within_ev (lo := -60) (hi := 60) (by omega) (by omega) (by omega) (by omega) hx
  obtain ⟨b, hb, b1, b2, _⟩ := within_ev (lo := 1) (hi := 12) (by omega) (by omega) (by omega) (by omega) hy
  have hl : ∀ K : Nat, 100 ≤ K → ∃ N D, marigraphkeep_Rat.l0 K a b 2 = some (N, D) ∧ 1 ≤ D ∧ D ≤ 12 ∧ -60 ≤ N ∧ N ≤ 60 ∧ NoDiv N D (D + 1) :=
    fun K hK => (keep_loops K).1 a b 2 b1 b2 a1 a2 (by omega) (by omega) (by omega) (fun i h1 h2 => by omega)
  obtain ⟨N, D, h0, d1, d2, n1, n2, hno⟩ := hl 100 (by omega)
  refine ⟨N, D, ?_, rt_of_nodiv d1 d2 n1 n2 hno, n1, n2, d1, d2⟩
  refine Ev.bind ha (Ev.bind hb ?_)
  exact Ev.of (fun k => marigraphkeep_Rat.mono_l k |>.1 _ _ _) h0
/-! ### Cmp, Add, Sub, Mul, Div of right numbers -/
def VQ (n d : Int) : Rat := Rat.divInt n d
theorem ratlt {n d m e : Int} (h : Rt n d) (k : Rt m e) : n * e < m * d ↔ VQ n d < VQ m e := by
  rw [Rat.lt_iff]
  unfold VQ
  rw [h.num, h.den, k.num, k.den]
theorem rateq {n d m e : Int} (h : Rt n d) (k : Rt m e) : (n = m ∧ d = e) ↔ VQ n d = VQ m e := ⟨fun he => by rw [he.1, he.2], fun he => h.same k he⟩
def cmpQ (a b : Rat) : Int := if a < b then -1 else if a = b then 0 else 1
theorem prodw {x y : Int} (hx : -2147483647 ≤ x ∧ x ≤ 2147483647) (hy : -2147483647 ≤ y ∧ y ≤ 2147483647) : wrap64 (x * y) = x * y := by
  have := mulM hx hy
  exact wrap64_id ⟨by omega, by omega⟩
theorem exactQ {f : Nat → Option (Int × Int × Int)} {n d : Int} {q : Rat} (hn : I64 n) (hd : I64 d) (h0 : d ≠ 0) (hq : Rat.divInt n d = q) (hf : ∀ k, f (k + 1) = (rat_New.f k n d).bind fun t => some (t.1, t.2.1, t.2.2)) : Ev f (Pure_ofQ q) := by
  refine Ev.step hf ?_
  have h := new_tells hn hd
  have e : newQ n d = Pure_ofQ q := by unfold newQ; rw [if_neg h0, hq]
  rw [e] at h
  exact Ev.bind h (Ev.now _)
theorem cmp_tells {n d m e : Int} (h : Rt n d) (k : Rt m e) : Ev (fun K => rat_Cmp.f K n d m e) (cmpQ (VQ n d) (VQ m e)) := by
  have r1 := right_tells h.i64n h.i64d
  have r2 := right_tells k.i64n k.i64d
  rw [h.right] at r1
  rw [k.right] at r2
  refine Ev.bind r1 (Ev.bind r2 ?_)
  simp only [if_true, Bool.not_true]
  refine ⟨1, fun K hK => ?_⟩
  obtain ⟨K, rfl⟩ : ∃ m, K = m + 1 := ⟨K - 1, by omega⟩
  simp only [rat_Cmp.j0, Bool.false_eq_true, if_false, if_true]
  have h1 := h.n1; have h2 := h.n2; have h3 := h.d1; have h4 := h.d2
  have k1 := k.n1; have k2 := k.n2; have k3 := k.d1; have k4 := k.d2
  rw [prodw (x := n) (y := e) ⟨by omega, by omega⟩ ⟨by omega, by omega⟩, prodw (x := m) (y := d) ⟨by omega, by omega⟩ ⟨by omega, by omega⟩]
  unfold cmpQ
  by_cases hlt : n * e < m * d
  · rw [if_pos hlt, if_pos ((ratlt h k).1 hlt)]
  · rw [if_neg hlt, if_neg (fun hh => hlt ((ratlt h k).2 hh))]
    by_cases he : VQ n d = VQ m e
    · obtain ⟨e1, e2⟩ := (rateq h k).2 he
      rw [if_pos (by rw [e1, e2]; simp), if_pos he]
    · rw [if_neg (fun hh => he ((rateq h k).1 (by simpa using hh))), if_neg he]
theorem Add_tells {n d m e : Int} (h : Rt n d) (k : Rt m e) : Ev (fun K => rat_Add.f K n d m e) (Pure_ofQ (VQ n d + VQ m e)) := by
  have r1 := right_tells h.i64n h.i64d
  have r2 := right_tells k.i64n k.i64d
  rw [h.right] at r1
  rw [k.right] at r2
  have h1 := h.n1; have h2 := h.n2; have h3 := h.d1; have h4 := h.d2
  have k1 := k.n1; have k2 := k.n2; have k3 := k.d1; have k4 := k.d2
  have hd0 : d ≠ 0 := by omega
  have he0 : e ≠ 0 := by omega
  have p1 := mulM (x := n) (y := e) ⟨by omega, by omega⟩ ⟨by omega, by omega⟩
  have p2 := mulM (x := m) (y := d) ⟨by omega, by omega⟩ ⟨by omega, by omega⟩
  have p3 := mulM (x := d) (y := e) ⟨by omega, by omega⟩ ⟨by omega, by omega⟩
  have p4 := mulM (x := n) (y := m) ⟨by omega, by omega⟩ ⟨by omega, by omega⟩
  have hde : d * e ≠ 0 := Int.mul_ne_zero hd0 he0
  refine Ev.bind (g := fun K => rat_exact_of_rat_Add_1_rat_both.f K n d m e) (a := Pure_ofQ (VQ n d + VQ m e)) (f := fun _ b => some (b.1, b.2.1, b.2.2)) (Ev.bind r1 ?_) (Ev.now _)
  simp only [if_true]
  refine Ev.bind r2 ?_
  refine exactQ (n := n * e + m * d) (d := d * e) ⟨by omega, by omega⟩ ⟨by omega, by omega⟩ hde ?_ (fun K => ?_)
  · exact (Rat.divInt_add_divInt _ _ hd0 he0).symm
  · simp only [rat_exact_of_rat_Add_1_rat_both.j0, rat_Add_1.f, rat_both.f, Bool.not_true, Bool.false_eq_true, if_false, Option.bind_some]
    rw [wrap64_id (x := d * e) ⟨by omega, by omega⟩]
    rw [wrap64_id (x := n * e) ⟨by omega, by omega⟩, wrap64_id (x := m * d) ⟨by omega, by omega⟩, wrap64_id (x := n * e + m * d) ⟨by omega, by omega⟩]
theorem Sub_tells {n d m e : Int} (h : Rt n d) (k : Rt m e) : Ev (fun K => rat_Sub.f K n d m e) (Pure_ofQ (VQ n d - VQ m e)) := by
  have r1 := right_tells h.i64n h.i64d
  have r2 := right_tells k.i64n k.i64d
  rw [h.right] at r1
  rw [k.right] at r2
  have h1 := h.n1; have h2 := h.n2; have h3 := h.d1; have h4 := h.d2
  have k1 := k.n1; have k2 := k.n2; have k3 := k.d1; have k4 := k.d2
  have hd0 : d ≠ 0 := by omega
  have he0 : e ≠ 0 := by omega
  have p1 := mulM (x := n) (y := e) ⟨by omega, by omega⟩ ⟨by omega, by omega⟩
  have p2 := mulM (x := m) (y := d) ⟨by omega, by omega⟩ ⟨by omega, by omega⟩
  have p3 := mulM (x := d) (y := e) ⟨by omega, by omega⟩ ⟨by omega, by omega⟩
  have p4 := mulM (x := n) (y := m) ⟨by omega, by omega⟩ ⟨by omega, by omega⟩
  have hde : d * e ≠ 0 := Int.mul_ne_zero hd0 he0
  refine Ev.bind (g := fun K => rat_exact_of_rat_Sub_1_rat_both.f K n d m e) (a := Pure_ofQ (VQ n d - VQ m e)) (f := fun _ b => some (b.1, b.2.1, b.2.2)) (Ev.bind r1 ?_) (Ev.now _)
  simp only [if_true]
  refine Ev.bind r2 ?_
  refine exactQ (n := n * e - m * d) (d := d * e) ⟨by omega, by omega⟩ ⟨by omega, by omega⟩ hde ?_ (fun K => ?_)
  · exact (Rat.divInt_sub_divInt _ _ hd0 he0).symm
  · simp only [rat_exact_of_rat_Sub_1_rat_both.j0, rat_Sub_1.f, rat_both.f, Bool.not_true, Bool.false_eq_true, if_false, Option.bind_some]
    rw [wrap64_id (x := d * e) ⟨by omega, by omega⟩]
    rw [wrap64_id (x := n * e) ⟨by omega, by omega⟩, wrap64_id (x := m * d) ⟨by omega, by omega⟩, wrap64_id (x := n * e - m * d) ⟨by omega, by omega⟩]
theorem Div_tells {n d m e : Int} (h : Rt n d) (k : Rt m e) : Ev (fun K => rat_Div.f K n d m e) (newQ (n * e) (d * m)) := by
  have r1 := right_tells h.i64n h.i64d
  have r2 := right_tells k.i64n k.i64d
  rw [h.right] at r1
  rw [k.right] at r2
  have h1 := h.n1; have h2 := h.n2; have h3 := h.d1; have h4 := h.d2
  have k1 := k.n1; have k2 := k.n2; have k3 := k.d1; have k4 := k.d2
  have p1 := mulM (x := n) (y := e) ⟨by omega, by omega⟩ ⟨by omega, by omega⟩
  have p2 := mulM (x := d) (y := m) ⟨by omega, by omega⟩ ⟨by omega, by omega⟩
  refine Ev.bind (g := fun K => rat_exact_of_rat_Div_1_rat_Div_2.f K n d m e) (a := newQ (n * e) (d * m)) (f := fun _ b => some (b.1, b.2.1, b.2.2)) (Ev.bind r1 ?_) (Ev.now _)
  simp only [if_true]
  refine Ev.bind r2 ?_
  refine Ev.step (f := fun K => (rat_New.f K (n * e) (d * m)).bind fun t => some (t.1, t.2.1, t.2.2)) (fun K => ?_) (Ev.bind (new_tells ⟨by omega, by omega⟩ ⟨by omega, by omega⟩) (Ev.now _))
  simp only [rat_exact_of_rat_Div_1_rat_Div_2.j0, rat_Div_1.f, rat_Div_2.f, Bool.not_true, Bool.false_eq_true, if_false, Option.bind_some]
  rw [wrap64_id (x := n * e) ⟨by omega, by omega⟩, wrap64_id (x := d * m) ⟨by omega, by omega⟩]
/-! ### how great sums and products are -/
def Bnd (q : Rat) (A B : Nat) : Prop := q.num.natAbs ≤ A ∧ q.den ≤ B
theorem bnd_of {n d : Int} (hd : d ≠ 0) : Bnd (Rat.divInt n d) n.natAbs d.natAbs := by
  obtain ⟨e1, e2, _⟩ := new_parts n d hd
  exact ⟨by rw [e2]; exact Nat.div_le_self _ _, by rw [e1]; exact Nat.div_le_self _ _⟩
theorem Bnd.le {q : Rat} {A B C D : Nat} (h : Bnd q A B) (h1 : A ≤ C) (h2 : B ≤ D) : Bnd q C D := ⟨Nat.le_trans h.1 h1, Nat.le_trans h.2 h2⟩
theorem bnd_add {q r : Rat} {A B C D : Nat} (h : Bnd q A B) (k : Bnd r C D) : Bnd (q + r) (A * D + C * B) (B * D) := by
  have e1 := Rat.num_divInt_den q
  have e2 := Rat.num_divInt_den r
  have hq := q.den_pos
  have hr := r.den_pos
  have e : q + r = Rat.divInt (q.num * r.den + r.num * q.den) (q.den * r.den) := by
    conv => lhs; rw [← e1, ← e2]
    exact Rat.divInt_add_divInt _ _ (by omega) (by omega)
  rw [e]
  refine (bnd_of (Int.mul_ne_zero (by omega) (by omega))).le ?_ ?_
  · have h1 := Nat.mul_le_mul h.1 k.2
    have h2 := Nat.mul_le_mul k.1 h.2
    have h3 := Int.natAbs_add_le (q.num * r.den) (r.num * q.den)
    rw [Int.natAbs_mul, Int.natAbs_mul, Int.natAbs_natCast, Int.natAbs_natCast] at h3
    omega
  · rw [Int.natAbs_mul, Int.natAbs_natCast, Int.natAbs_natCast]
    exact Nat.mul_le_mul h.2 k.2
theorem bnd_neg {q : Rat} {A B : Nat} (h : Bnd q A B) : Bnd (-q) A B := ⟨by show (-q.num).natAbs ≤ A; rw [Int.natAbs_neg]; exact h.1, h.2⟩
theorem bnd_sub {q r : Rat} {A B C D : Nat} (h : Bnd q A B) (k : Bnd r C D) : Bnd (q - r) (A * D + C * B) (B * D) := by
  rw [Rat.sub_eq_add_neg]; exact bnd_add h (bnd_neg k)
/-- What a rational within the bounds is told as. -/
theorem told {q : Rat} {A B : Nat} (h : Bnd q A B) (hA : A ≤ 2147483647) (hB : B ≤ 2147483647) : Pure_ofQ q = (q.num, (q.den : Int), 0) ∧ Rt q.num q.den := ofQ_rt (Nat.le_trans h.1 hA) (Nat.le_trans h.2 hB)
theorem VQ_self (q : Rat) : VQ q.num q.den = q := Rat.num_divInt_den q
theorem Rt.toQ {n d : Int} (h : Rt n d) : (VQ n d).num = n ∧ ((VQ n d).den : Int) = d := ⟨h.num, h.den⟩
/-- The i-th sample. -/
def at_ (l : List S29) (j : Nat) : S29 := l.getD j z29
theorem rd_at (l : List S29) (j : Nat) : rd_T29 l (j : Int) = at_ l j := rfl
/-- Samples that are right: times in the row, numbers right, each later than the one ahead. -/
def GoodL (l : List S29) : Prop := ∀ j : Nat, j < l.length → 0 ≤ (at_ l j).f0 ∧ (at_ l j).f0 ≤ 4294967295 ∧ Rt (at_ l j).f1.f0 (at_ l j).f1.f1 ∧ (0 < j → (at_ l (j - 1)).f0 < (at_ l j).f0)
theorem wrap_succ {j n : Nat} (h : j < n) (hn : n < 4611686014132420609) : wrap64 ((j : Int) + 1) = ((j + 1 : Nat) : Int) := by
  unfold wrap64; omega
theorem wrap_pred {j n : Nat} (h : j < n) (hn : n < 4611686014132420609) (h0 : 0 < j) : wrap64 ((j : Int) - 1) = ((j - 1 : Nat) : Int) := by
  unfold wrap64; omega
theorem down_right_at (l : List S29) (hl : GoodL l) (hn : l.length < 4611686014132420609) : ∀ n j : Nat, l.length - j = n → Ev (fun k => down_Right.l0 k l l (l.length : Int) (j : Int)) true := by
  intro n
  induction n with
  | zero =>
    intro j hj
    refine Ev.step (f := fun k => some true) (fun k => ?_) (Ev.now _)
    simp only [down_Right.l0]
    rw [if_neg (by omega)]
  | succ n ih =>
    intro j hj
    have hlt : j < l.length := by omega
    obtain ⟨g0, g1, g2, g3⟩ := hl j hlt
    have hr := right_tells g2.i64n g2.i64d
    rw [g2.right] at hr
    refine Ev.step (f := fun k => (rat_Right.f k (at_ l j).f1.f0 (at_ l j).f1.f1).bind fun t113 => (if t113 = true then (if (j : Int) > 0 then (if 0 ≤ (wrap64 ((j : Int) - 1)) then (if (wrap64 ((j : Int) - 1)) < (l.length : Int) then (if ((rd_T29 l (wrap64 ((j : Int) - 1))).f0) ≥ (at_ l j).f0 then (some false) else (down_Right.l0 k l l (l.length : Int) (wrap64 ((j : Int) + 1)))) else (none)) else (none)) else (down_Right.l0 k l l (l.length : Int) (wrap64 ((j : Int) + 1)))) else (some false))) (fun k => ?_) ?_
    · simp only [down_Right.l0]
      rw [if_pos (by omega), if_pos (by omega), if_pos (by omega), rd_at, if_neg (by omega), if_neg (by omega)]
    · refine Ev.bind hr ?_
      simp only [if_true, wrap_succ hlt hn]
      by_cases h0 : 0 < j
      · have := g3 h0
        simp only [wrap_pred hlt hn h0, rd_at]
        simp only [if_pos (show (j : Int) > 0 by omega), if_pos (show 0 ≤ ((j - 1 : Nat) : Int) by omega), if_pos (show ((j - 1 : Nat) : Int) < (l.length : Int) by omega), if_neg (show ¬ (at_ l (j - 1)).f0 ≥ (at_ l j).f0 by omega)]
        exact ih (j + 1) (by omega)
      · simp only [if_neg (show ¬ (j : Int) > 0 by omega)]
        exact ih (j + 1) (by omega)
theorem down_right_tells (l : List S29) (hl : GoodL l) (hn : l.length < 4611686014132420609) : Ev (fun k => down_Right.f k l) true := down_right_at l hl hn _ 0 rfl
theorem rt_one {n : Int} (h1 : -2147483647 ≤ n) (h2 : n ≤ 2147483647) : Rt n 1 := by
  obtain ⟨e1, e2, e3⟩ := new_parts n 1 (by decide)
  simp only [Int.natAbs_one, Nat.gcd_one_right, Nat.div_one] at e1 e2 e3
  refine ⟨h1, h2, by decide, by decide, ?_, by rw [e1]; rfl⟩
  by_cases hn : n < 0
  · simp [hn] at e3; omega
  · simp [hn] at e3; omega
theorem of_tells {n : Int} (h1 : -2147483647 ≤ n) (h2 : n ≤ 2147483647) : Ev (fun k => rat_Of.f k n) (n, 1, 0) := by
  have h := new_tells (n := n) (d := 1) ⟨by omega, by omega⟩ ⟨by decide, by decide⟩
  have r := rt_one h1 h2
  have e : newQ n 1 = (n, 1, 0) := by
    unfold newQ Pure_ofQ
    have := r.num; have := r.den
    rw [if_neg (by decide), if_neg (by omega), r.num, r.den]
  rw [e] at h
  exact Ev.bind h (Ev.now _)
/-! ### samples with small numbers -/
theorem Rt.neg {n d : Int} (h : Rt n d) : Rt (-n) d := by
  have e : Rat.divInt (-n) d = - Rat.divInt n d := by rw [Rat.neg_divInt]
  exact ⟨by have := h.n2; omega, by have := h.n1; omega, h.d1, h.d2, by rw [e, Rat.neg_num, h.num], by rw [e, Rat.neg_den, h.den]⟩
structure Ok (x : S29) : Prop where
  rt : Rt x.f1.f0 x.f1.f1
  lo : -60 ≤ x.f1.f0
  hi : x.f1.f0 ≤ 60
  dd : x.f1.f1 ≤ 12
structure Smp (l : List S29) : Prop where
  len : l.length ≤ 20
  ok : ∀ j : Nat, j < l.length → Ok (at_ l j)
  t0 : ∀ j : Nat, j < l.length → 0 ≤ (at_ l j).f0 ∧ (at_ l j).f0 ≤ 40 * j
  up : ∀ j : Nat, j < l.length → 0 < j → (at_ l (j - 1)).f0 < (at_ l j).f0
theorem Smp.good {l : List S29} (h : Smp l) : GoodL l := fun j hj => ⟨(h.t0 j hj).1, by have := (h.t0 j hj).2; have := h.len; omega, (h.ok j hj).rt, h.up j hj⟩
theorem at_left {l : List S29} {x : S29} {j : Nat} (h : j < l.length) : at_ (l ++ [x]) j = at_ l j := by
  unfold at_; rw [List.getD_eq_getElem?_getD, List.getD_eq_getElem?_getD, List.getElem?_append_left h]
theorem at_last {l : List S29} {x : S29} : at_ (l ++ [x]) l.length = x := by
  unfold at_; rw [List.getD_eq_getElem?_getD, List.getElem?_append_right (Nat.le_refl _), Nat.sub_self]; rfl
theorem at_set {l : List S29} {x : S29} {i j : Nat} (h : j < l.length) : at_ (l.set i x) j = if i = j then x else at_ l j := by
  unfold at_
  rw [List.getD_eq_getElem?_getD, List.getD_eq_getElem?_getD, List.getElem?_set]
  by_cases e : i = j
  · subst e
    rw [if_pos rfl, if_pos h, if_pos rfl]
    rfl
  · rw [if_neg e, if_neg e]
theorem Smp.snoc {l : List S29} (h : Smp l) (hl : l.length < 20) {t : Int} {n d : Int} (hok : Ok ⟨t, ⟨n, d⟩⟩) (t0 : 0 ≤ t) (t1 : t ≤ 40 * l.length) (t2 : ∀ j : Nat, j < l.length → (at_ l j).f0 < t) : Smp (l ++ [⟨t, ⟨n, d⟩⟩]) := by
  have hlen : (l ++ [(⟨t, ⟨n, d⟩⟩ : S29)]).length = l.length + 1 := by rw [List.length_append]; rfl
  refine ⟨by omega, fun j hj => ?_, fun j hj => ?_, fun j hj h0 => ?_⟩
  · by_cases hlt : j < l.length
    · rw [at_left hlt]; exact h.ok j hlt
    · obtain rfl : j = l.length := by omega
      rw [at_last]; exact hok
  · by_cases hlt : j < l.length
    · rw [at_left hlt]; exact h.t0 j hlt
    · obtain rfl : j = l.length := by omega
      rw [at_last]; exact ⟨t0, t1⟩
  · by_cases hlt : j < l.length
    · rw [at_left hlt, at_left (by omega)]; exact h.up j hlt h0
    · obtain rfl : j = l.length := by omega
      rw [at_last, at_left (by omega)]; exact t2 _ (by omega)
theorem Smp.flip {l : List S29} (h : Smp l) {i : Nat} (hi : i < l.length) : Smp (l.set i ⟨(at_ l i).f0, ⟨-(at_ l i).f1.f0, (at_ l i).f1.f1⟩⟩) := by
  have hlen : (l.set i (⟨(at_ l i).f0, ⟨-(at_ l i).f1.f0, (at_ l i).f1.f1⟩⟩ : S29)).length = l.length := List.length_set
  refine ⟨by rw [hlen]; exact h.len, fun j hj => ?_, fun j hj => ?_, fun j hj h0 => ?_⟩
  · rw [hlen] at hj
    rw [at_set hj]
    by_cases e : i = j
    · subst e
      rw [if_pos rfl]
      have o := h.ok i hi
      exact ⟨o.rt.neg, by show -60 ≤ -(at_ l i).f1.f0; have := o.hi; omega, by show -(at_ l i).f1.f0 ≤ 60; have := o.lo; omega, o.dd⟩
    · rw [if_neg e]; exact h.ok j hj
  · rw [hlen] at hj
    rw [at_set hj]
    by_cases e : i = j
    · subst e
      rw [if_pos rfl]; exact h.t0 i hi
    · rw [if_neg e]; exact h.t0 j hj
  · rw [hlen] at hj
    rw [at_set hj, at_set (by omega)]
    have := h.up j hj h0
    by_cases e : i = j
    · subst e
      rw [if_pos rfl, if_neg (by omega)]; exact this
    · rw [if_neg e]
      by_cases e2 : i = j - 1
      · subst e2
        rw [if_pos rfl]; exact this
      · rw [if_neg e2]; exact this
theorem rdI_mem {l : List Int} {j : Nat} (h : j < l.length) : rd l (j : Int) ∈ l := by
  unfold rd
  rw [Int.toNat_natCast, List.getD_eq_getElem?_getD, List.getElem?_eq_getElem h]
  exact List.getElem_mem h
theorem samples_loop {xs ys : List Int} (hx : ∀ x ∈ xs, I64 x) (hy : ∀ y ∈ ys, I64 y) : ∀ (n i : Nat) (l : List S29) (t : Int), 20 - i = n → l.length = i → i ≤ 20 → Smp l → 0 ≤ t → t ≤ 40 * i → (∀ j : Nat, j < l.length → (at_ l j).f0 < t) →
    ∃ m, Smp m ∧ Ev (fun K => marigraphkeep_Samples.l0 K xs ys 20 l t (i : Int)) m := by
  intro n
  induction n with
  | zero =>
    intro i l t hn hl hi h t0 t1 t2
    have hj : Ev (fun K => marigraphkeep_Samples.j1 K xs ys 20 l t (i : Int) false) l := by
      refine Ev.step (f := fun _ => some l) (fun K => ?_) (Ev.now _)
      simp only [marigraphkeep_Samples.j1]
      rw [if_neg (by decide)]
    refine ⟨l, h, Ev.step (fun K => ?_) hj⟩
    simp only [marigraphkeep_Samples.l0]
    by_cases c : (i : Int) < (xs.length : Int)
    · rw [if_pos c, decide_eq_false (by omega)]
    · rw [if_neg c]
  | succ n ih =>
    intro i l t hn hl hi h t0 t1 t2
    by_cases c : i < xs.length
    · obtain ⟨r, hr, r1, r2, _⟩ := within_ev (lo := 1) (hi := 40) (by omega) (by omega) (by omega) (by omega) (hx _ (rdI_mem c))
      have e1 : wrap64 (t + r) = t + r := wrap64_id ⟨by omega, by omega⟩
      have e2 : wrap64 ((i : Int) + 1) = ((i + 1 : Nat) : Int) := wrap_succ (n := 20) (by omega) (by omega)
      have hnext : ∀ N D : Int, Rt N D → -60 ≤ N → N ≤ 60 → D ≤ 12 → ∃ m, Smp m ∧ Ev (fun K => marigraphkeep_Samples.l0 K xs ys 20 (l ++ [(⟨t, (⟨N, D⟩ : S27)⟩ : S29)]) (t + r) ((i + 1 : Nat) : Int)) m := by
        intro N D h1 h2 h3 h4
        have hlen : (l ++ [(⟨t, (⟨N, D⟩ : S27)⟩ : S29)]).length = l.length + 1 := by rw [List.length_append]; rfl
        refine ih (i + 1) _ (t + r) (by omega) (by omega) (by omega) (h.snoc (by omega) ⟨h1, h2, h3, h4⟩ t0 (by omega) t2) (by omega) (by omega) (fun j hj => ?_)
        by_cases hlt : j < l.length
        · rw [at_left hlt]; have := t2 j hlt; omega
        · obtain rfl : j = l.length := by omega
          rw [at_last]; show t < t + r; omega
      have hstep : ∀ m, Ev (fun K => marigraphkeep_Samples.j1 K xs ys 20 l t (i : Int) true) m → Ev (fun K => marigraphkeep_Samples.l0 K xs ys 20 l t (i : Int)) m := by
        intro m hm
        refine Ev.step (fun K => ?_) hm
        simp only [marigraphkeep_Samples.l0]
        rw [if_pos (by omega), decide_eq_true (by omega)]
      have hz : l.length < 5864062014805 := by omega
      by_cases cy : i < ys.length
      · have hw : I64 (wrap64 (1 + (Int.tmod (wrap64 ((Int.tmod (rd ys (i : Int)) 5) * (rd ys (i : Int)))) 5))) := by unfold I64 wrap64; omega
        obtain ⟨N, D, hk, k1, k2, k3, k4, k5⟩ := keep_tells (hy _ (rdI_mem cy)) hw
        obtain ⟨m, hm, he⟩ := hnext N D k1 k2 k3 k5
        refine ⟨m, hm, hstep m ?_⟩
        refine Ev.step (f := fun K => (marigraphkeep_Rat.f K (rd ys (i : Int)) (wrap64 (1 + (Int.tmod (wrap64 ((Int.tmod (rd ys (i : Int)) 5) * (rd ys (i : Int)))) 5)))).bind fun bt105 => ((marigraphbook_Within.f K (rd xs (i : Int)) 1 40).bind fun t111 => (marigraphkeep_Samples.l0 K xs ys 20 (l ++ [(⟨t, (⟨bt105.1, bt105.2⟩ : S27)⟩ : S29)]) (wrap64 (t + t111)) ((i + 1 : Nat) : Int)))) (fun K => ?_) ?_
        · simp only [marigraphkeep_Samples.j1]
          rw [if_pos trivial, if_pos (by omega), if_pos (by omega)]
          simp only [if_pos hz, if_pos (show (i : Int) < (xs.length : Int) by omega), e2]
        · refine Ev.bind hk (Ev.bind hr ?_)
          simp only [e1]
          exact he
      · obtain ⟨N, D, hk, k1, k2, k3, k4, k5⟩ := keep_tells (x := 0) (y := 1 + ((((0 : Int) % 5) * 0) % 5)) ⟨by decide, by decide⟩ ⟨by decide, by decide⟩
        obtain ⟨m, hm, he⟩ := hnext N D k1 k2 k3 k5
        refine ⟨m, hm, hstep m ?_⟩
        refine Ev.step (f := fun K => (marigraphkeep_Rat.f K 0 (1 + ((((0 : Int) % 5) * 0) % 5))).bind fun bt105 => ((marigraphbook_Within.f K (rd xs (i : Int)) 1 40).bind fun t111 => (marigraphkeep_Samples.l0 K xs ys 20 (l ++ [(⟨t, (⟨bt105.1, bt105.2⟩ : S27)⟩ : S29)]) (wrap64 (t + t111)) ((i + 1 : Nat) : Int)))) (fun K => ?_) ?_
        · simp only [marigraphkeep_Samples.j1]
          rw [if_pos trivial, if_neg (by omega)]
          simp only [if_pos hz, if_pos (show 0 ≤ (i : Int) by omega), if_pos (show (i : Int) < (xs.length : Int) by omega), e2]
        · refine Ev.bind hk (Ev.bind hr ?_)
          simp only [e1]
          exact he
    · have hj : Ev (fun K => marigraphkeep_Samples.j1 K xs ys 20 l t (i : Int) false) l := by
        refine Ev.step (f := fun _ => some l) (fun K => ?_) (Ev.now _)
        simp only [marigraphkeep_Samples.j1]
        rw [if_neg (by decide)]
      refine ⟨l, h, Ev.step (fun K => ?_) hj⟩
      simp only [marigraphkeep_Samples.l0]
      rw [if_neg (by omega)]
theorem samples_tells {xs ys : List Int} (hx : ∀ x ∈ xs, I64 x) (hy : ∀ y ∈ ys, I64 y) : ∃ m, Smp m ∧ Ev (fun K => marigraphkeep_Samples.f K xs ys 20) m :=
  samples_loop hx hy 20 0 [] 0 rfl rfl (by decide) ⟨by decide, fun j hj => absurd hj (Nat.not_lt_zero _), fun j hj => absurd hj (Nat.not_lt_zero _), fun j hj => absurd hj (Nat.not_lt_zero _)⟩ (Int.le_refl _) (by decide) (fun j hj => absurd hj (Nat.not_lt_zero _))
/-! ### changes -/
def vl (x : S29) : Rat := VQ x.f1.f0 x.f1.f1
def chQ (c : Bool) (m : Int) (x y : S29) : Rat := if c = true ∧ vl y < vl x then (VQ m 1 - vl x) + vl y else vl y - vl x
def rtQ (c : Bool) (m : Int) (x y : S29) : Rat := Rat.divInt (chQ c m x y).num ((chQ c m x y).den * (y.f0 - x.f0))
def stp (c : Bool) (m : Int) (x y : S29) : S29 := ⟨y.f0, ⟨(rtQ c m x y).num, ((rtQ c m x y).den : Int)⟩⟩
theorem Ok.bnd {x : S29} (h : Ok x) : Bnd (vl x) 60 12 := by
  obtain ⟨e1, e2⟩ := h.rt.toQ
  have := h.lo
  have := h.hi
  have := h.dd
  exact ⟨by show (VQ x.f1.f0 x.f1.f1).num.natAbs ≤ 60; rw [e1]; omega, by show (VQ x.f1.f0 x.f1.f1).den ≤ 12; omega⟩
theorem bnd_int {m : Int} (h0 : 0 ≤ m) (h1 : m ≤ 1000) : Bnd (VQ m 1) 1000 1 := by
  have r := rt_one (n := m) (by omega) (by omega)
  obtain ⟨e1, e2⟩ := r.toQ
  exact ⟨by rw [e1]; omega, by omega⟩
theorem chQ_bnd {x y : S29} (hx : Ok x) (hy : Ok y) (c : Bool) {m : Int} (h0 : 0 ≤ m) (h1 : m ≤ 1000) : Bnd (chQ c m x y) 145440 144 := by
  unfold chQ
  split
  · exact (bnd_add (bnd_sub (bnd_int h0 h1) hx.bnd) hy.bnd).le (by decide) (by decide)
  · exact (bnd_sub hy.bnd hx.bnd).le (by decide) (by decide)
theorem cmpQ_neg (a b : Rat) : cmpQ a b ≥ 0 ↔ ¬ a < b := by
  unfold cmpQ
  by_cases h1 : a < b
  · rw [if_pos h1]; simp [h1]
  · rw [if_neg h1]
    by_cases h3 : a = b
    · rw [if_pos h3]; simp [h1]
    · rw [if_neg h3]; simp [h1]
theorem change_tells {x y : S29} (hx : Ok x) (hy : Ok y) (c : Bool) {m : Int} (h0 : 0 ≤ m) (h1 : m ≤ 1000) :
    Ev (fun K => rate_change.f K x.f0 x.f1.f0 x.f1.f1 y.f0 y.f1.f0 y.f1.f1 c m) ((chQ c m x y).num, ((chQ c m x y).den : Int), 0) := by
  have ht := told (chQ_bnd hx hy c h0 h1) (by decide) (by decide)
  have hsub : ¬ (c = true ∧ vl y < vl x) → Ev (fun K => rate_change.j0 K m true x.f0 x.f1.f0 x.f1.f1 y.f0 y.f1.f0 y.f1.f1) ((chQ c m x y).num, ((chQ c m x y).den : Int), 0) := by
    intro hn
    have e : chQ c m x y = VQ y.f1.f0 y.f1.f1 - VQ x.f1.f0 x.f1.f1 := by unfold chQ; rw [if_neg hn]; rfl
    have s := Sub_tells hy.rt hx.rt
    rw [← e, ht.1] at s
    refine Ev.step (f := fun K => (rat_Sub.f K y.f1.f0 y.f1.f1 x.f1.f0 x.f1.f1).bind fun t => some (t.1, t.2.1, t.2.2)) (fun K => ?_) (Ev.bind s (Ev.now _))
    simp only [rate_change.j0, if_true]
  unfold rate_change.f
  cases c with
  | false =>
    simp only [Bool.false_eq_true, if_false]
    exact hsub (fun h => by cases h.1)
  | true =>
    simp only [if_true]
    refine Ev.bind (cmp_tells hy.rt hx.rt) ?_
    by_cases hlt : vl y < vl x
    · have hd : decide (cmpQ (VQ y.f1.f0 y.f1.f1) (VQ x.f1.f0 x.f1.f1) ≥ 0) = false := decide_eq_false (fun h => (cmpQ_neg _ _).1 h hlt)
      simp only [hd]
      have r1 := rt_one (n := m) (by omega) (by omega)
      have s1 := Sub_tells r1 hx.rt
      have t1 := told ((bnd_sub (bnd_int h0 h1) hx.bnd).le (show 1000 * 12 + 60 * 1 ≤ 12060 by decide) (show 1 * 12 ≤ 12 by decide)) (by decide) (by decide)
      have e1 : VQ m 1 - VQ x.f1.f0 x.f1.f1 = VQ m 1 - vl x := rfl
      rw [e1, t1.1] at s1
      have s2 := Add_tells t1.2 hy.rt
      have e2 : VQ (VQ m 1 - vl x).num ((VQ m 1 - vl x).den : Int) + VQ y.f1.f0 y.f1.f1 = chQ true m x y := by
        unfold chQ
        rw [if_pos ⟨rfl, hlt⟩, VQ_self]
        rfl
      rw [e2, ht.1] at s2
      refine Ev.step (f := fun K => (rat_Of.f K m).bind fun bt186 => (if bt186.2.2 = 0 then ((rat_Sub.f K bt186.1 bt186.2.1 x.f1.f0 x.f1.f1).bind fun bt190 => (if bt190.2.2 = 0 then ((rat_Add.f K bt190.1 bt190.2.1 y.f1.f0 y.f1.f1).bind fun bt194 => (some (bt194.1, bt194.2.1, bt194.2.2))) else (some (0, 0, bt190.2.2)))) else (some (0, 0, bt186.2.2)))) (fun K => ?_) ?_
      · simp only [rate_change.j0, Bool.false_eq_true, if_false]
      · refine Ev.bind (of_tells (by omega) (by omega)) ?_
        simp only [if_true]
        refine Ev.bind s1 ?_
        simp only [if_true]
        exact Ev.bind s2 (Ev.now _)
    · have hd : decide (cmpQ (VQ y.f1.f0 y.f1.f1) (VQ x.f1.f0 x.f1.f1) ≥ 0) = true := decide_eq_true ((cmpQ_neg _ _).2 hlt)
      simp only [hd]
      exact hsub (fun h => hlt h.2)
def doL (c : Bool) (m : Int) (l : List S29) : List S29 := (List.range (l.length - 1)).map fun i => stp c m (at_ l i) (at_ l (i + 1))
theorem doL_len (c : Bool) (m : Int) (l : List S29) : (doL c m l).length = l.length - 1 := by unfold doL; rw [List.length_map, List.length_range]
theorem doL_at {c : Bool} {m : Int} {l : List S29} {i : Nat} (h : i < l.length - 1) : at_ (doL c m l) i = stp c m (at_ l i) (at_ l (i + 1)) := by
  show (doL c m l).getD i z29 = _
  unfold doL
  rw [List.getD_eq_getElem?_getD, List.getElem?_map, List.getElem?_range h]
  rfl
theorem do_loop (c : Bool) {m : Int} (h0 : 0 ≤ m) (h1 : m ≤ 1000) {l : List S29} (h : Smp l) : ∀ n i : Nat, 1 ≤ i → l.length - i = n → i ≤ l.length →
    Ev (fun K => rate_Do.l0 K l c m ((List.range (i - 1)).map fun i => stp c m (at_ l i) (at_ l (i + 1))) (i : Int)) (doL c m l, 0) := by
  intro n
  induction n with
  | zero =>
    intro i hi hn hle
    have e : i = l.length := by omega
    subst e
    refine Ev.step (f := fun _ => some (doL c m l, 0)) (fun K => ?_) (Ev.now _)
    simp only [rate_Do.l0]
    rw [if_neg (Int.lt_irrefl _)]
    rfl
  | succ n ih =>
    intro i hi hn hle
    have hlt : i < l.length := by omega
    have hl20 := h.len
    obtain ⟨g0, g1⟩ := h.t0 i hlt
    obtain ⟨p0, p1⟩ := h.t0 (i - 1) (by omega)
    have g3 := h.up i hlt (by omega)
    have ox := h.ok (i - 1) (by omega)
    have oy := h.ok i hlt
    have s1 := change_tells ox oy c h0 h1
    have hb := chQ_bnd ox oy c h0 h1
    have ht := told hb (by decide) (by decide)
    have hd : wrap64 ((at_ l i).f0 - (at_ l (i - 1)).f0) = (at_ l i).f0 - (at_ l (i - 1)).f0 := wrap64_id ⟨by omega, by omega⟩
    have s2 := of_tells (n := (at_ l i).f0 - (at_ l (i - 1)).f0) (by omega) (by omega)
    have r2 : Rt ((at_ l i).f0 - (at_ l (i - 1)).f0) 1 := rt_one (by omega) (by omega)
    have s3 := Div_tells ht.2 r2
    have hden := (chQ c m (at_ l (i - 1)) (at_ l i)).den_pos
    have e3 : newQ ((chQ c m (at_ l (i - 1)) (at_ l i)).num * 1) (((chQ c m (at_ l (i - 1)) (at_ l i)).den : Int) * ((at_ l i).f0 - (at_ l (i - 1)).f0)) = ((rtQ c m (at_ l (i - 1)) (at_ l i)).num, ((rtQ c m (at_ l (i - 1)) (at_ l i)).den : Int), 0) := by
      have hne : ((chQ c m (at_ l (i - 1)) (at_ l i)).den : Int) * ((at_ l i).f0 - (at_ l (i - 1)).f0) ≠ 0 := Int.mul_ne_zero (by omega) (by omega)
      unfold newQ
      rw [if_neg hne, Int.mul_one]
      have hbb := bnd_of (n := (chQ c m (at_ l (i - 1)) (at_ l i)).num) hne
      have hd2 : (((chQ c m (at_ l (i - 1)) (at_ l i)).den : Int) * ((at_ l i).f0 - (at_ l (i - 1)).f0)).natAbs ≤ 144 * 1000 := by
        rw [Int.natAbs_mul]
        exact Nat.mul_le_mul (by rw [Int.natAbs_natCast]; exact hb.2) (by omega)
      exact (told (hbb.le hb.1 hd2) (by decide) (by decide)).1
    rw [e3] at s3
    refine Ev.step (f := fun K => (rate_change.f K (at_ l (i - 1)).f0 (at_ l (i - 1)).f1.f0 (at_ l (i - 1)).f1.f1 (at_ l i).f0 (at_ l i).f1.f0 (at_ l i).f1.f1 c m).bind fun bt202 => (if bt202.2.2 = 0 then ((rat_Of.f K ((at_ l i).f0 - (at_ l (i - 1)).f0)).bind fun bt208 => (if bt208.2.2 = 0 then ((rat_Div.f K bt202.1 bt202.2.1 bt208.1 bt208.2.1).bind fun bt212 => (if bt212.2.2 = 0 then (rate_Do.l0 K l c m (((List.range (i - 1)).map fun i => stp c m (at_ l i) (at_ l (i + 1))) ++ [(⟨(at_ l i).f0, (⟨bt212.1, bt212.2.1⟩ : S27)⟩ : S29)]) ((i + 1 : Nat) : Int)) else (some (([] : List (S29)), bt212.2.2)))) else (some (([] : List (S29)), bt208.2.2)))) else (some (([] : List (S29)), bt202.2.2)))) (fun K => ?_) ?_
    · simp only [rate_Do.l0]
      rw [if_pos (by omega), wrap_pred hlt (by omega) hi, wrap_succ hlt (by omega), rd_at, rd_at, hd, if_pos (by omega), if_pos (by omega), if_pos (by omega)]
      have hz : ((List.range (i - 1)).map fun i => stp c m (at_ l i) (at_ l (i + 1))).length < 5864062014805 := by rw [List.length_map, List.length_range]; omega
      simp only [if_pos hz]
    · refine Ev.bind s1 ?_
      simp only [if_true]
      refine Ev.bind s2 ?_
      simp only [if_true]
      refine Ev.bind s3 ?_
      simp only [if_true]
      have hi2 := ih (i + 1) (by omega) (by omega) (by omega)
      have er : ((List.range (i + 1 - 1)).map fun i => stp c m (at_ l i) (at_ l (i + 1))) = ((List.range (i - 1)).map fun i => stp c m (at_ l i) (at_ l (i + 1))) ++ [stp c m (at_ l (i - 1)) (at_ l i)] := by
        obtain ⟨k, rfl⟩ : ∃ k, i = k + 1 := ⟨i - 1, by omega⟩
        rw [Nat.add_sub_cancel, Nat.add_sub_cancel, List.range_succ, List.map_append]
        rfl
      rw [er] at hi2
      exact hi2
theorem do_tells (c : Bool) {m : Int} (h0 : 0 ≤ m) (h1 : m ≤ 1000) (hc : c = true → 1 ≤ m) {l : List S29} (h : Smp l) : Ev (fun K => rate_Do.f K l c m) (doL c m l, 0) := by
  have hl := h.len
  have hj : Ev (fun K => rate_Do.j0 K l c m false) (doL c m l, 0) := by
    by_cases he : l.length = 0
    · have hnil := List.length_eq_zero_iff.1 he
      subst hnil
      refine Ev.step (f := fun K => rate_Do.l0 K [] c m [] 1) (fun K => ?_) ?_
      · simp only [rate_Do.j0, Bool.false_eq_true, if_false]
      · refine Ev.step (f := fun _ => some (doL c m [], 0)) (fun K => ?_) (Ev.now _)
        simp only [rate_Do.l0]
        rw [if_neg (by decide)]
        rfl
    · have d := do_loop c h0 h1 h _ 1 (Nat.le_refl 1) rfl (by omega)
      refine Ev.step (f := fun K => rate_Do.l0 K l c m [] 1) (fun K => ?_) d
      simp only [rate_Do.j0, Bool.false_eq_true, if_false]
  refine Ev.bind (down_right_tells l h.good (by omega)) ?_
  simp only [if_true]
  cases c with
  | false => simp only [Bool.false_eq_true, if_false]; exact hj
  | true => simp only [if_true, if_neg (show ¬ m < 1 by have := hc rfl; omega), decide_eq_false (show ¬ m > 2147483647 by omega)]; exact hj
/-! ### a counter's changes -/
theorem vl_pos {x : S29} (h : Ok x) (h0 : 0 ≤ x.f1.f0) : 0 ≤ vl x := by
  have := h.rt.d1
  exact (Rat.divInt_nonneg_iff_of_pos_right (by omega)).2 h0
theorem vl_le {x : S29} (h : Ok x) {m : Int} (hm : 60 ≤ m ∧ m ≤ 1000) : vl x ≤ VQ m 1 := by
  have hd := h.rt.d1
  have hh := h.hi
  have hdd := h.dd
  have r := rt_one (n := m) (by omega) (by omega)
  have hn : ¬ VQ m 1 < VQ x.f1.f0 x.f1.f1 := by
    intro hlt
    have h2 := (ratlt r h.rt).2 hlt
    have h3 : m * 1 ≤ m * x.f1.f1 := Int.mul_le_mul_of_nonneg_left hd (by omega)
    omega
  show VQ x.f1.f0 x.f1.f1 ≤ VQ m 1
  grind
theorem rtQ_pos {x y : S29} {c : Bool} {m : Int} (ht : x.f0 < y.f0) : 0 ≤ (rtQ c m x y).num ↔ 0 ≤ chQ c m x y := by
  have hden := (chQ c m x y).den_pos
  have hp : (0 : Int) < (chQ c m x y).den * (y.f0 - x.f0) := Int.mul_pos (by omega) (by omega)
  rw [Rat.num_nonneg]
  unfold rtQ
  rw [Rat.divInt_nonneg_iff_of_pos_right hp, Rat.num_nonneg]
theorem chQ_pos {x y : S29} (hx : Ok x) (hy : Ok y) (x0 : 0 ≤ x.f1.f0) (y0 : 0 ≤ y.f1.f0) {m : Int} (hm : 60 ≤ m ∧ m ≤ 1000) : 0 ≤ chQ true m x y := by
  have a := vl_pos hx x0
  have b := vl_pos hy y0
  have e := vl_le hx hm
  unfold chQ
  split
  · grind
  · rename_i h
    have : ¬ vl y < vl x := fun h1 => h ⟨rfl, h1⟩
    grind
theorem chQ_same {x y : S29} {m : Int} (h : 0 ≤ chQ false 0 x y) : chQ true m x y = chQ false 0 x y := by
  have e : chQ false 0 x y = vl y - vl x := by
    unfold chQ
    rw [if_neg (fun h => by cases h.1)]
  rw [e] at h ⊢
  have : ¬ vl y < vl x := by grind
  unfold chQ
  rw [if_neg (fun h1 => this h1.2)]
theorem known_ev : Ev (fun k => marigraphlaw24_known.f k) true := Ev.of (k := 60) marigraphlaw24_known.mono (by decide +kernel)
theorem hold_loop {l : List S29} (h : Smp l) (hp : ∀ j : Nat, j < l.length → 0 ≤ (at_ l j).f1.f0) {m : Int} (hm : 60 ≤ m ∧ m ≤ 1000) : ∀ n i : Nat, l.length - 1 - i = n → i ≤ l.length - 1 →
    Ev (fun K => marigraphlaw24_RateCounters.l1 K (doL true m l) (doL false 0 l) (i : Int)) true := by
  intro n
  induction n with
  | zero =>
    intro i hn hi
    refine Ev.step (f := fun K => (marigraphlaw24_known.f K).bind fun t274 => (some t274)) (fun K => ?_) (Ev.bind known_ev (Ev.now _))
    simp only [marigraphlaw24_RateCounters.l1, doL_len]
    rw [if_neg (by omega)]
  | succ n ih =>
    intro i hn hi
    have hlt : i < l.length - 1 := by omega
    have hl20 := h.len
    have hnx := ih (i + 1) (by omega) (by omega)
    have ht := h.up (i + 1) (by omega) (by omega)
    rw [Nat.add_sub_cancel] at ht
    have hc := chQ_pos (h.ok i (by omega)) (h.ok (i + 1) (by omega)) (hp i (by omega)) (hp (i + 1) (by omega)) hm
    have hA : 0 ≤ (stp true m (at_ l i) (at_ l (i + 1))).f1.f0 := (rtQ_pos ht).2 hc
    have e2 : wrap64 ((i : Int) + 1) = ((i + 1 : Nat) : Int) := wrap_succ (n := 20) (by omega) (by omega)
    refine Ev.step (fun K => ?_) hnx
    simp only [marigraphlaw24_RateCounters.l1, doL_len, rd_at, doL_at hlt, e2]
    rw [if_pos (by omega), if_pos (by omega), if_neg (by omega), if_pos (by omega), if_pos (show (stp true m (at_ l i) (at_ l (i + 1))).f0 = (stp false 0 (at_ l i) (at_ l (i + 1))).f0 from rfl)]
    by_cases hB : (stp false 0 (at_ l i) (at_ l (i + 1))).f1.f0 ≥ 0
    · have hc2 := chQ_same (m := m) ((rtQ_pos (c := false) (m := 0) ht).1 hB)
      have e : stp true m (at_ l i) (at_ l (i + 1)) = stp false 0 (at_ l i) (at_ l (i + 1)) := by
        unfold stp rtQ
        rw [hc2]
      rw [if_pos hB, e, if_neg (by simp)]
    · rw [if_neg hB]
theorem flip_loop {m : Int} (hm : 60 ≤ m ∧ m ≤ 1000) : ∀ (n i : Nat) (l : List S29), l.length - i = n → i ≤ l.length → Smp l → (∀ j : Nat, j < i → 0 ≤ (at_ l j).f1.f0) →
    Ev (fun K => marigraphlaw24_RateCounters.l0 K m l (i : Int)) true := by
  intro n
  induction n with
  | zero =>
    intro i l hn hi h hp
    have e : i = l.length := by omega
    have hl20 := h.len
    subst e
    refine Ev.step (f := fun K => (rate_Do.f K l true m).bind fun bt260 => ((rate_Do.f K l false 0).bind fun bt264 => (if bt260.2 = 0 then (if bt264.2 = 0 then (marigraphlaw24_RateCounters.j1 K bt260.1 bt264.1 ((bt260.1.length : Int) != (bt264.1.length : Int))) else (marigraphlaw24_RateCounters.j1 K bt260.1 bt264.1 true)) else (marigraphlaw24_RateCounters.j1 K bt260.1 bt264.1 true)))) (fun K => ?_) ?_
    · simp only [marigraphlaw24_RateCounters.l0]
      rw [if_neg (Int.lt_irrefl _)]
    · refine Ev.bind (do_tells true (m := m) (by omega) (by omega) (fun _ => by omega) h) ?_
      refine Ev.bind (do_tells false (m := 0) (by omega) (by omega) (fun h => by cases h) h) ?_
      have e : (((doL true m l).length : Int) != ((doL false 0 l).length : Int)) = false := by rw [doL_len, doL_len]; simp
      simp only [if_true, e]
      refine Ev.step (fun K => ?_) (hold_loop h hp hm _ 0 rfl (Nat.zero_le _))
      simp only [marigraphlaw24_RateCounters.j1, Bool.false_eq_true, if_false]
      rfl
  | succ n ih =>
    intro i l hn hi h hp
    have hlt : i < l.length := by omega
    have hl20 := h.len
    have o := h.ok i hlt
    have olo := o.lo
    have ohi := o.hi
    have e2 : wrap64 ((i : Int) + 1) = ((i + 1 : Nat) : Int) := wrap_succ (n := 20) (by omega) (by omega)
    by_cases hneg : (at_ l i).f1.f0 < 0
    · have e1 : wrap64 (-(at_ l i).f1.f0) = -(at_ l i).f1.f0 := wrap64_id ⟨by omega, by omega⟩
      have hlen : (l.set i (⟨(at_ l i).f0, ⟨-(at_ l i).f1.f0, (at_ l i).f1.f1⟩⟩ : S29)).length = l.length := List.length_set
      have hn2 := ih (i + 1) (l.set i (⟨(at_ l i).f0, ⟨-(at_ l i).f1.f0, (at_ l i).f1.f1⟩⟩ : S29)) (by omega) (by omega) (h.flip hlt) (fun j hj => by
        rw [at_set (by omega)]
        by_cases e : i = j
        · rw [if_pos e]; show 0 ≤ -(at_ l i).f1.f0; omega
        · rw [if_neg e]; exact hp j (by omega))
      refine Ev.step (fun K => ?_) hn2
      simp only [marigraphlaw24_RateCounters.l0, rd_at, e2, e1, Int.toNat_natCast]
      rw [if_pos (by omega), if_pos (by omega), if_pos hneg]
    · have hn2 := ih (i + 1) l (by omega) (by omega) h (fun j hj => by
        by_cases e : j = i
        · subst e; omega
        · exact hp j (by omega))
      refine Ev.step (fun K => ?_) hn2
      simp only [marigraphlaw24_RateCounters.l0, rd_at, e2]
      rw [if_pos (by omega), if_pos (by omega), if_neg hneg]
theorem RateCounters : marigraphlaw24_RateCounters.Pure := by
  intro xs ys top _ _ hx _ _ hy ht
  refine Ev.rounds ?_
  obtain ⟨m, hm, m1, m2, _⟩ := within_ev (lo := 60) (hi := 1000) (by omega) (by omega) (by omega) (by omega) (i64_of ht)
  obtain ⟨l, hl, he⟩ := samples_tells (fun x h => i64_of (hx x h)) (fun y h => i64_of (hy y h))
  unfold marigraphlaw24_RateCounters.f
  refine Ev.bind hm (Ev.bind he ?_)
  exact flip_loop ⟨m1, m2⟩ _ 0 l rfl (Nat.zero_le _) hl (fun j hj => absurd hj (Nat.not_lt_zero _))

end Go.Proofs.Ytflhpfdjobbgkaa.Pure

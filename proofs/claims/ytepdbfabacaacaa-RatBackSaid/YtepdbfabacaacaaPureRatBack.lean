/- What is written is read again, and what is read is written so; no condition beyond the statement's own. -/
import Derived.Test.YtepdbfabacaacaaPRatBackx6
namespace Go.Proofs.Ytepdbfabacaacaa.Pure
open Go.RowKit Go.Proofs.Ytepdbfabacaacaa.PRatBack Go.Proofs.YtepdbfabacaacaaW.PrintWords Go.Proofs.YtepdbfabacaacaaW.PrintLast
set_option linter.unusedVariables false
set_option linter.unusedSimpArgs false

theorem i64_of {a : Int} (h : (Lit.int .i64 a).wf = true) : -9223372036854775808 ≤ a ∧ a ≤ 9223372036854775807 := by
  have h1 : IntKind.i64.min = -9223372036854775808 := rfl
  have h2 : IntKind.i64.max = 9223372036854775807 := rfl
  simp only [Lit.wf, Bool.and_eq_true, decide_eq_true_eq] at h
  omega
/-! ### rationals: New, Right -/
def Pure_ofQ (q : Rat) : Int × Int × Int := if q.num.natAbs > 2147483647 ∨ q.den > 2147483647 then (0, 0, 23) else (q.num, (q.den : Int), 0)
def newQ (n d : Int) : Int × Int × Int := if d = 0 then (0, 0, 1) else Pure_ofQ (Rat.divInt n d)
def I64 (n : Int) : Prop := -9223372036854775808 ≤ n ∧ n ≤ 9223372036854775807
theorem wrapU {x : Int} (h0 : 0 ≤ x) (h1 : x < 18446744073709551616) : IntKind.u64.wrap x = x := by
  have : IntKind.u64.wrap x = x % 18446744073709551616 := by simp [IntKind.wrap, IntKind.bits, IntKind.signed]
  rw [this]; exact Int.emod_eq_of_lt h0 h1
theorem wrapU_eq (x : Int) : IntKind.u64.wrap x = x % 18446744073709551616 := by simp [IntKind.wrap, IntKind.bits, IntKind.signed]
theorem wrap64_id {x : Int} (h : I64 x) : wrap64 x = x := by unfold I64 at h; unfold wrap64; omega
theorem size_tells {n : Int} (h : I64 n) : rat_size.f n = some (n.natAbs : Int) := by
  unfold I64 at h
  unfold rat_size.f
  by_cases hn : n < 0
  · rw [if_pos hn, wrapU_eq, wrapU_eq]
    congr 1
    omega
  · rw [if_neg hn, wrapU_eq]
    congr 1
    omega
theorem common_tells (b : Nat) : ∀ (a k : Nat), b < k → rat_common.l0 k (a : Int) (b : Int) = some ((Nat.gcd a b : Nat) : Int) := by
  induction b using Nat.strongRecOn with
  | _ b ih =>
    intro a k hk
    obtain ⟨k, rfl⟩ : ∃ m, k = m + 1 := ⟨k - 1, by omega⟩
    simp only [rat_common.l0]
    by_cases hb : b = 0
    · subst hb
      rw [if_neg (by omega), Nat.gcd_zero_right]
    · rw [if_pos (by omega), if_neg (by omega)]
      have e : Int.tmod (a : Int) (b : Int) = ((a % b : Nat) : Int) := by rw [Int.ofNat_tmod]
      have hl : a % b < b := Nat.mod_lt _ (by omega)
      rw [e, ih (a % b) hl b k (by omega), Nat.gcd_comm a b, Nat.gcd_rec b a, Nat.gcd_comm]
theorem new_parts (n d : Int) (hd : d ≠ 0) : (Rat.divInt n d).den = d.natAbs / Nat.gcd n.natAbs d.natAbs ∧ (Rat.divInt n d).num.natAbs = n.natAbs / Nat.gcd n.natAbs d.natAbs ∧
    (if (decide (n < 0)) != (decide (d < 0)) then (Rat.divInt n d).num = -((n.natAbs / Nat.gcd n.natAbs d.natAbs : Nat) : Int) else (Rat.divInt n d).num = ((n.natAbs / Nat.gcd n.natAbs d.natAbs : Nat) : Int)) := by
  have hg : Int.gcd d n = Nat.gcd n.natAbs d.natAbs := by unfold Int.gcd; exact Nat.gcd_comm _ _
  have hpos : 0 < Nat.gcd n.natAbs d.natAbs := Nat.gcd_pos_of_pos_right _ (by omega)
  refine ⟨by rw [Rat.den_divInt, if_neg hd, hg], ?_⟩
  rw [Rat.num_divInt, hg]
  obtain ⟨c, hc⟩ : ∃ c : Int, n = (Nat.gcd n.natAbs d.natAbs : Int) * c := by
    have : ((Nat.gcd n.natAbs d.natAbs : Nat) : Int) ∣ n := Int.natAbs_dvd_natAbs.1 (by rw [Int.natAbs_natCast]; exact Nat.gcd_dvd_left _ _)
    exact this
  generalize Nat.gcd n.natAbs d.natAbs = g at *
  have hA : n.natAbs / g = c.natAbs := by
    rw [hc, Int.natAbs_mul, Int.natAbs_natCast]
    exact Nat.mul_div_cancel_left _ hpos
  have hnc : (n < 0 ↔ c < 0) := by
    have hg0 : (0 : Int) < (g : Int) := by omega
    constructor
    · intro h
      by_cases h' : c < 0
      · exact h'
      · have := Int.mul_nonneg (Int.le_of_lt hg0) (Int.not_lt.1 h'); omega
    · intro h
      have := Int.mul_neg_of_pos_of_neg hg0 h; omega
  rw [hA]
  have hq : d.sign * n / (g : Int) = d.sign * c := by
    rw [hc, ← Int.mul_assoc, Int.mul_comm d.sign, Int.mul_assoc]
    exact Int.mul_ediv_cancel_left _ (by omega)
  rw [hq]
  rcases Int.lt_trichotomy d 0 with h | h | h
  · rw [Int.sign_eq_neg_one_of_neg h]
    have h1 : decide (d < 0) = true := decide_eq_true h
    rw [h1]
    by_cases hn : n < 0
    · have h2 := hnc.1 hn
      rw [decide_eq_true hn]
      simp only [bne_self_eq_false, Bool.false_eq_true, if_false]
      omega
    · have h2 : ¬ c < 0 := fun h => hn (hnc.2 h)
      rw [decide_eq_false hn]
      simp only [Bool.bne_true, Bool.not_false, if_true]
      omega
  · exact absurd h hd
  · rw [Int.sign_eq_one_of_pos h]
    have h1 : decide (d < 0) = false := decide_eq_false (by omega)
    rw [h1]
    by_cases hn : n < 0
    · have h2 := hnc.1 hn
      rw [decide_eq_true hn]
      simp only [Bool.bne_false, if_true]
      omega
    · have h2 : ¬ c < 0 := fun h => hn (hnc.2 h)
      rw [decide_eq_false hn]
      simp only [bne_self_eq_false, Bool.false_eq_true, if_false]
      omega
theorem new_at (n d : Int) (hn : I64 n) (hd : I64 d) (k : Nat) (hk : d.natAbs + 2 < k) : rat_New.f k n d = some (newQ n d) := by
  unfold rat_New.f newQ
  by_cases h0 : d = 0
  · rw [if_pos h0, if_pos h0]
  rw [if_neg h0, if_neg h0, size_tells hn, size_tells hd]
  simp only [Option.bind_some]
  unfold rat_common.f
  rw [common_tells d.natAbs n.natAbs k (by omega)]
  simp only [Option.bind_some]
  obtain ⟨e1, e2, e3⟩ := new_parts n d h0
  have hpos : 0 < Nat.gcd n.natAbs d.natAbs := Nat.gcd_pos_of_pos_right _ (by omega)
  generalize Nat.gcd n.natAbs d.natAbs = g at *
  have t1 : IntKind.u64.wrap (Int.tdiv (n.natAbs : Int) (g : Int)) = ((n.natAbs / g : Nat) : Int) := by
    rw [← Int.ofNat_tdiv]
    have := Nat.div_le_self n.natAbs g
    unfold I64 at hn
    exact wrapU (by omega) (by omega)
  have t2 : IntKind.u64.wrap (Int.tdiv (d.natAbs : Int) (g : Int)) = ((d.natAbs / g : Nat) : Int) := by
    rw [← Int.ofNat_tdiv]
    have := Nat.div_le_self d.natAbs g
    unfold I64 at hd
    exact wrapU (by omega) (by omega)
  rw [t1, t2, if_neg (by omega)]
  unfold Pure_ofQ
  rw [e1, e2]
  generalize n.natAbs / g = A at *
  generalize d.natAbs / g = B at *
  obtain ⟨k, rfl⟩ : ∃ m, k = m + 1 := ⟨k - 1, by omega⟩
  by_cases hA : (A : Int) > 2147483647
  · rw [if_pos hA, if_pos (Or.inl (by omega))]
    simp only [rat_New.j0, if_true]
  · rw [if_neg hA]
    by_cases hB : (B : Int) > 2147483647
    · rw [decide_eq_true hB, if_pos (Or.inr (by omega))]
      simp only [rat_New.j0, if_true]
    · rw [decide_eq_false hB, if_neg (by omega)]
      simp only [rat_New.j0, Bool.false_eq_true, if_false]
      have w1 : wrap64 (A : Int) = (A : Int) := wrap64_id (by unfold I64; omega)
      have w2 : wrap64 (B : Int) = (B : Int) := wrap64_id (by unfold I64; omega)
      have w3 : wrap64 (-(A : Int)) = -(A : Int) := wrap64_id (by unfold I64; omega)
      rw [w1, w2, w3]
      by_cases hs : ((decide (n < 0)) != (decide (d < 0))) = true
      · rw [if_pos hs] at e3 ⊢
        rw [e3]
      · rw [if_neg hs] at e3 ⊢
        rw [e3]
theorem new_tells {n d : Int} (hn : I64 n) (hd : I64 d) : Ev (fun k => rat_New.f k n d) (newQ n d) := ⟨d.natAbs + 3, fun k hk => new_at n d hn hd k (by omega)⟩
/-- A number that is right: in lowest terms, within the bounds. -/
structure Rt (n d : Int) : Prop where
  n1 : -2147483647 ≤ n
  n2 : n ≤ 2147483647
  d1 : 1 ≤ d
  d2 : d ≤ 2147483647
  num : (Rat.divInt n d).num = n
  den : ((Rat.divInt n d).den : Int) = d
def rightQ (n d : Int) : Bool := decide (d > 0) && decide (newQ n d = (n, d, 0))
theorem Rt.right {n d : Int} (h : Rt n d) : rightQ n d = true := by
  unfold rightQ newQ Pure_ofQ
  have h1 := h.n1
  have h2 := h.n2
  have h3 := h.d1
  have h4 := h.d2
  have h5 := h.num
  have h6 := h.den
  rw [if_neg (by omega), if_neg (by omega), h5, h6]
  simp only [decide_true, Bool.and_true, decide_eq_true_eq]
  omega
theorem Rt.of_right {n d : Int} (h : rightQ n d = true) : Rt n d := by
  unfold rightQ newQ Pure_ofQ at h
  rw [Bool.and_eq_true, decide_eq_true_eq, decide_eq_true_eq] at h
  obtain ⟨hd, h⟩ := h
  rw [if_neg (by omega)] at h
  by_cases hb : (Rat.divInt n d).num.natAbs > 2147483647 ∨ (Rat.divInt n d).den > 2147483647
  · rw [if_pos hb] at h
    simp only [Prod.mk.injEq] at h
    omega
  · rw [if_neg hb] at h
    simp only [Prod.mk.injEq, and_true] at h
    obtain ⟨h1, h2⟩ := h
    exact ⟨by omega, by omega, by omega, by omega, h1, h2⟩
theorem right_tells {n d : Int} (hn : I64 n) (hd : I64 d) : Ev (fun k => rat_Right.f k n d) (rightQ n d) := by
  refine Ev.bind (new_tells hn hd) ?_
  unfold rightQ
  by_cases h0 : d > 0
  · simp only [if_pos h0, decide_eq_true h0, Bool.true_and]
    obtain ⟨a, b, c⟩ := newQ n d
    simp only [Prod.mk.injEq]
    by_cases hc : c = 0
    · simp only [if_pos hc]
      refine ⟨0, fun _ _ => ?_⟩
      show some _ = some _
      congr 1
      rw [Bool.eq_iff_iff]
      simp [hc]
    · simp only [if_neg hc]
      refine ⟨0, fun _ _ => ?_⟩
      show some _ = some _
      congr 1
      simp [hc]
  · simp only [if_neg h0, decide_eq_false h0, Bool.false_and]
    exact Ev.now _
theorem Rt.i64n {n d : Int} (h : Rt n d) : I64 n := ⟨by have := h.n1; omega, by have := h.n2; omega⟩
theorem Rt.i64d {n d : Int} (h : Rt n d) : I64 d := ⟨by have := h.d1; omega, by have := h.d2; omega⟩
/-! ### marigraphkeep.Rat: a right number, small -/
theorem within_ev {n lo hi : Int} (h1 : 0 ≤ lo + 1000) (h2 : lo ≤ hi) (h3 : hi < 1000000) (h4 : -1000 ≤ lo) (hn : I64 n) : ∃ r, Ev (fun k => marigraphbook_Within.f k n lo hi) r ∧ lo ≤ r ∧ r ≤ hi ∧ (lo ≤ n → n ≤ hi → r = n) := by
  unfold I64 at hn
  have e1 : wrap64 (wrap64 (hi - lo) + 1) = hi - lo + 1 := by unfold wrap64; omega
  have hj : ∀ b : Bool, (b = true ↔ (lo ≤ n ∧ n ≤ hi)) → ∃ r, (∀ k, marigraphbook_Within.j0 (k + 1) n lo hi b = some r) ∧ lo ≤ r ∧ r ≤ hi ∧ (lo ≤ n → n ≤ hi → r = n) := by
    intro b hb
    simp only [marigraphbook_Within.j0, e1]
    cases b with
    | true =>
      have := hb.1 rfl
      exact ⟨n, fun _ => by rw [if_pos rfl], this.1, this.2, fun _ _ => rfl⟩
    | false =>
      have hno : ¬ (lo ≤ n ∧ n ≤ hi) := fun h => by have := hb.2 h; cases this
      simp only [Bool.false_eq_true, if_false]
      rw [if_neg (by omega)]
      have hm : (0 : Int) < hi - lo + 1 := by omega
      have t1 : Int.tmod n (hi - lo + 1) < hi - lo + 1 := Int.tmod_lt_of_pos _ hm
      have t2 : -(hi - lo + 1) < Int.tmod n (hi - lo + 1) := by
        have := Int.tmod_lt_of_pos (-n) hm
        rw [Int.neg_tmod] at this
        omega
      generalize Int.tmod n (hi - lo + 1) = t at *
      by_cases ht : t < 0
      · rw [if_pos ht]
        have e : wrap64 (lo + wrap64 (wrap64 (wrap64 (t + hi) - lo) + 1)) = t + hi + 1 := by unfold wrap64; omega
        rw [e]
        exact ⟨_, fun _ => rfl, by omega, by omega, fun a b => absurd ⟨a, b⟩ hno⟩
      · rw [if_neg ht]
        have e : wrap64 (lo + t) = lo + t := by unfold wrap64; omega
        rw [e]
        exact ⟨_, fun _ => rfl, by omega, by omega, fun a b => absurd ⟨a, b⟩ hno⟩
  have fin : ∀ b : Bool, (∀ k, marigraphbook_Within.f k n lo hi = marigraphbook_Within.j0 k n lo hi b) → (b = true ↔ (lo ≤ n ∧ n ≤ hi)) → ∃ r, Ev (fun k => marigraphbook_Within.f k n lo hi) r ∧ lo ≤ r ∧ r ≤ hi ∧ (lo ≤ n → n ≤ hi → r = n) := by
    intro b hf hb
    obtain ⟨r, h, hr⟩ := hj b hb
    refine ⟨r, ⟨1, fun k hk => ?_⟩, hr⟩
    obtain ⟨k, rfl⟩ : ∃ m, k = m + 1 := ⟨k - 1, by omega⟩
    show marigraphbook_Within.f (k + 1) n lo hi = some r
    rw [hf]
    exact h k
  by_cases hlo : n ≥ lo
  · refine fin (decide (n ≤ hi)) (fun k => by unfold marigraphbook_Within.f; rw [if_pos hlo]) ?_
    rw [decide_eq_true_iff]
    exact ⟨fun h => ⟨hlo, h⟩, fun h => h.2⟩
  · refine fin false (fun k => by unfold marigraphbook_Within.f; rw [if_neg hlo]) ?_
    constructor
    · intro h; cases h
    · intro h; omega
def NoDiv (a b j : Int) : Prop := ∀ i : Int, 2 ≤ i → i < j → ¬ (i ∣ a ∧ i ∣ b)
theorem keep_loops (K : Nat) : (∀ (a b j : Int), 1 ≤ b → b ≤ 12 → -60 ≤ a → a ≤ 60 → 2 ≤ j → j ≤ 13 → 3 * b + 2 * (14 - j) + 1 ≤ K → NoDiv a b j → ∃ N D, marigraphkeep_Rat.l0 K a b j = some (N, D) ∧ 1 ≤ D ∧ D ≤ 12 ∧ -60 ≤ N ∧ N ≤ 60 ∧ NoDiv N D (D + 1)) ∧
    (∀ (a b j : Int), 1 ≤ b → b ≤ 12 → -60 ≤ a → a ≤ 60 → 2 ≤ j → j ≤ b → 3 * b + 2 * (14 - j) ≤ K → NoDiv a b j → ∃ N D, marigraphkeep_Rat.l1 K a b j = some (N, D) ∧ 1 ≤ D ∧ D ≤ 12 ∧ -60 ≤ N ∧ N ≤ 60 ∧ NoDiv N D (D + 1)) := by
  induction K with
  | zero => exact ⟨fun a b j h1 h2 h3 h4 h5 h6 hK => by omega, fun a b j h1 h2 h3 h4 h5 h6 hK => by omega⟩
  | succ K ih =>
    refine ⟨fun a b j h1 h2 h3 h4 h5 h6 hK hno => ?_, fun a b j h1 h2 h3 h4 h5 h6 hK hno => ?_⟩
    · simp only [marigraphkeep_Rat.l0]
      by_cases hj : j ≤ b
      · rw [if_pos hj]
        exact ih.2 a b j h1 h2 h3 h4 h5 hj (by omega) hno
      · rw [if_neg hj]
        exact ⟨a, b, rfl, h1, h2, h3, h4, fun i hi1 hi2 => hno i hi1 (by omega)⟩
    · simp only [marigraphkeep_Rat.l1]
      rw [if_neg (by omega)]
      have wj : wrap64 (j + 1) = j + 1 := wrap64_id ⟨by omega, by omega⟩
      have next : (¬ (j ∣ a ∧ j ∣ b)) → ∃ N D, marigraphkeep_Rat.l0 K a b (wrap64 (j + 1)) = some (N, D) ∧ 1 ≤ D ∧ D ≤ 12 ∧ -60 ≤ N ∧ N ≤ 60 ∧ NoDiv N D (D + 1) := by
        intro hnd
        rw [wj]
        refine ih.1 a b (j + 1) h1 h2 h3 h4 (by omega) (by omega) (by omega) (fun i hi1 hi2 hd => ?_)
        by_cases hij : i < j
        · exact hno i hi1 hij hd
        · obtain rfl : i = j := by omega
          exact hnd hd
      by_cases ha : Int.tmod a j = 0
      · rw [if_pos ha]
        have da : j ∣ a := Int.dvd_of_tmod_eq_zero ha
        by_cases hb : Int.tmod b j = 0
        · rw [if_pos hb]
          have db : j ∣ b := Int.dvd_of_tmod_eq_zero hb
          obtain ⟨x, rfl⟩ := da
          obtain ⟨y, rfl⟩ := db
          have ex : Int.tdiv (j * x) j = x := Int.mul_tdiv_cancel_left _ (by omega)
          have ey : Int.tdiv (j * y) j = y := Int.mul_tdiv_cancel_left _ (by omega)
          have y1 : 1 ≤ y := by
            by_cases hy : y ≤ 0
            · have := Int.mul_nonneg_of_nonpos_of_nonpos (show -j ≤ 0 by omega) hy
              rw [Int.neg_mul] at this
              omega
            · omega
          have y2 : 2 * y ≤ j * y := Int.mul_le_mul_of_nonneg_right h5 (by omega)
          have x1 : x.natAbs ≤ (j * x).natAbs := by
            rw [Int.natAbs_mul]
            exact Nat.le_mul_of_pos_left _ (by omega)
          rw [ex, ey, wrap64_id (show I64 x from ⟨by omega, by omega⟩), wrap64_id (show I64 y from ⟨by omega, by omega⟩)]
          have hno' : NoDiv x y j := fun i hi1 hi2 hd => hno i hi1 hi2 ⟨Int.dvd_trans hd.1 (Int.dvd_mul_left _ _), Int.dvd_trans hd.2 (Int.dvd_mul_left _ _)⟩
          by_cases hjy : j ≤ y
          · exact ih.2 x y j (by omega) (by omega) (by omega) (by omega) h5 hjy (by omega) hno'
          · obtain ⟨K', rfl⟩ : ∃ m, K = m + 1 := ⟨K - 1, by omega⟩
            simp only [marigraphkeep_Rat.l1]
            rw [if_neg (by omega)]
            have wj' : wrap64 (j + 1) = j + 1 := wj
            have stop : ∀ k' : Nat, 0 < k' → ∀ j' : Int, j ≤ j' → ∃ N D, marigraphkeep_Rat.l0 k' x y j' = some (N, D) ∧ 1 ≤ D ∧ D ≤ 12 ∧ -60 ≤ N ∧ N ≤ 60 ∧ NoDiv N D (D + 1) := by
              intro k' hk' j' hj'
              obtain ⟨k', rfl⟩ : ∃ m, k' = m + 1 := ⟨k' - 1, by omega⟩
              simp only [marigraphkeep_Rat.l0]
              rw [if_neg (by omega)]
              exact ⟨x, y, rfl, by omega, by omega, by omega, by omega, fun i hi1 hi2 => hno' i hi1 (by omega)⟩
            have hty : ¬ Int.tmod y j = 0 := by
              rw [Int.tmod_eq_of_lt (by omega) (by omega)]
              omega
            rw [wj', if_neg hty]
            by_cases hx : Int.tmod x j = 0
            · rw [if_pos hx]; exact stop K' (by omega) _ (by omega)
            · rw [if_neg hx]; exact stop K' (by omega) _ (by omega)
        · rw [if_neg hb]
          exact next (fun h => hb (Int.tmod_eq_zero_of_dvd h.2))
      · rw [if_neg ha]
        exact next (fun h => ha (Int.tmod_eq_zero_of_dvd h.1))
theorem rt_of_nodiv {N D : Int} (h1 : 1 ≤ D) (h2 : D ≤ 12) (h3 : -60 ≤ N) (h4 : N ≤ 60) (hno : NoDiv N D (D + 1)) : Rt N D := by
  have hg : Nat.gcd N.natAbs D.natAbs = 1 := by
    have hpos : 0 < Nat.gcd N.natAbs D.natAbs := Nat.gcd_pos_of_pos_right _ (by omega)
    have hle : Nat.gcd N.natAbs D.natAbs ≤ D.natAbs := Nat.le_of_dvd (by omega) (Nat.gcd_dvd_right _ _)
    by_cases h : Nat.gcd N.natAbs D.natAbs = 1
    · exact h
    · refine absurd ⟨?_, ?_⟩ (hno (Nat.gcd N.natAbs D.natAbs : Nat) (by omega) (by omega))
      · exact Int.natAbs_dvd_natAbs.1 (by rw [Int.natAbs_natCast]; exact Nat.gcd_dvd_left _ _)
      · exact Int.natAbs_dvd_natAbs.1 (by rw [Int.natAbs_natCast]; exact Nat.gcd_dvd_right _ _)
  obtain ⟨e1, _, e3⟩ := new_parts N D (by omega)
  rw [hg, Nat.div_one] at e1 e3
  rw [decide_eq_false (show ¬ D < 0 by omega)] at e3
  refine ⟨by omega, by omega, by omega, by omega, ?_, by omega⟩
  by_cases hn : N < 0
  · rw [decide_eq_true hn] at e3
    simp only [Bool.bne_false, if_true] at e3
    omega
  · rw [decide_eq_false hn] at e3
    simp only [bne_self_eq_false, Bool.false_eq_true, if_false] at e3
    omega
theorem keep_tells {x y : Int} (hx : I64 x) (hy : I64 y) : ∃ N D, Ev (fun k => marigraphkeep_Rat.f k x y) (N, D) ∧ Rt N D ∧ -60 ≤ N ∧ N ≤ 60 ∧ 1 ≤ D ∧ D ≤ 12 := by
  obtain ⟨a, ha, a1, a2, _⟩ := within_ev (lo := -60) (hi := 60) (by omega) (by omega) (by omega) (by omega) hx
  obtain ⟨b, hb, b1, b2, _⟩ := within_ev (lo := 1) (hi := 12) (by omega) (by omega) (by omega) (by omega) hy
  have hl : ∀ K : Nat, 100 ≤ K → ∃ N D, marigraphkeep_Rat.l0 K a b 2 = some (N, D) ∧ 1 ≤ D ∧ D ≤ 12 ∧ -60 ≤ N ∧ N ≤ 60 ∧ NoDiv N D (D + 1) :=
    fun K hK => (keep_loops K).1 a b 2 b1 b2 a1 a2 (by omega) (by omega) (by omega) (fun i h1 h2 => by omega)
  obtain ⟨N, D, h0, d1, d2, n1, n2, hno⟩ := hl 100 (by omega)
  refine ⟨N, D, ?_, rt_of_nodiv d1 d2 n1 n2 hno, n1, n2, d1, d2⟩
  refine Ev.bind ha (Ev.bind hb ?_)
  exact Ev.of (fun k => marigraphkeep_Rat.mono_l k |>.1 _ _ _) h0
/-! ### texts as lists of bytes -/
theorem tl_size (s : ByteArray) : s.size = s.toList.length := by rw [Lib.toList_data]; rfl
theorem tl_append (a b : ByteArray) : (a ++ b).toList = a.toList ++ b.toList := by
  rw [Lib.toList_data, Lib.toList_data, Lib.toList_data, ByteArray.data_append, Array.toList_append]
theorem tl_rest (s : ByteArray) : (s.extract 1 s.size).toList = s.toList.drop 1 := by
  rw [Lib.toList_data, Lib.toList_data, ByteArray.data_extract, Array.toList_extract, List.extract_eq_take_drop, show s.size - 1 = (s.data.toList.drop 1).length by rw [List.length_drop]; rfl, List.take_length]
theorem tl_head {s : ByteArray} {c : UInt8} {r : List UInt8} (h : s.toList = c :: r) : bt s 0 = (c.toNat : Int) ∧ 0 < s.size := by
  have h0 : 0 < s.size := by rw [tl_size, h]; simp
  have e : s[0]'h0 = c := by
    have h1 : s.data.toList = c :: r := by rw [← Lib.toList_data]; exact h
    have h2 : s.data.toList[0]? = some c := by rw [h1]; rfl
    rw [Array.getElem?_toList, Array.getElem?_eq_getElem h0] at h2
    exact Option.some.inj h2
  refine ⟨?_, h0⟩
  unfold bt
  rw [dif_pos (show (0 : Int).toNat < s.size from h0)]
  show ((s[0]'h0).toNat : Int) = _
  rw [e]
/-- Digits, as bytes. -/
def Dg (l : List Int) : Prop := ∀ c ∈ l, 48 ≤ c ∧ c ≤ 57
def val : Int → List Int → Int
  | a, [] => a
  | a, c :: l => val (10 * a + (c - 48)) l
theorem val_append (l m : List Int) : ∀ a, val a (l ++ m) = val (val a l) m := by
  induction l with
  | nil => intro a; rfl
  | cons c l ih => intro a; exact ih _
theorem val_le {l : List Int} (h : Dg l) : ∀ a, 0 ≤ a → a ≤ val a l := by
  induction l with
  | nil => intro a _; exact Int.le_refl _
  | cons c l ih =>
    intro a ha
    have hc := h c (by simp)
    have := ih (fun x hx => h x (by simp [hx])) (10 * a + (c - 48)) (by omega)
    show a ≤ val (10 * a + (c - 48)) l
    omega
def dI (n : Nat) : List Int := if n < 10 then [48 + (n : Int)] else dI (n / 10) ++ [48 + ((n % 10 : Nat) : Int)]
termination_by n
decreasing_by omega
theorem dI_small {n : Nat} (h : n < 10) : dI n = [48 + (n : Int)] := by rw [dI, if_pos h]
theorem dI_big {n : Nat} (h : ¬ n < 10) : dI n = dI (n / 10) ++ [48 + ((n % 10 : Nat) : Int)] := by
  conv => lhs; rw [dI]
  rw [if_neg h]
theorem dI_dg : ∀ n : Nat, Dg (dI n) := by
  intro n
  induction n using Nat.strongRecOn with
  | _ n ih =>
    by_cases h : n < 10
    · rw [dI_small h]
      intro c hc
      rw [List.mem_singleton] at hc
      omega
    · rw [dI_big h]
      intro c hc
      rcases List.mem_append.1 hc with hc | hc
      · exact ih (n / 10) (by omega) c hc
      · rw [List.mem_singleton] at hc
        omega
theorem dI_val : ∀ n : Nat, val 0 (dI n) = (n : Int) := by
  intro n
  induction n using Nat.strongRecOn with
  | _ n ih =>
    by_cases h : n < 10
    · rw [dI_small h]
      show 10 * 0 + (48 + (n : Int) - 48) = _
      omega
    · rw [dI_big h, val_append, ih (n / 10) (by omega)]
      show 10 * ((n / 10 : Nat) : Int) + (48 + ((n % 10 : Nat) : Int) - 48) = _
      omega
theorem dI_len : ∀ n : Nat, 1 ≤ (dI n).length ∧ (dI n).length ≤ n + 1 := by
  intro n
  induction n using Nat.strongRecOn with
  | _ n ih =>
    by_cases h : n < 10
    · rw [dI_small h]
      simp
    · have := ih (n / 10) (by omega)
      rw [dI_big h, List.length_append, List.length_singleton]
      omega
theorem digits_loop : ∀ (n : Nat) (acc : List Int), n ≤ 2147483647 → acc.length + n ≤ 4294967296 → Ev (fun k => rat_digits.l0 k (n : Int) acc) (strOfNums (dI n ++ acc)) := by
  intro n
  induction n using Nat.strongRecOn with
  | _ n ih =>
    intro acc hn ha
    have e1 : wrap64 (48 + Int.tmod (n : Int) 10) % 256 = 48 + ((n % 10 : Nat) : Int) := by
      rw [Int.tmod_eq_emod_of_nonneg (Int.natCast_nonneg n)]
      unfold wrap64
      omega
    have e2 : wrap64 (Int.tdiv (n : Int) 10) = ((n / 10 : Nat) : Int) := by
      rw [Int.tdiv_eq_ediv_of_nonneg (Int.natCast_nonneg n)]
      unfold wrap64
      omega
    have e3 : [48 + ((n % 10 : Nat) : Int)].length + acc.length < 140737488355328 := by rw [List.length_singleton]; omega
    by_cases h : n < 10
    · refine Ev.step (f := fun _ => some (strOfNums (dI n ++ acc))) (fun k => ?_) (Ev.now _)
      simp only [rat_digits.l0, e1, e2, Option.bind_some]
      rw [if_pos e3, if_pos (by omega), dI_small h, show n % 10 = n by omega]
    · have hn2 := ih (n / 10) (by omega) ([48 + ((n % 10 : Nat) : Int)] ++ acc) (by omega) (by rw [List.length_append, List.length_singleton]; omega)
      rw [dI_big h, List.append_assoc]
      refine Ev.step (fun k => ?_) hn2
      simp only [rat_digits.l0, e1, e2, Option.bind_some]
      rw [if_pos e3, if_neg (by omega)]
theorem digits_tells {n : Int} (h0 : 0 ≤ n) (h1 : n ≤ 2147483647) : Ev (fun k => rat_digits.f k n) (strOfNums (dI n.toNat)) := by
  have := digits_loop n.toNat [] (by omega) (by simp; omega)
  rw [List.append_nil, Int.toNat_of_nonneg h0] at this
  exact this
/-- A number as a text. -/
def TP (n d : Int) : ByteArray := if d > 1 then (strOfNums (dI n.toNat) ++ (⟨#[47]⟩ : ByteArray)) ++ strOfNums (dI d.toNat) else strOfNums (dI n.toNat)
def TB (n d : Int) : ByteArray := if n < 0 then (⟨#[45]⟩ : ByteArray) ++ TP (-n) d else TP n d
/-- Its bytes. -/
def TR (d : Int) : List Int := if d > 1 then 47 :: dI d.toNat else []
theorem sn_size (l : List Int) : (strOfNums l).size = l.length := by rw [tl_size, Lib.strOfNums_toList, Lib.bytesOf_length]
theorem one_tl (c : UInt8) : (⟨#[c]⟩ : ByteArray).toList = [c] := by rw [Lib.toList_data]
theorem bo_append (a b : List Int) : Lib.bytesOf (a ++ b) = Lib.bytesOf a ++ Lib.bytesOf b := by simp [Lib.bytesOf]
theorem TP_tl (n d : Int) : (TP n d).toList = Lib.bytesOf (dI n.toNat ++ TR d) := by
  unfold TP TR
  by_cases h : d > 1
  · rw [if_pos h, if_pos h, tl_append, tl_append, Lib.strOfNums_toList, Lib.strOfNums_toList, one_tl, bo_append, List.append_assoc]
    rfl
  · rw [if_neg h, if_neg h, Lib.strOfNums_toList, List.append_nil]
theorem TB_tl (n d : Int) : (TB n d).toList = if n < 0 then 45 :: Lib.bytesOf (dI (-n).toNat ++ TR d) else Lib.bytesOf (dI n.toNat ++ TR d) := by
  unfold TB
  by_cases h : n < 0
  · rw [if_pos h, if_pos h, tl_append, one_tl, TP_tl]
    rfl
  · rw [if_neg h, if_neg h, TP_tl]
theorem TP_size {n d : Int} (h0 : 0 ≤ n) (h1 : n ≤ 2147483647) (h2 : d ≤ 2147483647) : (TP n d).size ≤ 4294967300 := by
  have l1 := dI_len n.toNat
  have l2 := dI_len d.toNat
  rw [tl_size, TP_tl, Lib.bytesOf_length, List.length_append]
  unfold TR
  by_cases h : d > 1
  · rw [if_pos h, List.length_cons]; omega
  · rw [if_neg h]; simp only [List.length_nil]; omega
theorem Rt.neg {n d : Int} (h : Rt n d) : Rt (-n) d := by
  have e : Rat.divInt (-n) d = - Rat.divInt n d := by rw [Rat.neg_divInt]
  exact ⟨by have := h.n2; omega, by have := h.n1; omega, h.d1, h.d2, by rw [e, Rat.neg_num, h.num], by rw [e, Rat.neg_den, h.den]⟩
theorem Text_pos {n d : Int} (h : Rt n d) (h0 : 0 ≤ n) : Ev (fun k => rat_Text.f k n d) (TP n d) := by
  have hr := right_tells h.i64n h.i64d
  rw [h.right] at hr
  have l1 := dI_len n.toNat
  have l2 := dI_len d.toNat
  have b1 := h.n2
  have b2 := h.d2
  have b3 := h.d1
  refine Ev.step (f := fun k => rat_Text.f (k + 1) n d) (fun _ => rfl) ?_
  simp only [rat_Text.f]
  refine Ev.bind hr ?_
  simp only [if_true, if_neg (show ¬ n < 0 by omega)]
  unfold TP
  by_cases hd : d > 1
  · simp only [if_pos hd]
    refine Ev.bind (digits_tells h0 b1) ?_
    simp only [if_pos (show (strOfNums (dI n.toNat)).size + 1 ≤ 9223372036854775807 by rw [sn_size]; omega)]
    refine Ev.bind (digits_tells (show 0 ≤ d by omega) b2) ?_
    have hz : ((strOfNums (dI n.toNat)) ++ (⟨#[47]⟩ : ByteArray)).size + (strOfNums (dI d.toNat)).size ≤ 9223372036854775807 := by
      rw [ByteArray.size_append, sn_size, sn_size, show (⟨#[47]⟩ : ByteArray).size = 1 from rfl]; omega
    simp only [if_pos hz]
    exact Ev.now _
  · simp only [if_neg hd]
    exact Ev.bind (digits_tells h0 b1) (Ev.now _)
theorem Text_tells {n d : Int} (h : Rt n d) : Ev (fun k => rat_Text.f k n d) (TB n d) := by
  unfold TB
  by_cases h0 : n < 0
  · have hr := right_tells h.i64n h.i64d
    rw [h.right] at hr
    have b1 := h.n1
    have e : wrap64 (-n) = -n := by unfold wrap64; omega
    have hs := TP_size (n := -n) (d := d) (by omega) (by omega) h.d2
    refine Ev.step (f := fun k => rat_Text.f (k + 1) n d) (fun _ => rfl) ?_
    simp only [rat_Text.f]
    refine Ev.bind hr ?_
    simp only [if_true, if_pos h0, e]
    refine Ev.bind (Text_pos h.neg (by omega)) ?_
    simp only [if_pos (show 1 + (TP (-n) d).size ≤ 9223372036854775807 by omega)]
    exact Ev.now _
  · rw [if_neg h0]
    exact Text_pos h (by omega)
theorem number_end {x : ByteArray} {a : Int} (r : List UInt8) (h : x.toList = [] ∨ x.toList = 47 :: r) : Ev (fun k => rat_number.l0 k x a) (a, x) := by
  refine Ev.step (f := fun _ => some (a, x)) (fun k => ?_) (Ev.now _)
  simp only [rat_number.l0]
  rcases h with h | h
  · rw [if_pos h]
  · obtain ⟨h1, h2⟩ := tl_head h
    rw [if_neg (by rw [h]; simp), if_pos (by omega), if_neg (by rw [h1]; decide)]
theorem number_loop (r : List Int) (hr : r = [] ∨ ∃ q, r = 47 :: q) : ∀ (l : List Int) (x : ByteArray) (a : Int), Dg l → x.toList = Lib.bytesOf (l ++ r) → 0 ≤ a → val a l ≤ 2147483647 → ∃ x' : ByteArray, x'.toList = Lib.bytesOf r ∧ Ev (fun k => rat_number.l0 k x a) (val a l, x') := by
  intro l
  induction l with
  | nil =>
    intro x a _ hx _ _
    refine ⟨x, hx, ?_⟩
    rcases hr with rfl | ⟨q, rfl⟩
    · exact number_end [] (Or.inl hx)
    · exact number_end (Lib.bytesOf q) (Or.inr hx)
  | cons c l ih =>
    intro x a hd hx h0 hv
    have hc := hd c (by simp)
    have hd' : Dg l := fun y hy => hd y (by simp [hy])
    have hle := val_le hd' (10 * a + (c - 48)) (by omega)
    have hv' : val (10 * a + (c - 48)) l ≤ 2147483647 := hv
    have hx2 : x.toList = UInt8.ofNat c.toNat :: Lib.bytesOf (l ++ r) := hx
    obtain ⟨h1, h2⟩ := tl_head hx2
    have e : ((UInt8.ofNat c.toNat).toNat : Int) = c := by rw [UInt8.toNat_ofNat']; omega
    rw [e] at h1
    have hrest : (x.extract 1 x.size).toList = Lib.bytesOf (l ++ r) := by rw [tl_rest, hx2]; rfl
    obtain ⟨x', hx', he⟩ := ih (x.extract 1 x.size) (10 * a + (c - 48)) hd' hrest (by omega) hv'
    refine ⟨x', hx', ?_⟩
    have e2 : wrap64 (wrap64 (10 * a) + ((c - 48) % 256)) = 10 * a + (c - 48) := by unfold wrap64; omega
    refine Ev.step (fun k => ?_) he
    simp only [rat_number.l0]
    rw [if_neg (by rw [hx2]; simp), if_pos (by omega), h1, if_pos (by omega), if_pos (by omega), if_pos (by omega), if_pos (by omega), e2]
theorem number_dI (m : Nat) (hm : m ≤ 2147483647) (r : List Int) (hr : r = [] ∨ ∃ q, r = 47 :: q) (x : ByteArray) (hx : x.toList = Lib.bytesOf (dI m ++ r)) : ∃ x' : ByteArray, x'.toList = Lib.bytesOf r ∧ Ev (fun k => rat_number.f k x) ((m : Int), x') := by
  have := number_loop r hr (dI m) x 0 (dI_dg m) hx (Int.le_refl _) (by rw [dI_val]; omega)
  rw [dI_val] at this
  exact this
theorem TR_is (d : Int) : TR d = [] ∨ ∃ q, TR d = 47 :: q := by
  unfold TR
  split
  · exact Or.inr ⟨_, rfl⟩
  · exact Or.inl rfl
theorem Parse_end {n d : Int} (h : Rt n d) {x0 : ByteArray} (e : (TB n d).toList = x0.toList) : Ev (fun k => rat_Parse.j3 k x0 n d) (n, d, 0) := by
  have hr := right_tells h.i64n h.i64d
  rw [h.right] at hr
  refine Ev.step (f := fun k => rat_Parse.j3 (k + 1) x0 n d) (fun _ => rfl) ?_
  simp only [rat_Parse.j3]
  refine Ev.bind hr ?_
  simp only [if_true]
  refine Ev.bind (Text_tells h) ?_
  simp only [if_pos e]
  exact Ev.now _
theorem Parse_mid {n d : Int} (h : Rt n d) {x0 x : ByteArray} (e : (TB n d).toList = x0.toList) (hx : x.toList = Lib.bytesOf (TR d)) : Ev (fun k => rat_Parse.j2 k x0 x n 1) (n, d, 0) := by
  have b1 := h.d1
  have b2 := h.d2
  refine Ev.step (f := fun k => rat_Parse.j2 (k + 1) x0 x n 1) (fun _ => rfl) ?_
  simp only [rat_Parse.j2]
  by_cases hd : d > 1
  · have hT : TR d = 47 :: dI d.toNat := by unfold TR; rw [if_pos hd]
    have hx2 : x.toList = 47 :: Lib.bytesOf (dI d.toNat) := by rw [hx, hT]; rfl
    obtain ⟨_, hsz⟩ := tl_head hx2
    simp only [if_neg (show ¬ x.toList = ([] : List UInt8) by rw [hx2]; simp), if_pos (show 1 ≤ (x.size : Int) by omega)]
    obtain ⟨x', _, hn⟩ := number_dI d.toNat (by omega) [] (Or.inl rfl) (x.extract 1 x.size) (by rw [tl_rest, hx2, List.append_nil]; rfl)
    rw [Int.toNat_of_nonneg (by omega)] at hn
    exact Ev.bind hn (Parse_end h e)
  · have hT : TR d = [] := by unfold TR; rw [if_neg hd]
    have hx2 : x.toList = ([] : List UInt8) := by rw [hx, hT]; rfl
    have hd1 : d = 1 := by omega
    subst hd1
    simp only [if_pos hx2]
    exact Parse_end h e
theorem Parse_tells {n d : Int} (h : Rt n d) : Ev (fun k => rat_Parse.f k (TB n d)) (n, d, 0) := by
  have b1 := h.n1
  have b2 := h.n2
  have htl := TB_tl n d
  unfold rat_Parse.f
  by_cases h0 : n < 0
  · rw [if_pos h0] at htl
    obtain ⟨g1, g2⟩ := tl_head htl
    have hb : (bt (TB n d) 0 == 45) = true := by rw [g1]; decide
    simp only [if_neg (show ¬ (TB n d).toList = ([] : List UInt8) by rw [htl]; simp), if_pos (show 0 < ((TB n d).size : Int) by omega), hb]
    refine Ev.step (f := fun k => rat_Parse.j1 k (TB n d) ((TB n d).extract 1 (TB n d).size) true) (fun k => ?_) ?_
    · simp only [rat_Parse.j0]
      rw [if_pos trivial, if_pos (by omega)]
    · obtain ⟨x', hx', hn⟩ := number_dI (-n).toNat (by omega) (TR d) (TR_is d) ((TB n d).extract 1 (TB n d).size) (by rw [tl_rest, htl]; rfl)
      rw [Int.toNat_of_nonneg (by omega)] at hn
      refine Ev.step (f := fun k => rat_Parse.j1 (k + 1) (TB n d) ((TB n d).extract 1 (TB n d).size) true) (fun _ => rfl) ?_
      simp only [rat_Parse.j1]
      refine Ev.bind hn ?_
      simp only [if_true, show wrap64 (- -n) = n by unfold wrap64; omega]
      exact Parse_mid h rfl hx'
  · rw [if_neg h0] at htl
    have hl := dI_len n.toNat
    obtain ⟨c, l, hcl⟩ : ∃ c l, dI n.toNat = c :: l := by
      cases hq : dI n.toNat with
      | nil => rw [hq] at hl; simp at hl
      | cons c l => exact ⟨c, l, rfl⟩
    have hc := dI_dg n.toNat c (by rw [hcl]; simp)
    have htl2 : (TB n d).toList = UInt8.ofNat c.toNat :: Lib.bytesOf (l ++ TR d) := by rw [htl, hcl]; rfl
    obtain ⟨g1, g2⟩ := tl_head htl2
    have e : ((UInt8.ofNat c.toNat).toNat : Int) = c := by rw [UInt8.toNat_ofNat']; omega
    rw [e] at g1
    have hb : (bt (TB n d) 0 == 45) = false := by rw [g1, beq_eq_false_iff_ne]; omega
    simp only [if_neg (show ¬ (TB n d).toList = ([] : List UInt8) by rw [htl2]; simp), if_pos (show 0 < ((TB n d).size : Int) by omega), hb]
    refine Ev.step (f := fun k => rat_Parse.j1 k (TB n d) (TB n d) false) (fun k => ?_) ?_
    · simp only [rat_Parse.j0]
      rw [if_neg (by decide)]
    · obtain ⟨x', hx', hn⟩ := number_dI n.toNat (by omega) (TR d) (TR_is d) (TB n d) htl
      rw [Int.toNat_of_nonneg (by omega)] at hn
      refine Ev.step (f := fun k => rat_Parse.j1 (k + 1) (TB n d) (TB n d) false) (fun _ => rfl) ?_
      simp only [rat_Parse.j1]
      refine Ev.bind hn ?_
      simp only [Bool.false_eq_true, if_false]
      exact Parse_mid h rfl hx'
/-! ### any text -/
def Big (a : Int) : Prop := 0 ≤ a ∧ a ≤ 21474836479
theorem number_any : ∀ (N : Nat) (x : ByteArray) (a : Int), x.size = N → Big a → ∃ v x', Ev (fun k => rat_number.l0 k x a) (v, x') ∧ Big v := by
  intro N
  induction N with
  | zero =>
    intro x a hN ha
    have hx : x.toList = [] := List.length_eq_zero_iff.1 (by rw [← tl_size]; exact hN)
    exact ⟨a, x, number_end [] (Or.inl hx), ha⟩
  | succ N ih =>
    intro x a hN ha
    have hne : ¬ x.toList = ([] : List UInt8) := fun h => by have := tl_size x; rw [h, List.length_nil] at this; omega
    have hb := bt_range x 0
    have hst : Ev (fun _ : Nat => some (a, x)) (a, x) := Ev.now _
    by_cases c1 : bt x 0 ≥ 48
    · by_cases c2 : bt x 0 ≤ 57
      · by_cases c3 : a ≤ 2147483647
        · have h1 : (x.extract 1 x.size).size = N := by rw [tl_size, tl_rest, List.length_drop, ← tl_size]; omega
          have e2 : wrap64 (wrap64 (10 * a) + ((bt x 0 - 48) % 256)) = 10 * a + (bt x 0 - 48) := by
            have := ha.1
            unfold wrap64
            omega
          obtain ⟨v, x', hv, hw⟩ := ih (x.extract 1 x.size) (10 * a + (bt x 0 - 48)) h1 ⟨by have := ha.1; omega, by omega⟩
          refine ⟨v, x', Ev.step (fun k => ?_) hv, hw⟩
          simp only [rat_number.l0]
          rw [if_neg hne, if_pos (by omega), if_pos c1, if_pos c2, if_pos c3, if_pos (by omega), e2]
        · refine ⟨a, x, Ev.step (fun k => ?_) hst, ha⟩
          simp only [rat_number.l0]
          rw [if_neg hne, if_pos (by omega), if_pos c1, if_pos c2, if_neg c3]
      · refine ⟨a, x, Ev.step (fun k => ?_) hst, ha⟩
        simp only [rat_number.l0]
        rw [if_neg hne, if_pos (by omega), if_pos c1, if_neg c2]
    · refine ⟨a, x, Ev.step (fun k => ?_) hst, ha⟩
      simp only [rat_number.l0]
      rw [if_neg hne, if_pos (by omega), if_neg c1]
theorem number_some (x : ByteArray) : ∃ v x', Ev (fun k => rat_number.f k x) (v, x') ∧ Big v := number_any x.size x 0 rfl ⟨by decide, by decide⟩
/-- What Parse tells of any text: a number that is right and written so, or a refusal. -/
def Fit (s : ByteArray) (r : Int × Int × Int) : Prop := r.2.2 = 0 → Rt r.1 r.2.1 ∧ (TB r.1 r.2.1).toList = s.toList
theorem end_any (x0 : ByteArray) {n d : Int} (hn : I64 n) (hd : I64 d) : ∃ r, Ev (fun k => rat_Parse.j3 k x0 n d) r ∧ Fit x0 r := by
  have hr := right_tells hn hd
  by_cases hq : rightQ n d = true
  · have h := Rt.of_right hq
    by_cases e : (TB n d).toList = x0.toList
    · exact ⟨_, Parse_end h e, fun _ => ⟨h, e⟩⟩
    · rw [hq] at hr
      refine ⟨(0, 0, 12), ?_, fun h => absurd h (by decide)⟩
      refine Ev.step (f := fun k => rat_Parse.j3 (k + 1) x0 n d) (fun _ => rfl) ?_
      simp only [rat_Parse.j3]
      refine Ev.bind hr ?_
      simp only [if_true]
      refine Ev.bind (Text_tells h) ?_
      simp only [if_neg e]
      exact Ev.now _
  · rw [Bool.not_eq_true] at hq
    rw [hq] at hr
    refine ⟨(0, 0, 12), ?_, fun h => absurd h (by decide)⟩
    refine Ev.step (f := fun k => rat_Parse.j3 (k + 1) x0 n d) (fun _ => rfl) ?_
    simp only [rat_Parse.j3]
    refine Ev.bind hr ?_
    simp only [Bool.false_eq_true, if_false]
    exact Ev.now _
theorem mid_any (x0 x : ByteArray) {n : Int} (hn : I64 n) : ∃ r, Ev (fun k => rat_Parse.j2 k x0 x n 1) r ∧ Fit x0 r := by
  by_cases hx : x.toList = ([] : List UInt8)
  · obtain ⟨r, h, hf⟩ := end_any x0 hn (show I64 1 from ⟨by decide, by decide⟩)
    refine ⟨r, Ev.step (fun k => ?_) h, hf⟩
    simp only [rat_Parse.j2]
    rw [if_pos hx]
  · obtain ⟨v, x', hv, hb⟩ := number_some (x.extract 1 x.size)
    obtain ⟨r, h, hf⟩ := end_any x0 hn (show I64 v from ⟨by have := hb.1; omega, by have := hb.2; omega⟩)
    have hsz : 1 ≤ (x.size : Int) := by
      have := tl_size x
      have h0 : x.toList.length ≠ 0 := fun h => hx (List.length_eq_zero_iff.1 h)
      omega
    refine ⟨r, ?_, hf⟩
    refine Ev.step (f := fun k => rat_Parse.j2 (k + 1) x0 x n 1) (fun _ => rfl) ?_
    simp only [rat_Parse.j2, if_neg hx, if_pos hsz]
    exact Ev.bind hv h
theorem first_any (x0 x : ByteArray) (b : Bool) : ∃ r, Ev (fun k => rat_Parse.j1 k x0 x b) r ∧ Fit x0 r := by
  obtain ⟨v, x', hv, hb⟩ := number_some x
  have g1 := hb.1
  have g2 := hb.2
  cases b with
  | true =>
    obtain ⟨r, h, hf⟩ := mid_any x0 x' (show I64 (-v) from ⟨by omega, by omega⟩)
    refine ⟨r, ?_, hf⟩
    refine Ev.step (f := fun k => rat_Parse.j1 (k + 1) x0 x true) (fun _ => rfl) ?_
    simp only [rat_Parse.j1]
    refine Ev.bind hv ?_
    simp only [if_true, show wrap64 (-v) = -v by unfold wrap64; omega]
    exact h
  | false =>
    obtain ⟨r, h, hf⟩ := mid_any x0 x' (show I64 v from ⟨by omega, by omega⟩)
    refine ⟨r, ?_, hf⟩
    refine Ev.step (f := fun k => rat_Parse.j1 (k + 1) x0 x false) (fun _ => rfl) ?_
    simp only [rat_Parse.j1]
    refine Ev.bind hv ?_
    simp only [Bool.false_eq_true, if_false]
    exact h
theorem Parse_any (s : ByteArray) : ∃ r, Ev (fun k => rat_Parse.f k s) r ∧ Fit s r := by
  have hj : ∀ b : Bool, (b = true → 1 ≤ (s.size : Int)) → ∃ r, Ev (fun k => rat_Parse.j0 k s s b) r ∧ Fit s r := by
    intro b hb
    cases b with
    | true =>
      obtain ⟨r, h, hf⟩ := first_any s (s.extract 1 s.size) true
      refine ⟨r, Ev.step (fun k => ?_) h, hf⟩
      simp only [rat_Parse.j0]
      rw [if_pos trivial, if_pos (hb rfl)]
    | false =>
      obtain ⟨r, h, hf⟩ := first_any s s false
      refine ⟨r, Ev.step (fun k => ?_) h, hf⟩
      simp only [rat_Parse.j0]
      rw [if_neg (by decide)]
  unfold rat_Parse.f
  by_cases h : s.toList = ([] : List UInt8)
  · simp only [if_pos h]
    exact hj false (fun h => by cases h)
  · have hsz : 0 < (s.size : Int) := by
      have := tl_size s
      have h0 : s.toList.length ≠ 0 := fun h1 => h (List.length_eq_zero_iff.1 h1)
      omega
    simp only [if_neg h, if_pos hsz]
    exact hj _ (fun _ => by omega)
theorem known_ev : Ev (fun k => marigraphlaw1_known.f k) true := Ev.of (fun k => marigraphlaw1_known.mono k) (k := 60) (by decide +kernel)
theorem last_ev (s : ByteArray) : Ev (fun k => marigraphlaw1_RatBack.j1 k s) true := by
  obtain ⟨⟨n, d, e⟩, h, hf⟩ := Parse_any s
  refine Ev.step (f := fun k => marigraphlaw1_RatBack.j1 (k + 1) s) (fun _ => rfl) ?_
  simp only [marigraphlaw1_RatBack.j1]
  refine Ev.bind h ?_
  by_cases he : e = 0
  · obtain ⟨hr, ht⟩ := hf he
    have hq := right_tells hr.i64n hr.i64d
    rw [hr.right] at hq
    simp only [if_pos he]
    refine Ev.bind hq ?_
    simp only [if_true]
    refine Ev.bind (Text_tells hr) ?_
    simp only [if_pos ht]
    exact Ev.bind known_ev (Ev.now _)
  · simp only [if_neg he]
    exact Ev.bind known_ev (Ev.now _)
theorem RatBack : ∀ (a0 b0 x y : Int) (s : ByteArray), (Lit.int .i64 a0).wf = true → (Lit.int .i64 b0).wf = true → (Lit.int .i64 x).wf = true → (Lit.int .i64 y).wf = true → ∃ k, marigraphlaw1_RatBack.f k a0 b0 x y s = some true := by
  intro a0 b0 x y s wa wb wx wy
  refine Ev.rounds ?_
  obtain ⟨n, d, hk, hr, _⟩ := keep_tells (x := x) (y := y) (i64_of wx) (i64_of wy)
  have ha : I64 a0 := i64_of wa
  have hb : I64 b0 := i64_of wb
  unfold marigraphlaw1_RatBack.f
  refine Ev.bind hk (Ev.bind (Text_tells hr) (Ev.bind (Parse_tells hr) ?_))
  simp only [if_true, beq_self_eq_true, Bool.not_true, Bool.or_self]
  refine Ev.step (f := fun k => marigraphlaw1_RatBack.j0 (k + 1) s false a0 b0) (fun _ => rfl) ?_
  simp only [marigraphlaw1_RatBack.j0, Bool.false_eq_true, if_false]
  refine Ev.bind (right_tells ha hb) ?_
  by_cases hq : rightQ a0 b0 = true
  · have h := Rt.of_right hq
    simp only [if_pos hq]
    refine Ev.bind (Text_tells h) (Ev.bind (Parse_tells h) ?_)
    simp only [if_true, beq_self_eq_true, Bool.not_true, Bool.or_self, Bool.false_eq_true, if_false]
    exact last_ev s
  · simp only [if_neg hq]
    exact last_ev s

end Go.Proofs.Ytepdbfabacaacaa.Pure

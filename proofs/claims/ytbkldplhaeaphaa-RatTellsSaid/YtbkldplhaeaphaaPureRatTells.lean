/- RatTells: what the two packages tell of any numbers and texts is the same. No condition beyond the statement. -/
import Derived.Test.YtbkldplhaeaphaaPRatTellsx10
namespace Go.Proofs.Ytbkldplhaeaphaa.Pure
open Go.RowKit Go.Proofs.Ytbkldplhaeaphaa.PRatTells Go.Proofs.YtbkldplhaeaphaaW.PrintWords Go.Proofs.YtbkldplhaeaphaaW.PrintLast
set_option linter.unusedVariables false
set_option linter.unusedSimpArgs false

theorem evEq {α : Type} {f g : Nat → Option α} {r : α} (hf : ∀ k, f k = g k) (h : Ev g r) : Ev f r := by rw [funext hf]; exact h
theorem i64_of {a : Int} (h : (Lit.int .i64 a).wf = true) : -9223372036854775808 ≤ a ∧ a ≤ 9223372036854775807 := by
  have h1 : IntKind.i64.min = -9223372036854775808 := rfl
  have h2 : IntKind.i64.max = 9223372036854775807 := rfl
  simp only [Lit.wf, Bool.and_eq_true, decide_eq_true_eq] at h
  omega
/-! ### rationals: New, Right -/
def Pure_ofQ (q : Rat) : Int × Int × Int := if q.num.natAbs > 2147483647 ∨ q.den > 2147483647 then (0, 0, 23) else (q.num, (q.den : Int), 0)
def newQ (n d : Int) : Int × Int × Int := if d = 0 then (0, 0, 1) else Pure_ofQ (Rat.divInt n d)
def I64 (n : Int) : Prop := -9223372036854775808 ≤ n ∧ n ≤ 9223372036854775807
theorem wrapU {x : Int} (h0 : 0 ≤ x) (h1 : x < 18446744073709551616) : IntKind.u64.wrap x = x := by
  have : IntKind.u64.wrap x = x % 18446744073709551616 := by simp [IntKind.wrap, IntKind.bits, IntKind.signed]
  rw [this]; exact Int.emod_eq_of_lt h0 h1
theorem wrapU_eq (x : Int) : IntKind.u64.wrap x = x % 18446744073709551616 := by simp [IntKind.wrap, IntKind.bits, IntKind.signed]
theorem wrap64_id {x : Int} (h : I64 x) : wrap64 x = x := by unfold I64 at h; unfold wrap64; omega
theorem size_tells {n : Int} (h : I64 n) : rat_size.f n = some (n.natAbs : Int) := by
  unfold I64 at h
  unfold rat_size.f
  by_cases hn : n < 0
  · rw [if_pos hn, wrapU_eq, wrapU_eq]
    congr 1
    omega
  · rw [if_neg hn, wrapU_eq]
    congr 1
    omega
theorem common_tells (b : Nat) : ∀ (a k : Nat), b < k → rat_common.l0 k (a : Int) (b : Int) = some ((Nat.gcd a b : Nat) : Int) := by
  induction b using Nat.strongRecOn with
  | _ b ih =>
    intro a k hk
    obtain ⟨k, rfl⟩ : ∃ m, k = m + 1 := ⟨k - 1, by omega⟩
    simp only [rat_common.l0]
    by_cases hb : b = 0
    · subst hb
      rw [if_neg (by omega), Nat.gcd_zero_right]
    · rw [if_pos (by omega), if_neg (by omega)]
      have e : Int.tmod (a : Int) (b : Int) = ((a % b : Nat) : Int) := by rw [Int.ofNat_tmod]
      have hl : a % b < b := Nat.mod_lt _ (by omega)
      rw [e, ih (a % b) hl b k (by omega), Nat.gcd_comm a b, Nat.gcd_rec b a, Nat.gcd_comm]
theorem new_parts (n d : Int) (hd : d ≠ 0) : (Rat.divInt n d).den = d.natAbs / Nat.gcd n.natAbs d.natAbs ∧ (Rat.divInt n d).num.natAbs = n.natAbs / Nat.gcd n.natAbs d.natAbs ∧
    (if (decide (n < 0)) != (decide (d < 0)) then (Rat.divInt n d).num = -((n.natAbs / Nat.gcd n.natAbs d.natAbs : Nat) : Int) else (Rat.divInt n d).num = ((n.natAbs / Nat.gcd n.natAbs d.natAbs : Nat) : Int)) := by
  have hg : Int.gcd d n = Nat.gcd n.natAbs d.natAbs := by unfold Int.gcd; exact Nat.gcd_comm _ _
  have hpos : 0 < Nat.gcd n.natAbs d.natAbs := Nat.gcd_pos_of_pos_right _ (by omega)
  refine ⟨by rw [Rat.den_divInt, if_neg hd, hg], ?_⟩
  rw [Rat.num_divInt, hg]
  obtain ⟨c, hc⟩ : ∃ c : Int, n = (Nat.gcd n.natAbs d.natAbs : Int) * c := by
    have : ((Nat.gcd n.natAbs d.natAbs : Nat) : Int) ∣ n := Int.natAbs_dvd_natAbs.1 (by rw [Int.natAbs_natCast]; exact Nat.gcd_dvd_left _ _)
    exact this
  generalize Nat.gcd n.natAbs d.natAbs = g at *
  have hA : n.natAbs / g = c.natAbs := by
    rw [hc, Int.natAbs_mul, Int.natAbs_natCast]
    exact Nat.mul_div_cancel_left _ hpos
  have hnc : (n < 0 ↔ c < 0) := by
    have hg0 : (0 : Int) < (g : Int) := by omega
    constructor
    · intro h
      by_cases h' : c < 0
      · exact h'
      · have := Int.mul_nonneg (Int.le_of_lt hg0) (Int.not_lt.1 h'); omega
    · intro h
      have := Int.mul_neg_of_pos_of_neg hg0 h; omega
  rw [hA]
  have hq : d.sign * n / (g : Int) = d.sign * c := by
    rw [hc, ← Int.mul_assoc, Int.mul_comm d.sign, Int.mul_assoc]
    exact Int.mul_ediv_cancel_left _ (by omega)
  rw [hq]
  rcases Int.lt_trichotomy d 0 with h | h | h
  · rw [Int.sign_eq_neg_one_of_neg h]
    have h1 : decide (d < 0) = true := decide_eq_true h
    rw [h1]
    by_cases hn : n < 0
    · have h2 := hnc.1 hn
      rw [decide_eq_true hn]
      simp only [bne_self_eq_false, Bool.false_eq_true, if_false]
      omega
    · have h2 : ¬ c < 0 := fun h => hn (hnc.2 h)
      rw [decide_eq_false hn]
      simp only [Bool.bne_true, Bool.not_false, if_true]
      omega
  · exact absurd h hd
  · rw [Int.sign_eq_one_of_pos h]
    have h1 : decide (d < 0) = false := decide_eq_false (by omega)
    rw [h1]
    by_cases hn : n < 0
    · have h2 := hnc.1 hn
      rw [decide_eq_true hn]
      simp only [Bool.bne_false, if_true]
      omega
    · have h2 : ¬ c < 0 := fun h => hn (hnc.2 h)
      rw [decide_eq_false hn]
      simp only [bne_self_eq_false, Bool.false_eq_true, if_false]
      omega
theorem new_at (n d : Int) (hn : I64 n) (hd : I64 d) (k : Nat) (hk : d.natAbs + 2 < k) : rat_New.f k n d = some (newQ n d) := by
  unfold rat_New.f newQ
  by_cases h0 : d = 0
  · rw [if_pos h0, if_pos h0]
  rw [if_neg h0, if_neg h0, size_tells hn, size_tells hd]
  simp only [Option.bind_some]
  unfold rat_common.f
  rw [common_tells d.natAbs n.natAbs k (by omega)]
  simp only [Option.bind_some]
  obtain ⟨e1, e2, e3⟩ := new_parts n d h0
  have hpos : 0 < Nat.gcd n.natAbs d.natAbs := Nat.gcd_pos_of_pos_right _ (by omega)
  generalize Nat.gcd n.natAbs d.natAbs = g at *
  have t1 : IntKind.u64.wrap (Int.tdiv (n.natAbs : Int) (g : Int)) = ((n.natAbs / g : Nat) : Int) := by
    rw [← Int.ofNat_tdiv]
    have := Nat.div_le_self n.natAbs g
    unfold I64 at hn
    exact wrapU (by omega) (by omega)
  have t2 : IntKind.u64.wrap (Int.tdiv (d.natAbs : Int) (g : Int)) = ((d.natAbs / g : Nat) : Int) := by
    rw [← Int.ofNat_tdiv]
    have := Nat.div_le_self d.natAbs g
    unfold I64 at hd
    exact wrapU (by omega) (by omega)
  rw [t1, t2, if_neg (by omega)]
  unfold Pure_ofQ
  rw [e1, e2]
  generalize n.natAbs / g = A at *
  generalize d.natAbs / g = B at *
  obtain ⟨k, rfl⟩ : ∃ m, k = m + 1 := ⟨k - 1, by omega⟩
  by_cases hA : (A : Int) > 2147483647
  · rw [if_pos hA, if_pos (Or.inl (by omega))]
    simp only [rat_New.j0, if_true]
  · rw [if_neg hA]
    by_cases hB : (B : Int) > 2147483647
    · rw [decide_eq_true hB, if_pos (Or.inr (by omega))]
      simp only [rat_New.j0, if_true]
    · rw [decide_eq_false hB, if_neg (by omega)]
      simp only [rat_New.j0, Bool.false_eq_true, if_false]
      have w1 : wrap64 (A : Int) = (A : Int) := wrap64_id (by unfold I64; omega)
      have w2 : wrap64 (B : Int) = (B : Int) := wrap64_id (by unfold I64; omega)
      have w3 : wrap64 (-(A : Int)) = -(A : Int) := wrap64_id (by unfold I64; omega)
      rw [w1, w2, w3]
      by_cases hs : ((decide (n < 0)) != (decide (d < 0))) = true
      · rw [if_pos hs] at e3 ⊢
        rw [e3]
      · rw [if_neg hs] at e3 ⊢
        rw [e3]
theorem new_tells {n d : Int} (hn : I64 n) (hd : I64 d) : Ev (fun k => rat_New.f k n d) (newQ n d) := ⟨d.natAbs + 3, fun k hk => new_at n d hn hd k (by omega)⟩
/-- A number that is right: in lowest terms, within the bounds. -/
structure Rt (n d : Int) : Prop where
  n1 : -2147483647 ≤ n
  n2 : n ≤ 2147483647
  d1 : 1 ≤ d
  d2 : d ≤ 2147483647
  num : (Rat.divInt n d).num = n
  den : ((Rat.divInt n d).den : Int) = d
def rightQ (n d : Int) : Bool := decide (d > 0) && decide (newQ n d = (n, d, 0))
theorem Rt.right {n d : Int} (h : Rt n d) : rightQ n d = true := by
  unfold rightQ newQ Pure_ofQ
  have h1 := h.n1
  have h2 := h.n2
  have h3 := h.d1
  have h4 := h.d2
  have h5 := h.num
  have h6 := h.den
  rw [if_neg (by omega), if_neg (by omega), h5, h6]
  simp only [decide_true, Bool.and_true, decide_eq_true_eq]
  omega
theorem Rt.of_right {n d : Int} (h : rightQ n d = true) : Rt n d := by
  unfold rightQ newQ Pure_ofQ at h
  rw [Bool.and_eq_true, decide_eq_true_eq, decide_eq_true_eq] at h
  obtain ⟨hd, h⟩ := h
  rw [if_neg (by omega)] at h
  by_cases hb : (Rat.divInt n d).num.natAbs > 2147483647 ∨ (Rat.divInt n d).den > 2147483647
  · rw [if_pos hb] at h
    simp only [Prod.mk.injEq] at h
    omega
  · rw [if_neg hb] at h
    simp only [Prod.mk.injEq, and_true] at h
    obtain ⟨h1, h2⟩ := h
    exact ⟨by omega, by omega, by omega, by omega, h1, h2⟩
theorem right_tells {n d : Int} (hn : I64 n) (hd : I64 d) : Ev (fun k => rat_Right.f k n d) (rightQ n d) := by
  refine Ev.bind (new_tells hn hd) ?_
  unfold rightQ
  by_cases h0 : d > 0
  · simp only [if_pos h0, decide_eq_true h0, Bool.true_and]
    obtain ⟨a, b, c⟩ := newQ n d
    simp only [Prod.mk.injEq]
    by_cases hc : c = 0
    · simp only [if_pos hc]
      refine ⟨0, fun _ _ => ?_⟩
      show some _ = some _
      congr 1
      rw [Bool.eq_iff_iff]
      simp [hc]
    · simp only [if_neg hc]
      refine ⟨0, fun _ _ => ?_⟩
      show some _ = some _
      congr 1
      simp [hc]
  · simp only [if_neg h0, decide_eq_false h0, Bool.false_and]
    exact Ev.now _
theorem Rt.i64n {n d : Int} (h : Rt n d) : I64 n := ⟨by have := h.n1; omega, by have := h.n2; omega⟩
theorem Rt.i64d {n d : Int} (h : Rt n d) : I64 d := ⟨by have := h.d1; omega, by have := h.d2; omega⟩
theorem Rt.same {a b c d : Int} (h : Rt a b) (k : Rt c d) (e : Rat.divInt a b = Rat.divInt c d) : a = c ∧ b = d := by
  have h1 := h.num; have h2 := h.den; have k1 := k.num; have k2 := k.den
  rw [e] at h1 h2
  omega
theorem mulM {x y : Int} (hx : -2147483647 ≤ x ∧ x ≤ 2147483647) (hy : -2147483647 ≤ y ∧ y ≤ 2147483647) : -4611686014132420609 ≤ x * y ∧ x * y ≤ 4611686014132420609 := by
  have h := Nat.mul_le_mul (show x.natAbs ≤ 2147483647 by omega) (show y.natAbs ≤ 2147483647 by omega)
  rw [← Int.natAbs_mul] at h
  omega
/-! ### marigraphkeep.Rat: a right number, small -/
theorem within_ev {n lo hi : Int} (h1 : 0 ≤ lo + 1000) (h2 : lo ≤ hi) (h3 : hi < 1000000) (h4 : -1000 ≤ lo) (hn : I64 n) : ∃ r, Ev (fun k => marigraphbook_Within.f k n lo hi) r ∧ lo ≤ r ∧ r ≤ hi ∧ (lo ≤ n → n ≤ hi → r = n) := by
  unfold I64 at hn
  have e1 : wrap64 (wrap64 (hi - lo) + 1) = hi - lo + 1 := by unfold wrap64; omega
  have hj : ∀ b : Bool, (b = true ↔ (lo ≤ n ∧ n ≤ hi)) → ∃ r, (∀ k, marigraphbook_Within.j0 (k + 1) n lo hi b = some r) ∧ lo ≤ r ∧ r ≤ hi ∧ (lo ≤ n → n ≤ hi → r = n) := by
    intro b hb
    simp only [marigraphbook_Within.j0, e1]
    cases b with
    | true =>
      have := hb.1 rfl
      exact ⟨n, fun _ => by rw [if_pos rfl], this.1, this.2, fun _ _ => rfl⟩
    | false =>
      have hno : ¬ (lo ≤ n ∧ n ≤ hi) := fun h => by have := hb.2 h; cases this
      simp only [Bool.false_eq_true, if_false]
      rw [if_neg (by omega)]
      have hm : (0 : Int) < hi - lo + 1 := by omega
      have t1 : Int.tmod n (hi - lo + 1) < hi - lo + 1 := Int.tmod_lt_of_pos _ hm
      have t2 : -(hi - lo + 1) < Int.tmod n (hi - lo + 1) := by
        have := Int.tmod_lt_of_pos (-n) hm
        rw [Int.neg_tmod] at this
        omega
      generalize Int.tmod n (hi - lo + 1) = t at *
      by_cases ht : t < 0
      · rw [if_pos ht]
        have e : wrap64 (lo + wrap64 (wrap64 (wrap64 (t + hi) - lo) + 1)) = t + hi + 1 := by unfold wrap64; omega
        rw [e]
        exact ⟨_, fun _ => rfl, by omega, by omega, fun a b => absurd ⟨a, b⟩ hno⟩
      · rw [if_neg ht]
        have e : wrap64 (lo + t) = lo + t := by unfold wrap64; omega
        rw [e]
        exact ⟨_, fun _ => rfl, by omega, by omega, fun a b => absurd ⟨a, b⟩ hno⟩
  have fin : ∀ b : Bool, (∀ k, marigraphbook_Within.f k n lo hi = marigraphbook_Within.j0 k n lo hi b) → (b = true ↔ (lo ≤ n ∧ n ≤ hi)) → ∃ r, Ev (fun k => marigraphbook_Within.f k n lo hi) r ∧ lo ≤ r ∧ r ≤ hi ∧ (lo ≤ n → n ≤ hi → r = n) := by
    intro b hf hb
    obtain ⟨r, h, hr⟩ := hj b hb
    refine ⟨r, ⟨1, fun k hk => ?_⟩, hr⟩
    obtain ⟨k, rfl⟩ : ∃ m, k = m + 1 := ⟨k - 1, by omega⟩
    show marigraphbook_Within.f (k + 1) n lo hi = some r
    rw [hf]
    exact h k
  by_cases hlo : n ≥ lo
  · refine fin (decide (n ≤ hi)) (fun k => by unfold marigraphbook_Within.f; rw [if_pos hlo]) ?_
    rw [decide_eq_true_iff]
    exact ⟨fun h => ⟨hlo, h⟩, fun h => h.2⟩
  · refine fin false (fun k => by unfold marigraphbook_Within.f; rw [if_neg hlo]) ?_
    constructor
    · intro h; cases h
    · intro h; omega
def NoDiv (a b j : Int) : Prop := ∀ i : Int, 2 ≤ i → i < j → ¬ (i ∣ a ∧ i ∣ b)
theorem keep_loops (K : Nat) : (∀ (a b j : Int), 1 ≤ b → b ≤ 12 → -60 ≤ a → a ≤ 60 → 2 ≤ j → j ≤ 13 → 3 * b + 2 * (14 - j) + 1 ≤ K → NoDiv a b j → ∃ N D, marigraphkeep_Rat.l0 K a b j = some (N, D) ∧ 1 ≤ D ∧ D ≤ 12 ∧ -60 ≤ N ∧ N ≤ 60 ∧ NoDiv N D (D + 1)) ∧
    (∀ (a b j : Int), 1 ≤ b → b ≤ 12 → -60 ≤ a → a ≤ 60 → 2 ≤ j → j ≤ b → 3 * b + 2 * (14 - j) ≤ K → NoDiv a b j → ∃ N D, marigraphkeep_Rat.l1 K a b j = some (N, D) ∧ 1 ≤ D ∧ D ≤ 12 ∧ -60 ≤ N ∧ N ≤ 60 ∧ NoDiv N D (D + 1)) := by
  induction K with
  | zero => exact ⟨fun a b j h1 h2 h3 h4 h5 h6 hK => by omega, fun a b j h1 h2 h3 h4 h5 h6 hK => by omega⟩
  | succ K ih =>
    refine ⟨fun a b j h1 h2 h3 h4 h5 h6 hK hno => ?_, fun a b j h1 h2 h3 h4 h5 h6 hK hno => ?_⟩
    · simp only [marigraphkeep_Rat.l0]
      by_cases hj : j ≤ b
      · rw [if_pos hj]
        exact ih.2 a b j h1 h2 h3 h4 h5 hj (by omega) hno
      · rw [if_neg hj]
        exact ⟨a, b, rfl, h1, h2, h3, h4, fun i hi1 hi2 => hno i hi1 (by omega)⟩
    · simp only [marigraphkeep_Rat.l1]
      rw [if_neg (by omega)]
      have wj : wrap64 (j + 1) = j + 1 := wrap64_id ⟨by omega, by omega⟩
      have next : (¬ (j ∣ a ∧ j ∣ b)) → ∃ N D, marigraphkeep_Rat.l0 K a b (wrap64 (j + 1)) = some (N, D) ∧ 1 ≤ D ∧ D ≤ 12 ∧ -60 ≤ N ∧ N ≤ 60 ∧ NoDiv N D (D + 1) := by
        intro hnd
        rw [wj]
        refine ih.1 a b (j + 1) h1 h2 h3 h4 (by omega) (by omega) (by omega) (fun i hi1 hi2 hd => ?_)
        by_cases hij : i < j
        · exact hno i hi1 hij hd
        · obtain rfl : i = j := by omega
          exact hnd hd
      by_cases ha : Int.tmod a j = 0
      · rw [if_pos ha]
        have da : j ∣ a := Int.dvd_of_tmod_eq_zero ha
        by_cases hb : Int.tmod b j = 0
        · rw [if_pos hb]
          have db : j ∣ b := Int.dvd_of_tmod_eq_zero hb
          obtain ⟨x, rfl⟩ := da
          obtain ⟨y, rfl⟩ := db
          have ex : Int.tdiv (j * x) j = x := Int.mul_tdiv_cancel_left _ (by omega)
          have ey : Int.tdiv (j * y) j = y := Int.mul_tdiv_cancel_left _ (by omega)
          have y1 : 1 ≤ y := by
            by_cases hy : y ≤ 0
            · have := Int.mul_nonneg_of_nonpos_of_nonpos (show -j ≤ 0 by omega) hy
              rw [Int.neg_mul] at this
              omega
            · omega
          have y2 : 2 * y ≤ j * y := Int.mul_le_mul_of_nonneg_right h5 (by omega)
          have x1 : x.natAbs ≤ (j * x).natAbs := by
            rw [Int.natAbs_mul]
            exact Nat.le_mul_of_pos_left _ (by omega)
          rw [ex, ey, wrap64_id (show I64 x from ⟨by omega, by omega⟩), wrap64_id (show I64 y from ⟨by omega, by omega⟩)]
          have hno' : NoDiv x y j := fun i hi1 hi2 hd => hno i hi1 hi2 ⟨Int.dvd_trans hd.1 (Int.dvd_mul_left _ _), Int.dvd_trans hd.2 (Int.dvd_mul_left _ _)⟩
          by_cases hjy : j ≤ y
          · exact ih.2 x y j (by omega) (by omega) (by omega) (by omega) h5 hjy (by omega) hno'
          · obtain ⟨K', rfl⟩ : ∃ m, K = m + 1 := ⟨K - 1, by omega⟩
            simp only [marigraphkeep_Rat.l1]
            rw [if_neg (by omega)]
            have wj' : wrap64 (j + 1) = j + 1 := wj
            have stop : ∀ k' : Nat, 0 < k' → ∀ j' : Int, j ≤ j' → ∃ N D, marigraphkeep_Rat.l0 k' x y j' = some (N, D) ∧ 1 ≤ D ∧ D ≤ 12 ∧ -60 ≤ N ∧ N ≤ 60 ∧ NoDiv N D (D + 1) := by
              intro k' hk' j' hj'
              obtain ⟨k', rfl⟩ : ∃ m, k' = m + 1 := ⟨k' - 1, by omega⟩
              simp only [marigraphkeep_Rat.l0]
              rw [if_neg (by omega)]
              exact ⟨x, y, rfl, by omega, by omega, by omega, by omega, fun i hi1 hi2 => hno' i hi1 (by omega)⟩
            have hty : ¬ Int.tmod y j = 0 := by
              rw [Int.tmod_eq_of_lt (by omega) (by omega)]
              omega
            rw [wj', if_neg hty]
            by_cases hx : Int.tmod x j = 0
            · rw [if_pos hx]; exact stop K' (by omega) _ (by omega)
            · rw [if_neg hx]; exact stop K' (by omega) _ (by omega)
        · rw [if_neg hb]
          exact next (fun h => hb (Int.tmod_eq_zero_of_dvd h.2))
      · rw [if_neg ha]
        exact next (fun h => ha (Int.tmod_eq_zero_of_dvd h.1))
theorem rt_of_nodiv {N D : Int} (h1 : 1 ≤ D) (h2 : D ≤ 12) (h3 : -60 ≤ N) (h4 : N ≤ 60) (hno : NoDiv N D (D + 1)) : Rt N D := by
  have hg : Nat.gcd N.natAbs D.natAbs = 1 := by
    have hpos : 0 < Nat.gcd N.natAbs D.natAbs := Nat.gcd_pos_of_pos_right _ (by omega)
    have hle : Nat.gcd N.natAbs D.natAbs ≤ D.natAbs := Nat.le_of_dvd (by omega) (Nat.gcd_dvd_right _ _)
    by_cases h : Nat.gcd N.natAbs D.natAbs = 1
    · exact h
    · refine absurd ⟨?_, ?_⟩ (hno (Nat.gcd N.natAbs D.natAbs : Nat) (by omega) (by omega))
      · exact Int.natAbs_dvd_natAbs.1 (by rw [Int.natAbs_natCast]; exact Nat.gcd_dvd_left _ _)
      · exact Int.natAbs_dvd_natAbs.1 (by rw [Int.natAbs_natCast]; exact Nat.gcd_dvd_right _ _)
  obtain ⟨e1, _, e3⟩ := new_parts N D (by omega)
  rw [hg, Nat.div_one] at e1 e3
  rw [decide_eq_false (show ¬ D < 0 by omega)] at e3
  refine ⟨by omega, by omega, by omega, by omega, ?_, by omega⟩
  by_cases hn : N < 0
  · rw [decide_eq_true hn] at e3
    simp only [Bool.bne_false, if_true] at e3
    omega
  · rw [decide_eq_false hn] at e3
    simp only [bne_self_eq_false, Bool.false_eq_true, if_false] at e3
    omega
theorem keep_tells {x y : Int} (hx : I64 x) (hy : I64 y) : ∃ N D, Ev (fun k => marigraphkeep_Rat.f k x y) (N, D) ∧ Rt N D ∧ -60 ≤ N ∧ N ≤ 60 ∧ 1 ≤ D ∧ D ≤ 12 := by
  obtain ⟨a, ha, a1, a2, _⟩ := within_ev (lo := -60) (hi := 60) (by omega) (by omega) (by omega) (by omega) hx
  obtain ⟨b, hb, b1, b2, _⟩ := within_ev (lo := 1) (hi := 12) (by omega) (by omega) (by omega) (by omega) hy
  have hl : ∀ K : Nat, 100 ≤ K → ∃ N D, marigraphkeep_Rat.l0 K a b 2 = some (N, D) ∧ 1 ≤ D ∧ D ≤ 12 ∧ -60 ≤ N ∧ N ≤ 60 ∧ NoDiv N D (D + 1) :=
    fun K hK => (keep_loops K).1 a b 2 b1 b2 a1 a2 (by omega) (by omega) (by omega) (fun i h1 h2 => by omega)
  obtain ⟨N, D, h0, d1, d2, n1, n2, hno⟩ := hl 100 (by omega)
  refine ⟨N, D, ?_, rt_of_nodiv d1 d2 n1 n2 hno, n1, n2, d1, d2⟩
  refine Ev.bind ha (Ev.bind hb ?_)
  exact Ev.of (fun k => marigraphkeep_Rat.mono_l k |>.1 _ _ _) h0
/-! ### Cmp, Add, Sub, Mul, Div of right numbers -/
def VQ (n d : Int) : Rat := Rat.divInt n d
theorem ratlt {n d m e : Int} (h : Rt n d) (k : Rt m e) : n * e < m * d ↔ VQ n d < VQ m e := by
  rw [Rat.lt_iff]
  unfold VQ
  rw [h.num, h.den, k.num, k.den]
theorem rateq {n d m e : Int} (h : Rt n d) (k : Rt m e) : (n = m ∧ d = e) ↔ VQ n d = VQ m e := ⟨fun he => by rw [he.1, he.2], fun he => h.same k he⟩
def cmpQ (a b : Rat) : Int := if a < b then -1 else if a = b then 0 else 1
theorem prodw {x y : Int} (hx : -2147483647 ≤ x ∧ x ≤ 2147483647) (hy : -2147483647 ≤ y ∧ y ≤ 2147483647) : wrap64 (x * y) = x * y := by
  have := mulM hx hy
  exact wrap64_id ⟨by omega, by omega⟩
theorem exactQ {f : Nat → Option (Int × Int × Int)} {n d : Int} {q : Rat} (hn : I64 n) (hd : I64 d) (h0 : d ≠ 0) (hq : Rat.divInt n d = q) (hf : ∀ k, f (k + 1) = (rat_New.f k n d).bind fun t => some (t.1, t.2.1, t.2.2)) : Ev f (Pure_ofQ q) := by
  refine Ev.step hf ?_
  have h := new_tells hn hd
  have e : newQ n d = Pure_ofQ q := by unfold newQ; rw [if_neg h0, hq]
  rw [e] at h
  exact Ev.bind h (Ev.now _)
theorem cmp_tells {n d m e : Int} (h : Rt n d) (k : Rt m e) : Ev (fun K => rat_Cmp.f K n d m e) (cmpQ (VQ n d) (VQ m e)) := by
  have r1 := right_tells h.i64n h.i64d
  have r2 := right_tells k.i64n k.i64d
  rw [h.right] at r1
  rw [k.right] at r2
  refine Ev.bind r1 (Ev.bind r2 ?_)
  simp only [if_true, Bool.not_true]
  refine ⟨1, fun K hK => ?_⟩
  obtain ⟨K, rfl⟩ : ∃ m, K = m + 1 := ⟨K - 1, by omega⟩
  simp only [rat_Cmp.j0, Bool.false_eq_true, if_false, if_true]
  have h1 := h.n1; have h2 := h.n2; have h3 := h.d1; have h4 := h.d2
  have k1 := k.n1; have k2 := k.n2; have k3 := k.d1; have k4 := k.d2
  rw [prodw (x := n) (y := e) ⟨by omega, by omega⟩ ⟨by omega, by omega⟩, prodw (x := m) (y := d) ⟨by omega, by omega⟩ ⟨by omega, by omega⟩]
  unfold cmpQ
  by_cases hlt : n * e < m * d
  · rw [if_pos hlt, if_pos ((ratlt h k).1 hlt)]
  · rw [if_neg hlt, if_neg (fun hh => hlt ((ratlt h k).2 hh))]
    by_cases he : VQ n d = VQ m e
    · obtain ⟨e1, e2⟩ := (rateq h k).2 he
      rw [if_pos (by rw [e1, e2]; simp), if_pos he]
    · rw [if_neg (fun hh => he ((rateq h k).1 (by simpa using hh))), if_neg he]
theorem Add_tells {n d m e : Int} (h : Rt n d) (k : Rt m e) : Ev (fun K => rat_Add.f K n d m e) (Pure_ofQ (VQ n d + VQ m e)) := by
  have r1 := right_tells h.i64n h.i64d
  have r2 := right_tells k.i64n k.i64d
  rw [h.right] at r1
  rw [k.right] at r2
  have h1 := h.n1; have h2 := h.n2; have h3 := h.d1; have h4 := h.d2
  have k1 := k.n1; have k2 := k.n2; have k3 := k.d1; have k4 := k.d2
  have hd0 : d ≠ 0 := by omega
  have he0 : e ≠ 0 := by omega
  have p1 := mulM (x := n) (y := e) ⟨by omega, by omega⟩ ⟨by omega, by omega⟩
  have p2 := mulM (x := m) (y := d) ⟨by omega, by omega⟩ ⟨by omega, by omega⟩
  have p3 := mulM (x := d) (y := e) ⟨by omega, by omega⟩ ⟨by omega, by omega⟩
  have p4 := mulM (x := n) (y := m) ⟨by omega, by omega⟩ ⟨by omega, by omega⟩
  have hde : d * e ≠ 0 := Int.mul_ne_zero hd0 he0
  refine Ev.bind (g := fun K => rat_exact_of_rat_Add_1_rat_both.f K n d m e) (a := Pure_ofQ (VQ n d + VQ m e)) (f := fun _ b => some (b.1, b.2.1, b.2.2)) (Ev.bind r1 ?_) (Ev.now _)
  simp only [if_true]
  refine Ev.bind r2 ?_
  refine exactQ (n := n * e + m * d) (d := d * e) ⟨by omega, by omega⟩ ⟨by omega, by omega⟩ hde ?_ (fun K => ?_)
  · exact (Rat.divInt_add_divInt _ _ hd0 he0).symm
  · simp only [rat_exact_of_rat_Add_1_rat_both.j0, rat_Add_1.f, rat_both.f, Bool.not_true, Bool.false_eq_true, if_false, Option.bind_some]
    rw [wrap64_id (x := d * e) ⟨by omega, by omega⟩]
    rw [wrap64_id (x := n * e) ⟨by omega, by omega⟩, wrap64_id (x := m * d) ⟨by omega, by omega⟩, wrap64_id (x := n * e + m * d) ⟨by omega, by omega⟩]
theorem Sub_tells {n d m e : Int} (h : Rt n d) (k : Rt m e) : Ev (fun K => rat_Sub.f K n d m e) (Pure_ofQ (VQ n d - VQ m e)) := by
  have r1 := right_tells h.i64n h.i64d
  have r2 := right_tells k.i64n k.i64d
  rw [h.right] at r1
  rw [k.right] at r2
  have h1 := h.n1; have h2 := h.n2; have h3 := h.d1; have h4 := h.d2
  have k1 := k.n1; have k2 := k.n2; have k3 := k.d1; have k4 := k.d2
  have hd0 : d ≠ 0 := by omega
  have he0 : e ≠ 0 := by omega
  have p1 := mulM (x := n) (y := e) ⟨by omega, by omega⟩ ⟨by omega, by omega⟩
  have p2 := mulM (x := m) (y := d) ⟨by omega, by omega⟩ ⟨by omega, by omega⟩
  have p3 := mulM (x := d) (y := e) ⟨by omega, by omega⟩ ⟨by omega, by omega⟩
  have p4 := mulM (x := n) (y := m) ⟨by omega, by omega⟩ ⟨by omega, by omega⟩
  have hde : d * e ≠ 0 := Int.mul_ne_zero hd0 he0
  refine Ev.bind (g := fun K => rat_exact_of_rat_Sub_1_rat_both.f K n d m e) (a := Pure_ofQ (VQ n d - VQ m e)) (f := fun _ b => some (b.1, b.2.1, b.2.2)) (Ev.bind r1 ?_) (Ev.now _)
  simp only [if_true]
  refine Ev.bind r2 ?_
  refine exactQ (n := n * e - m * d) (d := d * e) ⟨by omega, by omega⟩ ⟨by omega, by omega⟩ hde ?_ (fun K => ?_)
  · exact (Rat.divInt_sub_divInt _ _ hd0 he0).symm
  · simp only [rat_exact_of_rat_Sub_1_rat_both.j0, rat_Sub_1.f, rat_both.f, Bool.not_true, Bool.false_eq_true, if_false, Option.bind_some]
    rw [wrap64_id (x := d * e) ⟨by omega, by omega⟩]
    rw [wrap64_id (x := n * e) ⟨by omega, by omega⟩, wrap64_id (x := m * d) ⟨by omega, by omega⟩, wrap64_id (x := n * e - m * d) ⟨by omega, by omega⟩]
theorem Mul_tells {n d m e : Int} (h : Rt n d) (k : Rt m e) : Ev (fun K => rat_Mul.f K n d m e) (Pure_ofQ (VQ n d * VQ m e)) := by
  have r1 := right_tells h.i64n h.i64d
  have r2 := right_tells k.i64n k.i64d
  rw [h.right] at r1
  rw [k.right] at r2
  have h1 := h.n1; have h2 := h.n2; have h3 := h.d1; have h4 := h.d2
  have k1 := k.n1; have k2 := k.n2; have k3 := k.d1; have k4 := k.d2
  have hd0 : d ≠ 0 := by omega
  have he0 : e ≠ 0 := by omega
  have p1 := mulM (x := n) (y := e) ⟨by omega, by omega⟩ ⟨by omega, by omega⟩
  have p2 := mulM (x := m) (y := d) ⟨by omega, by omega⟩ ⟨by omega, by omega⟩
  have p3 := mulM (x := d) (y := e) ⟨by omega, by omega⟩ ⟨by omega, by omega⟩
  have p4 := mulM (x := n) (y := m) ⟨by omega, by omega⟩ ⟨by omega, by omega⟩
  have hde : d * e ≠ 0 := Int.mul_ne_zero hd0 he0
  refine Ev.bind (g := fun K => rat_exact_of_rat_Mul_1_rat_both.f K n d m e) (a := Pure_ofQ (VQ n d * VQ m e)) (f := fun _ b => some (b.1, b.2.1, b.2.2)) (Ev.bind r1 ?_) (Ev.now _)
  simp only [if_true]
  refine Ev.bind r2 ?_
  refine exactQ (n := n * m) (d := d * e) ⟨by omega, by omega⟩ ⟨by omega, by omega⟩ hde ?_ (fun K => ?_)
  · exact (Rat.divInt_mul_divInt n m).symm
  · simp only [rat_exact_of_rat_Mul_1_rat_both.j0, rat_Mul_1.f, rat_both.f, Bool.not_true, Bool.false_eq_true, if_false, Option.bind_some]
    rw [wrap64_id (x := d * e) ⟨by omega, by omega⟩]
    rw [wrap64_id (x := n * m) ⟨by omega, by omega⟩]
theorem Div_tells {n d m e : Int} (h : Rt n d) (k : Rt m e) : Ev (fun K => rat_Div.f K n d m e) (newQ (n * e) (d * m)) := by
  have r1 := right_tells h.i64n h.i64d
  have r2 := right_tells k.i64n k.i64d
  rw [h.right] at r1
  rw [k.right] at r2
  have h1 := h.n1; have h2 := h.n2; have h3 := h.d1; have h4 := h.d2
  have k1 := k.n1; have k2 := k.n2; have k3 := k.d1; have k4 := k.d2
  have p1 := mulM (x := n) (y := e) ⟨by omega, by omega⟩ ⟨by omega, by omega⟩
  have p2 := mulM (x := d) (y := m) ⟨by omega, by omega⟩ ⟨by omega, by omega⟩
  refine Ev.bind (g := fun K => rat_exact_of_rat_Div_1_rat_Div_2.f K n d m e) (a := newQ (n * e) (d * m)) (f := fun _ b => some (b.1, b.2.1, b.2.2)) (Ev.bind r1 ?_) (Ev.now _)
  simp only [if_true]
  refine Ev.bind r2 ?_
  refine Ev.step (f := fun K => (rat_New.f K (n * e) (d * m)).bind fun t => some (t.1, t.2.1, t.2.2)) (fun K => ?_) (Ev.bind (new_tells ⟨by omega, by omega⟩ ⟨by omega, by omega⟩) (Ev.now _))
  simp only [rat_exact_of_rat_Div_1_rat_Div_2.j0, rat_Div_1.f, rat_Div_2.f, Bool.not_true, Bool.false_eq_true, if_false, Option.bind_some]
  rw [wrap64_id (x := n * e) ⟨by omega, by omega⟩, wrap64_id (x := d * m) ⟨by omega, by omega⟩]
/-! ### texts as lists of bytes -/
theorem tl_size (s : ByteArray) : s.size = s.toList.length := by rw [Lib.toList_data]; rfl
theorem tl_append (a b : ByteArray) : (a ++ b).toList = a.toList ++ b.toList := by
  rw [Lib.toList_data, Lib.toList_data, Lib.toList_data, ByteArray.data_append, Array.toList_append]
theorem tl_rest (s : ByteArray) : (s.extract 1 s.size).toList = s.toList.drop 1 := by
  rw [Lib.toList_data, Lib.toList_data, ByteArray.data_extract, Array.toList_extract, List.extract_eq_take_drop, show s.size - 1 = (s.data.toList.drop 1).length by rw [List.length_drop]; rfl, List.take_length]
theorem tl_head {s : ByteArray} {c : UInt8} {r : List UInt8} (h : s.toList = c :: r) : bt s 0 = (c.toNat : Int) ∧ 0 < s.size := by
  have h0 : 0 < s.size := by rw [tl_size, h]; simp
  have e : s[0]'h0 = c := by
    have h1 : s.data.toList = c :: r := by rw [← Lib.toList_data]; exact h
    have h2 : s.data.toList[0]? = some c := by rw [h1]; rfl
    rw [Array.getElem?_toList, Array.getElem?_eq_getElem h0] at h2
    exact Option.some.inj h2
  refine ⟨?_, h0⟩
  unfold bt
  rw [dif_pos (show (0 : Int).toNat < s.size from h0)]
  show ((s[0]'h0).toNat : Int) = _
  rw [e]
/-- Digits, as bytes. -/
def Dg (l : List Int) : Prop := ∀ c ∈ l, 48 ≤ c ∧ c ≤ 57
def val : Int → List Int → Int
  | a, [] => a
  | a, c :: l => val (10 * a + (c - 48)) l
theorem val_append (l m : List Int) : ∀ a, val a (l ++ m) = val (val a l) m := by
  induction l with
  | nil => intro a; rfl
  | cons c l ih => intro a; exact ih _
theorem val_le {l : List Int} (h : Dg l) : ∀ a, 0 ≤ a → a ≤ val a l := by
  induction l with
  | nil => intro a _; exact Int.le_refl _
  | cons c l ih =>
    intro a ha
    have hc := h c (by simp)
    have := ih (fun x hx => h x (by simp [hx])) (10 * a + (c - 48)) (by omega)
    show a ≤ val (10 * a + (c - 48)) l
    omega
def dI (n : Nat) : List Int := if n < 10 then [48 + (n : Int)] else dI (n / 10) ++ [48 + ((n % 10 : Nat) : Int)]
termination_by n
decreasing_by omega
theorem dI_small {n : Nat} (h : n < 10) : dI n = [48 + (n : Int)] := by rw [dI, if_pos h]
theorem dI_big {n : Nat} (h : ¬ n < 10) : dI n = dI (n / 10) ++ [48 + ((n % 10 : Nat) : Int)] := by
  conv => lhs; rw [dI]
  rw [if_neg h]
theorem dI_dg : ∀ n : Nat, Dg (dI n) := by
  intro n
  induction n using Nat.strongRecOn with
  | _ n ih =>
    by_cases h : n < 10
    · rw [dI_small h]
      intro c hc
      rw [List.mem_singleton] at hc
      omega
    · rw [dI_big h]
      intro c hc
      rcases List.mem_append.1 hc with hc | hc
      · exact ih (n / 10) (by omega) c hc
      · rw [List.mem_singleton] at hc
        omega
theorem dI_val : ∀ n : Nat, val 0 (dI n) = (n : Int) := by
  intro n
  induction n using Nat.strongRecOn with
  | _ n ih =>
    by_cases h : n < 10
    · rw [dI_small h]
      show 10 * 0 + (48 + (n : Int) - 48) = _
      omega
    · rw [dI_big h, val_append, ih (n / 10) (by omega)]
      show 10 * ((n / 10 : Nat) : Int) + (48 + ((n % 10 : Nat) : Int) - 48) = _
      omega
theorem dI_len : ∀ n : Nat, 1 ≤ (dI n).length ∧ (dI n).length ≤ n + 1 := by
  intro n
  induction n using Nat.strongRecOn with
  | _ n ih =>
    by_cases h : n < 10
    · rw [dI_small h]
      simp
    · have := ih (n / 10) (by omega)
      rw [dI_big h, List.length_append, List.length_singleton]
      omega
theorem digits_loop : ∀ (n : Nat) (acc : List Int), n ≤ 2147483647 → acc.length + n ≤ 4294967296 → Ev (fun k => rat_digits.l0 k (n : Int) acc) (strOfNums (dI n ++ acc)) := by
  intro n
  induction n using Nat.strongRecOn with
  | _ n ih =>
    intro acc hn ha
    have e1 : wrap64 (48 + Int.tmod (n : Int) 10) % 256 = 48 + ((n % 10 : Nat) : Int) := by
      rw [Int.tmod_eq_emod_of_nonneg (Int.natCast_nonneg n)]
      unfold wrap64
      omega
    have e2 : wrap64 (Int.tdiv (n : Int) 10) = ((n / 10 : Nat) : Int) := by
      rw [Int.tdiv_eq_ediv_of_nonneg (Int.natCast_nonneg n)]
      unfold wrap64
      omega
    have e3 : [48 + ((n % 10 : Nat) : Int)].length + acc.length < 140737488355328 := by rw [List.length_singleton]; omega
    by_cases h : n < 10
    · refine Ev.step (f := fun _ => some (strOfNums (dI n ++ acc))) (fun k => ?_) (Ev.now _)
      simp only [rat_digits.l0, e1, e2, Option.bind_some]
      rw [if_pos e3, if_pos (by omega), dI_small h, show n % 10 = n by omega]
    · have hn2 := ih (n / 10) (by omega) ([48 + ((n % 10 : Nat) : Int)] ++ acc) (by omega) (by rw [List.length_append, List.length_singleton]; omega)
      rw [dI_big h, List.append_assoc]
      refine Ev.step (fun k => ?_) hn2
      simp only [rat_digits.l0, e1, e2, Option.bind_some]
      rw [if_pos e3, if_neg (by omega)]
theorem digits_tells {n : Int} (h0 : 0 ≤ n) (h1 : n ≤ 2147483647) : Ev (fun k => rat_digits.f k n) (strOfNums (dI n.toNat)) := by
  have := digits_loop n.toNat [] (by omega) (by simp; omega)
  rw [List.append_nil, Int.toNat_of_nonneg h0] at this
  exact this
/-- A number as a text. -/
def TP (n d : Int) : ByteArray := if d > 1 then (strOfNums (dI n.toNat) ++ (⟨#[47]⟩ : ByteArray)) ++ strOfNums (dI d.toNat) else strOfNums (dI n.toNat)
def TB (n d : Int) : ByteArray := if n < 0 then (⟨#[45]⟩ : ByteArray) ++ TP (-n) d else TP n d
/-- Its bytes. -/
def TR (d : Int) : List Int := if d > 1 then 47 :: dI d.toNat else []
theorem sn_size (l : List Int) : (strOfNums l).size = l.length := by rw [tl_size, Lib.strOfNums_toList, Lib.bytesOf_length]
theorem one_tl (c : UInt8) : (⟨#[c]⟩ : ByteArray).toList = [c] := by rw [Lib.toList_data]
theorem bo_append (a b : List Int) : Lib.bytesOf (a ++ b) = Lib.bytesOf a ++ Lib.bytesOf b := by simp [Lib.bytesOf]
theorem TP_tl (n d : Int) : (TP n d).toList = Lib.bytesOf (dI n.toNat ++ TR d) := by
  unfold TP TR
  by_cases h : d > 1
  · rw [if_pos h, if_pos h, tl_append, tl_append, Lib.strOfNums_toList, Lib.strOfNums_toList, one_tl, bo_append, List.append_assoc]
    rfl
  · rw [if_neg h, if_neg h, Lib.strOfNums_toList, List.append_nil]
theorem TB_tl (n d : Int) : (TB n d).toList = if n < 0 then 45 :: Lib.bytesOf (dI (-n).toNat ++ TR d) else Lib.bytesOf (dI n.toNat ++ TR d) := by
  unfold TB
  by_cases h : n < 0
  · rw [if_pos h, if_pos h, tl_append, one_tl, TP_tl]
    rfl
  · rw [if_neg h, if_neg h, TP_tl]
theorem TP_size {n d : Int} (h0 : 0 ≤ n) (h1 : n ≤ 2147483647) (h2 : d ≤ 2147483647) : (TP n d).size ≤ 4294967300 := by
  have l1 := dI_len n.toNat
  have l2 := dI_len d.toNat
  rw [tl_size, TP_tl, Lib.bytesOf_length, List.length_append]
  unfold TR
  by_cases h : d > 1
  · rw [if_pos h, List.length_cons]; omega
  · rw [if_neg h]; simp only [List.length_nil]; omega
theorem Rt.neg {n d : Int} (h : Rt n d) : Rt (-n) d := by
  have e : Rat.divInt (-n) d = - Rat.divInt n d := by rw [Rat.neg_divInt]
  exact ⟨by have := h.n2; omega, by have := h.n1; omega, h.d1, h.d2, by rw [e, Rat.neg_num, h.num], by rw [e, Rat.neg_den, h.den]⟩
theorem Text_pos {n d : Int} (h : Rt n d) (h0 : 0 ≤ n) : Ev (fun k => rat_Text.f k n d) (TP n d) := by
  have hr := right_tells h.i64n h.i64d
  rw [h.right] at hr
  have l1 := dI_len n.toNat
  have l2 := dI_len d.toNat
  have b1 := h.n2
  have b2 := h.d2
  have b3 := h.d1
  refine Ev.step (f := fun k => rat_Text.f (k + 1) n d) (fun _ => rfl) ?_
  simp only [rat_Text.f]
  refine Ev.bind hr ?_
  simp only [if_true, if_neg (show ¬ n < 0 by omega)]
  unfold TP
  by_cases hd : d > 1
  · simp only [if_pos hd]
    refine Ev.bind (digits_tells h0 b1) ?_
    simp only [if_pos (show (strOfNums (dI n.toNat)).size + 1 ≤ 9223372036854775807 by rw [sn_size]; omega)]
    refine Ev.bind (digits_tells (show 0 ≤ d by omega) b2) ?_
    have hz : ((strOfNums (dI n.toNat)) ++ (⟨#[47]⟩ : ByteArray)).size + (strOfNums (dI d.toNat)).size ≤ 9223372036854775807 := by
      rw [ByteArray.size_append, sn_size, sn_size, show (⟨#[47]⟩ : ByteArray).size = 1 from rfl]; omega
    simp only [if_pos hz]
    exact Ev.now _
  · simp only [if_neg hd]
    exact Ev.bind (digits_tells h0 b1) (Ev.now _)
theorem Text_tells {n d : Int} (h : Rt n d) : Ev (fun k => rat_Text.f k n d) (TB n d) := by
  unfold TB
  by_cases h0 : n < 0
  · have hr := right_tells h.i64n h.i64d
    rw [h.right] at hr
    have b1 := h.n1
    have e : wrap64 (-n) = -n := by unfold wrap64; omega
    have hs := TP_size (n := -n) (d := d) (by omega) (by omega) h.d2
    refine Ev.step (f := fun k => rat_Text.f (k + 1) n d) (fun _ => rfl) ?_
    simp only [rat_Text.f]
    refine Ev.bind hr ?_
    simp only [if_true, if_pos h0, e]
    refine Ev.bind (Text_pos h.neg (by omega)) ?_
    simp only [if_pos (show 1 + (TP (-n) d).size ≤ 9223372036854775807 by omega)]
    exact Ev.now _
  · rw [if_neg h0]
    exact Text_pos h (by omega)
theorem number_end {x : ByteArray} {a : Int} (r : List UInt8) (h : x.toList = [] ∨ x.toList = 47 :: r) : Ev (fun k => rat_number.l0 k x a) (a, x) := by
  refine Ev.step (f := fun _ => some (a, x)) (fun k => ?_) (Ev.now _)
  simp only [rat_number.l0]
  rcases h with h | h
  · rw [if_pos h]
  · obtain ⟨h1, h2⟩ := tl_head h
    rw [if_neg (by rw [h]; simp), if_pos (by omega), if_neg (by rw [h1]; decide)]
theorem number_loop (r : List Int) (hr : r = [] ∨ ∃ q, r = 47 :: q) : ∀ (l : List Int) (x : ByteArray) (a : Int), Dg l → x.toList = Lib.bytesOf (l ++ r) → 0 ≤ a → val a l ≤ 2147483647 → ∃ x' : ByteArray, x'.toList = Lib.bytesOf r ∧ Ev (fun k => rat_number.l0 k x a) (val a l, x') := by
  intro l
  induction l with
  | nil =>
    intro x a _ hx _ _
    refine ⟨x, hx, ?_⟩
    rcases hr with rfl | ⟨q, rfl⟩
    · exact number_end [] (Or.inl hx)
    · exact number_end (Lib.bytesOf q) (Or.inr hx)
  | cons c l ih =>
    intro x a hd hx h0 hv
    have hc := hd c (by simp)
    have hd' : Dg l := fun y hy => hd y (by simp [hy])
    have hle := val_le hd' (10 * a + (c - 48)) (by omega)
    have hv' : val (10 * a + (c - 48)) l ≤ 2147483647 := hv
    have hx2 : x.toList = UInt8.ofNat c.toNat :: Lib.bytesOf (l ++ r) := hx
    obtain ⟨h1, h2⟩ := tl_head hx2
    have e : ((UInt8.ofNat c.toNat).toNat : Int) = c := by rw [UInt8.toNat_ofNat']; omega
    rw [e] at h1
    have hrest : (x.extract 1 x.size).toList = Lib.bytesOf (l ++ r) := by rw [tl_rest, hx2]; rfl
    obtain ⟨x', hx', he⟩ := ih (x.extract 1 x.size) (10 * a + (c - 48)) hd' hrest (by omega) hv'
    refine ⟨x', hx', ?_⟩
    have e2 : wrap64 (wrap64 (10 * a) + ((c - 48) % 256)) = 10 * a + (c - 48) := by unfold wrap64; omega
    refine Ev.step (fun k => ?_) he
    simp only [rat_number.l0]
    rw [if_neg (by rw [hx2]; simp), if_pos (by omega), h1, if_pos (by omega), if_pos (by omega), if_pos (by omega), if_pos (by omega), e2]
theorem number_dI (m : Nat) (hm : m ≤ 2147483647) (r : List Int) (hr : r = [] ∨ ∃ q, r = 47 :: q) (x : ByteArray) (hx : x.toList = Lib.bytesOf (dI m ++ r)) : ∃ x' : ByteArray, x'.toList = Lib.bytesOf r ∧ Ev (fun k => rat_number.f k x) ((m : Int), x') := by
  have := number_loop r hr (dI m) x 0 (dI_dg m) hx (Int.le_refl _) (by rw [dI_val]; omega)
  rw [dI_val] at this
  exact this
theorem TR_is (d : Int) : TR d = [] ∨ ∃ q, TR d = 47 :: q := by
  unfold TR
  split
  · exact Or.inr ⟨_, rfl⟩
  · exact Or.inl rfl
theorem Parse_end {n d : Int} (h : Rt n d) {x0 : ByteArray} (e : (TB n d).toList = x0.toList) : Ev (fun k => rat_Parse.j3 k x0 n d) (n, d, 0) := by
  have hr := right_tells h.i64n h.i64d
  rw [h.right] at hr
  refine Ev.step (f := fun k => rat_Parse.j3 (k + 1) x0 n d) (fun _ => rfl) ?_
  simp only [rat_Parse.j3]
  refine Ev.bind hr ?_
  simp only [if_true]
  refine Ev.bind (Text_tells h) ?_
  simp only [if_pos e]
  exact Ev.now _
theorem Parse_mid {n d : Int} (h : Rt n d) {x0 x : ByteArray} (e : (TB n d).toList = x0.toList) (hx : x.toList = Lib.bytesOf (TR d)) : Ev (fun k => rat_Parse.j2 k x0 x n 1) (n, d, 0) := by
  have b1 := h.d1
  have b2 := h.d2
  refine Ev.step (f := fun k => rat_Parse.j2 (k + 1) x0 x n 1) (fun _ => rfl) ?_
  simp only [rat_Parse.j2]
  by_cases hd : d > 1
  · have hT : TR d = 47 :: dI d.toNat := by unfold TR; rw [if_pos hd]
    have hx2 : x.toList = 47 :: Lib.bytesOf (dI d.toNat) := by rw [hx, hT]; rfl
    obtain ⟨_, hsz⟩ := tl_head hx2
    simp only [if_neg (show ¬ x.toList = ([] : List UInt8) by rw [hx2]; simp), if_pos (show 1 ≤ (x.size : Int) by omega)]
    obtain ⟨x', _, hn⟩ := number_dI d.toNat (by omega) [] (Or.inl rfl) (x.extract 1 x.size) (by rw [tl_rest, hx2, List.append_nil]; rfl)
    rw [Int.toNat_of_nonneg (by omega)] at hn
    exact Ev.bind hn (Parse_end h e)
  · have hT : TR d = [] := by unfold TR; rw [if_neg hd]
    have hx2 : x.toList = ([] : List UInt8) := by rw [hx, hT]; rfl
    have hd1 : d = 1 := by omega
    subst hd1
    simp only [if_pos hx2]
    exact Parse_end h e
theorem Parse_tells {n d : Int} (h : Rt n d) : Ev (fun k => rat_Parse.f k (TB n d)) (n, d, 0) := by
  have b1 := h.n1
  have b2 := h.n2
  have htl := TB_tl n d
  unfold rat_Parse.f
  by_cases h0 : n < 0
  · rw [if_pos h0] at htl
    obtain ⟨g1, g2⟩ := tl_head htl
    have hb : (bt (TB n d) 0 == 45) = true := by rw [g1]; decide
    simp only [if_neg (show ¬ (TB n d).toList = ([] : List UInt8) by rw [htl]; simp), if_pos (show 0 < ((TB n d).size : Int) by omega), hb]
    refine Ev.step (f := fun k => rat_Parse.j1 k (TB n d) ((TB n d).extract 1 (TB n d).size) true) (fun k => ?_) ?_
    · simp only [rat_Parse.j0]
      rw [if_pos trivial, if_pos (by omega)]
    · obtain ⟨x', hx', hn⟩ := number_dI (-n).toNat (by omega) (TR d) (TR_is d) ((TB n d).extract 1 (TB n d).size) (by rw [tl_rest, htl]; rfl)
      rw [Int.toNat_of_nonneg (by omega)] at hn
      refine Ev.step (f := fun k => rat_Parse.j1 (k + 1) (TB n d) ((TB n d).extract 1 (TB n d).size) true) (fun _ => rfl) ?_
      simp only [rat_Parse.j1]
      refine Ev.bind hn ?_
      simp only [if_true, show wrap64 (- -n) = n by unfold wrap64; omega]
      exact Parse_mid h rfl hx'
  · rw [if_neg h0] at htl
    have hl := dI_len n.toNat
    obtain ⟨c, l, hcl⟩ : ∃ c l, dI n.toNat = c :: l := by
      cases hq : dI n.toNat with
      | nil => rw [hq] at hl; simp at hl
      | cons c l => exact ⟨c, l, rfl⟩
    have hc := dI_dg n.toNat c (by rw [hcl]; simp)
    have htl2 : (TB n d).toList = UInt8.ofNat c.toNat :: Lib.bytesOf (l ++ TR d) := by rw [htl, hcl]; rfl
    obtain ⟨g1, g2⟩ := tl_head htl2
    have e : ((UInt8.ofNat c.toNat).toNat : Int) = c := by rw [UInt8.toNat_ofNat']; omega
    rw [e] at g1
    have hb : (bt (TB n d) 0 == 45) = false := by rw [g1, beq_eq_false_iff_ne]; omega
    simp only [if_neg (show ¬ (TB n d).toList = ([] : List UInt8) by rw [htl2]; simp), if_pos (show 0 < ((TB n d).size : Int) by omega), hb]
    refine Ev.step (f := fun k => rat_Parse.j1 k (TB n d) (TB n d) false) (fun k => ?_) ?_
    · simp only [rat_Parse.j0]
      rw [if_neg (by decide)]
    · obtain ⟨x', hx', hn⟩ := number_dI n.toNat (by omega) (TR d) (TR_is d) (TB n d) htl
      rw [Int.toNat_of_nonneg (by omega)] at hn
      refine Ev.step (f := fun k => rat_Parse.j1 (k + 1) (TB n d) (TB n d) false) (fun _ => rfl) ?_
      simp only [rat_Parse.j1]
      refine Ev.bind hn ?_
      simp only [Bool.false_eq_true, if_false]
      exact Parse_mid h rfl hx'
/-! ### any text -/
def Big (a : Int) : Prop := 0 ≤ a ∧ a ≤ 21474836479
theorem number_any : ∀ (N : Nat) (x : ByteArray) (a : Int), x.size = N → Big a → ∃ v x', Ev (fun k => rat_number.l0 k x a) (v, x') ∧ Big v := by
  intro N
  induction N with
  | zero =>
    intro x a hN ha
    have hx : x.toList = [] := List.length_eq_zero_iff.1 (by rw [← tl_size]; exact hN)
    exact ⟨a, x, number_end [] (Or.inl hx), ha⟩
  | succ N ih =>
    intro x a hN ha
    have hne : ¬ x.toList = ([] : List UInt8) := fun h => by have := tl_size x; rw [h, List.length_nil] at this; omega
    have hb := bt_range x 0
    have hst : Ev (fun _ : Nat => some (a, x)) (a, x) := Ev.now _
    by_cases c1 : bt x 0 ≥ 48
    · by_cases c2 : bt x 0 ≤ 57
      · by_cases c3 : a ≤ 2147483647
        · have h1 : (x.extract 1 x.size).size = N := by rw [tl_size, tl_rest, List.length_drop, ← tl_size]; omega
          have e2 : wrap64 (wrap64 (10 * a) + ((bt x 0 - 48) % 256)) = 10 * a + (bt x 0 - 48) := by
            have := ha.1
            unfold wrap64
            omega
          obtain ⟨v, x', hv, hw⟩ := ih (x.extract 1 x.size) (10 * a + (bt x 0 - 48)) h1 ⟨by have := ha.1; omega, by omega⟩
          refine ⟨v, x', Ev.step (fun k => ?_) hv, hw⟩
          simp only [rat_number.l0]
          rw [if_neg hne, if_pos (by omega), if_pos c1, if_pos c2, if_pos c3, if_pos (by omega), e2]
        · refine ⟨a, x, Ev.step (fun k => ?_) hst, ha⟩
          simp only [rat_number.l0]
          rw [if_neg hne, if_pos (by omega), if_pos c1, if_pos c2, if_neg c3]
      · refine ⟨a, x, Ev.step (fun k => ?_) hst, ha⟩
        simp only [rat_number.l0]
        rw [if_neg hne, if_pos (by omega), if_pos c1, if_neg c2]
    · refine ⟨a, x, Ev.step (fun k => ?_) hst, ha⟩
      simp only [rat_number.l0]
      rw [if_neg hne, if_pos (by omega), if_neg c1]
theorem number_some (x : ByteArray) : ∃ v x', Ev (fun k => rat_number.f k x) (v, x') ∧ Big v := number_any x.size x 0 rfl ⟨by decide, by decide⟩
/-- What Parse tells of any text: a number that is right and written so, or a refusal. -/
def Fit (s : ByteArray) (r : Int × Int × Int) : Prop := r.2.2 = 0 → Rt r.1 r.2.1 ∧ (TB r.1 r.2.1).toList = s.toList
theorem end_any (x0 : ByteArray) {n d : Int} (hn : I64 n) (hd : I64 d) : ∃ r, Ev (fun k => rat_Parse.j3 k x0 n d) r ∧ Fit x0 r := by
  have hr := right_tells hn hd
  by_cases hq : rightQ n d = true
  · have h := Rt.of_right hq
    by_cases e : (TB n d).toList = x0.toList
    · exact ⟨_, Parse_end h e, fun _ => ⟨h, e⟩⟩
    · rw [hq] at hr
      refine ⟨(0, 0, 12), ?_, fun h => absurd h (by decide)⟩
      refine Ev.step (f := fun k => rat_Parse.j3 (k + 1) x0 n d) (fun _ => rfl) ?_
      simp only [rat_Parse.j3]
      refine Ev.bind hr ?_
      simp only [if_true]
      refine Ev.bind (Text_tells h) ?_
      simp only [if_neg e]
      exact Ev.now _
  · rw [Bool.not_eq_true] at hq
    rw [hq] at hr
    refine ⟨(0, 0, 12), ?_, fun h => absurd h (by decide)⟩
    refine Ev.step (f := fun k => rat_Parse.j3 (k + 1) x0 n d) (fun _ => rfl) ?_
    simp only [rat_Parse.j3]
    refine Ev.bind hr ?_
    simp only [Bool.false_eq_true, if_false]
    exact Ev.now _
theorem mid_any (x0 x : ByteArray) {n : Int} (hn : I64 n) : ∃ r, Ev (fun k => rat_Parse.j2 k x0 x n 1) r ∧ Fit x0 r := by
  by_cases hx : x.toList = ([] : List UInt8)
  · obtain ⟨r, h, hf⟩ := end_any x0 hn (show I64 1 from ⟨by decide, by decide⟩)
    refine ⟨r, Ev.step (fun k => ?_) h, hf⟩
    simp only [rat_Parse.j2]
    rw [if_pos hx]
  · obtain ⟨v, x', hv, hb⟩ := number_some (x.extract 1 x.size)
    obtain ⟨r, h, hf⟩ := end_any x0 hn (show I64 v from ⟨by have := hb.1; omega, by have := hb.2; omega⟩)
    have hsz : 1 ≤ (x.size : Int) := by
      have := tl_size x
      have h0 : x.toList.length ≠ 0 := fun h => hx (List.length_eq_zero_iff.1 h)
      omega
    refine ⟨r, ?_, hf⟩
    refine Ev.step (f := fun k => rat_Parse.j2 (k + 1) x0 x n 1) (fun _ => rfl) ?_
    simp only [rat_Parse.j2, if_neg hx, if_pos hsz]
    exact Ev.bind hv h
theorem first_any (x0 x : ByteArray) (b : Bool) : ∃ r, Ev (fun k => rat_Parse.j1 k x0 x b) r ∧ Fit x0 r := by
  obtain ⟨v, x', hv, hb⟩ := number_some x
  have g1 := hb.1
  have g2 := hb.2
  cases b with
  | true =>
    obtain ⟨r, h, hf⟩ := mid_any x0 x' (show I64 (-v) from ⟨by omega, by omega⟩)
    refine ⟨r, ?_, hf⟩
    refine Ev.step (f := fun k => rat_Parse.j1 (k + 1) x0 x true) (fun _ => rfl) ?_
    simp only [rat_Parse.j1]
    refine Ev.bind hv ?_
    simp only [if_true, show wrap64 (-v) = -v by unfold wrap64; omega]
    exact h
  | false =>
    obtain ⟨r, h, hf⟩ := mid_any x0 x' (show I64 v from ⟨by omega, by omega⟩)
    refine ⟨r, ?_, hf⟩
    refine Ev.step (f := fun k => rat_Parse.j1 (k + 1) x0 x false) (fun _ => rfl) ?_
    simp only [rat_Parse.j1]
    refine Ev.bind hv ?_
    simp only [Bool.false_eq_true, if_false]
    exact h
theorem Parse_any (s : ByteArray) : ∃ r, Ev (fun k => rat_Parse.f k s) r ∧ Fit s r := by
  have hj : ∀ b : Bool, (b = true → 1 ≤ (s.size : Int)) → ∃ r, Ev (fun k => rat_Parse.j0 k s s b) r ∧ Fit s r := by
    intro b hb
    cases b with
    | true =>
      obtain ⟨r, h, hf⟩ := first_any s (s.extract 1 s.size) true
      refine ⟨r, Ev.step (fun k => ?_) h, hf⟩
      simp only [rat_Parse.j0]
      rw [if_pos trivial, if_pos (hb rfl)]
    | false =>
      obtain ⟨r, h, hf⟩ := first_any s s false
      refine ⟨r, Ev.step (fun k => ?_) h, hf⟩
      simp only [rat_Parse.j0]
      rw [if_neg (by decide)]
  unfold rat_Parse.f
  by_cases h : s.toList = ([] : List UInt8)
  · simp only [if_pos h]
    exact hj false (fun h => by cases h)
  · have hsz : 0 < (s.size : Int) := by
      have := tl_size s
      have h0 : s.toList.length ≠ 0 := fun h1 => h (List.length_eq_zero_iff.1 h1)
      omega
    simp only [if_neg h, if_pos hsz]
    exact hj _ (fun _ => by omega)
/-! ### the document's rationals: New, Right, Op, Cmp tell the same -/
theorem rparts {n : Int} (h : I64 n) : marigraphref1_parts.f n = some (decide (n < 0), (n.natAbs : Int)) := by
  unfold I64 at h
  unfold marigraphref1_parts.f
  by_cases hn : n < 0
  · rw [if_pos hn, decide_eq_true hn, wrapU_eq, wrapU_eq]
    congr 2
    omega
  · rw [if_neg hn, decide_eq_false hn, wrapU_eq]
    congr 2
    omega
def finQ (s t : Bool) (A B : Nat) : Int × Int × Int := if A > 2147483647 ∨ B > 2147483647 then (0, 0, 23) else if (s != t) = true then (-(A : Int), (B : Int), 0) else ((A : Int), (B : Int), 0)
theorem rnew_j1 (s t : Bool) (A B k : Nat) (hA : ¬ A > 2147483647) : marigraphref1_New.j1 (k + 1) s (A : Int) t (B : Int) (decide ((B : Int) > 2147483647)) = some (finQ s t A B) := by
  unfold finQ
  by_cases hB : (B : Int) > 2147483647
  · rw [decide_eq_true hB, if_pos (Or.inr (by omega))]
    simp only [marigraphref1_New.j1, if_true]
  · rw [decide_eq_false hB, if_neg (by omega)]
    simp only [marigraphref1_New.j1, Bool.false_eq_true, if_false]
    have w1 : wrap64 (A : Int) = (A : Int) := wrap64_id (by unfold I64; omega)
    have w2 : wrap64 (B : Int) = (B : Int) := wrap64_id (by unfold I64; omega)
    have w3 : wrap64 (-(A : Int)) = -(A : Int) := wrap64_id (by unfold I64; omega)
    rw [w1, w2, w3]
    by_cases hs : (s != t) = true
    · rw [if_pos hs, if_pos hs]
    · rw [if_neg hs, if_neg hs]
theorem rnew_loop (X Y : Nat) (s t : Bool) (hX : X < 18446744073709551616) (hY : Y < 18446744073709551616) (b : Nat) : ∀ (a k : Nat), 0 < Nat.gcd a b → b + 1 < k →
    marigraphref1_New.l0 k s (X : Int) t (Y : Int) (a : Int) (b : Int) = some (finQ s t (X / Nat.gcd a b) (Y / Nat.gcd a b)) := by
  induction b using Nat.strongRecOn with
  | _ b ih =>
    intro a k hg hk
    obtain ⟨k, rfl⟩ : ∃ m, k = m + 1 := ⟨k - 1, by omega⟩
    simp only [marigraphref1_New.l0]
    by_cases hb : b = 0
    · subst hb
      rw [Nat.gcd_zero_right] at hg ⊢
      rw [if_pos (by omega), if_neg (by omega)]
      have t1 : IntKind.u64.wrap (Int.tdiv (X : Int) (a : Int)) = ((X / a : Nat) : Int) := by
        rw [← Int.ofNat_tdiv]
        have h9 := Nat.div_le_self X a
        generalize X / a = Z at h9
        exact wrapU (by omega) (by omega)
      have t2 : IntKind.u64.wrap (Int.tdiv (Y : Int) (a : Int)) = ((Y / a : Nat) : Int) := by
        rw [← Int.ofNat_tdiv]
        have h9 := Nat.div_le_self Y a
        generalize Y / a = Z at h9
        exact wrapU (by omega) (by omega)
      rw [t1, t2]
      generalize X / a = A
      generalize Y / a = B
      obtain ⟨k, rfl⟩ : ∃ m, k = m + 1 := ⟨k - 1, by omega⟩
      by_cases hA : A > 2147483647
      · rw [if_pos (by omega)]
        unfold finQ
        rw [if_pos (Or.inl hA)]
        simp only [marigraphref1_New.j1, if_true]
      · rw [if_neg (by omega)]
        exact rnew_j1 s t A B k hA
    · rw [if_neg (by omega)]
      have e : Int.tmod (a : Int) (b : Int) = ((a % b : Nat) : Int) := by rw [Int.ofNat_tmod]
      have hl : a % b < b := Nat.mod_lt _ (by omega)
      have hgg : Nat.gcd b (a % b) = Nat.gcd a b := by rw [Nat.gcd_comm a b, Nat.gcd_rec b a, Nat.gcd_comm]
      rw [e, ih (a % b) hl b k (by rw [hgg]; exact hg) (by omega), hgg]
theorem fin_newQ {n d : Int} (h0 : d ≠ 0) : finQ (decide (n < 0)) (decide (d < 0)) (n.natAbs / Nat.gcd n.natAbs d.natAbs) (d.natAbs / Nat.gcd n.natAbs d.natAbs) = newQ n d := by
  obtain ⟨e1, e2, e3⟩ := new_parts n d h0
  unfold finQ newQ Pure_ofQ
  rw [if_neg h0, e1, e2]
  generalize n.natAbs / Nat.gcd n.natAbs d.natAbs = A at *
  generalize d.natAbs / Nat.gcd n.natAbs d.natAbs = B at *
  by_cases hc : A > 2147483647 ∨ B > 2147483647
  · rw [if_pos hc, if_pos hc]
  · rw [if_neg hc, if_neg hc]
    by_cases hs : ((decide (n < 0)) != (decide (d < 0))) = true
    · rw [if_pos hs] at e3 ⊢
      rw [e3]
    · rw [if_neg hs] at e3 ⊢
      rw [e3]
theorem rnew_tells {n d : Int} (hn : I64 n) (hd : I64 d) : Ev (fun k => marigraphref1_New.f k n d) (newQ n d) := by
  refine ⟨d.natAbs + 3, fun k hk => ?_⟩
  show marigraphref1_New.f k n d = _
  unfold marigraphref1_New.f
  by_cases h0 : d = 0
  · rw [if_pos h0]; unfold newQ; rw [if_pos h0]
  rw [if_neg h0, rparts hn, rparts hd]
  simp only [Option.bind_some]
  have hpos : 0 < Nat.gcd n.natAbs d.natAbs := Nat.gcd_pos_of_pos_right _ (by omega)
  have := hn; have := hd
  unfold I64 at *
  rw [rnew_loop n.natAbs d.natAbs _ _ (by omega) (by omega) d.natAbs n.natAbs k hpos (by omega), fin_newQ h0]
theorem rgcd_tells (b : Nat) : ∀ (a k : Nat), b < k → marigraphref1_gcd.l0 k (a : Int) (b : Int) = some ((Nat.gcd a b : Nat) : Int) := by
  induction b using Nat.strongRecOn with
  | _ b ih =>
    intro a k hk
    obtain ⟨k, rfl⟩ : ∃ m, k = m + 1 := ⟨k - 1, by omega⟩
    simp only [marigraphref1_gcd.l0]
    by_cases hb : b = 0
    · subst hb
      rw [if_pos (by omega), Nat.gcd_zero_right]
    · rw [if_neg (by omega)]
      have e : Int.tmod (a : Int) (b : Int) = ((a % b : Nat) : Int) := by rw [Int.ofNat_tmod]
      have hl : a % b < b := Nat.mod_lt _ (by omega)
      rw [e, ih (a % b) hl b k (by omega), Nat.gcd_comm a b, Nat.gcd_rec b a, Nat.gcd_comm]
theorem rightQ_gcd {n d : Int} (h1 : 1 ≤ d) (h2 : d ≤ 2147483647) (h3 : -2147483647 ≤ n) (h4 : n ≤ 2147483647) : rightQ n d = (((Nat.gcd n.natAbs d.natAbs : Nat) : Int) == 1) := by
  have h0 : d ≠ 0 := by omega
  obtain ⟨e1, e2, e3⟩ := new_parts n d h0
  have hpos : 0 < Nat.gcd n.natAbs d.natAbs := Nat.gcd_pos_of_pos_right _ (by omega)
  have hdv : Nat.gcd n.natAbs d.natAbs ∣ d.natAbs := Nat.gcd_dvd_right _ _
  rw [Bool.eq_iff_iff, beq_iff_eq]
  constructor
  · intro h
    have hr := Rt.of_right h
    have hden := hr.den
    rw [e1] at hden
    generalize Nat.gcd n.natAbs d.natAbs = g at *
    obtain ⟨c, hc⟩ := hdv
    rw [hc, Nat.mul_div_cancel_left _ hpos] at hden
    have hcd : c = d.natAbs := by omega
    rw [hcd] at hc
    have : g = 1 := Nat.eq_of_mul_eq_mul_right (show 0 < d.natAbs by omega) (by rw [Nat.one_mul]; exact hc.symm)
    omega
  · intro h
    have hg : Nat.gcd n.natAbs d.natAbs = 1 := by omega
    rw [hg, Nat.div_one] at e1 e3
    refine Rt.right ⟨h3, h4, h1, h2, ?_, by omega⟩
    by_cases hn : n < 0
    · rw [decide_eq_true hn, decide_eq_false (show ¬ d < 0 by omega)] at e3
      simp only [Bool.bne_false, if_true] at e3
      omega
    · rw [decide_eq_false hn, decide_eq_false (show ¬ d < 0 by omega)] at e3
      simp only [bne_self_eq_false, Bool.false_eq_true, if_false] at e3
      omega
theorem rright_tells {n d : Int} (hn : I64 n) (hd : I64 d) : Ev (fun k => marigraphref1_Right.f k n d) (rightQ n d) := by
  have jt : ∀ x y, Ev (fun k => marigraphref1_Right.j0 k true x y) false := fun x y => ⟨1, fun k hk => by
    obtain ⟨k, rfl⟩ : ∃ m, k = m + 1 := ⟨k - 1, by omega⟩
    simp only [marigraphref1_Right.j0, if_true]⟩
  have no : (¬ (1 ≤ d ∧ d ≤ 2147483647 ∧ -2147483647 ≤ n ∧ n ≤ 2147483647)) → rightQ n d = false := by
    intro h
    cases hr : rightQ n d with
    | false => rfl
    | true =>
      have := Rt.of_right hr
      exact absurd ⟨this.d1, this.d2, this.n1, this.n2⟩ h
  have un : ∀ k, marigraphref1_Right.f k n d = if d < 1 then (marigraphref1_Right.j0 k true n d) else (if d > 2147483647 then (marigraphref1_Right.j0 k true n d) else (if n < (-2147483647) then (marigraphref1_Right.j0 k true n d) else (marigraphref1_Right.j0 k (decide (n > 2147483647)) n d))) := fun k => rfl
  refine evEq un ?_
  by_cases h1 : d < 1
  · simp only [if_pos h1]
    rw [no (by omega)]
    exact jt _ _
  simp only [if_neg h1]
  by_cases h2 : d > 2147483647
  · simp only [if_pos h2]
    rw [no (by omega)]
    exact jt _ _
  simp only [if_neg h2]
  by_cases h3 : n < -2147483647
  · simp only [if_pos h3]
    rw [no (by omega)]
    exact jt _ _
  simp only [if_neg h3]
  by_cases h4 : n > 2147483647
  · rw [decide_eq_true h4, no (by omega)]
    exact jt _ _
  rw [decide_eq_false h4, rightQ_gcd (by omega) (by omega) (by omega) (by omega)]
  refine ⟨d.natAbs + 2, fun k hk => ?_⟩
  obtain ⟨k, rfl⟩ : ∃ m, k = m + 1 := ⟨k - 1, by omega⟩
  simp only [marigraphref1_Right.j0, Bool.false_eq_true, if_false]
  have ha : marigraphref1_abs.f n = some (n.natAbs : Int) := by
    unfold marigraphref1_abs.f
    by_cases hn0 : n < 0
    · rw [if_pos hn0, wrap64_id ⟨by omega, by omega⟩]
      congr 1
      omega
    · rw [if_neg hn0]
      congr 1
      omega
  rw [ha]
  simp only [Option.bind_some]
  unfold marigraphref1_gcd.f
  have := rgcd_tells d.natAbs n.natAbs k (by omega)
  rw [show ((d.natAbs : Nat) : Int) = d by omega] at this
  rw [this]
  simp only [Option.bind_some]
/-- What an operation tells of right numbers. -/
theorem rnew_end {f : Nat → Option (Int × Int × Int)} {n d : Int} {q : Int × Int × Int} (hn : I64 n) (hd : I64 d) (hq : newQ n d = q) (hf : ∀ k, f (k + 1) = (marigraphref1_New.f k n d).bind fun t => some (t.1, t.2.1, t.2.2)) : Ev f q := by
  refine Ev.step hf ?_
  have h := rnew_tells hn hd
  rw [hq] at h
  exact Ev.bind h (Ev.now _)
theorem rop_start {c n d m e : Int} {q : Int × Int × Int} (h : Rt n d) (k : Rt m e) (hj : Ev (fun K => marigraphref1_Op.j0 K c (if c = 47 then (m == 0) else false) n d m e) q) : Ev (fun K => marigraphref1_Op.f K c n d m e) q := by
  have r1 := rright_tells h.i64n h.i64d
  have r2 := rright_tells k.i64n k.i64d
  rw [h.right] at r1
  rw [k.right] at r2
  refine Ev.bind r1 ?_
  simp only [if_true]
  refine Ev.bind r2 ?_
  simp only [if_true]
  by_cases hc : c = 47
  · simp only [if_pos hc] at hj ⊢
    exact hj
  · simp only [if_neg hc] at hj ⊢
    exact hj
theorem rAdd_tells {n d m e : Int} (h : Rt n d) (k : Rt m e) : Ev (fun K => marigraphref1_Op.f K 43 n d m e) (Pure_ofQ (VQ n d + VQ m e)) := by
  have h1 := h.n1; have h2 := h.n2; have h3 := h.d1; have h4 := h.d2
  have k1 := k.n1; have k2 := k.n2; have k3 := k.d1; have k4 := k.d2
  have hd0 : d ≠ 0 := by omega
  have he0 : e ≠ 0 := by omega
  have p1 := mulM (x := n) (y := e) ⟨by omega, by omega⟩ ⟨by omega, by omega⟩
  have p2 := mulM (x := m) (y := d) ⟨by omega, by omega⟩ ⟨by omega, by omega⟩
  have p3 := mulM (x := d) (y := e) ⟨by omega, by omega⟩ ⟨by omega, by omega⟩
  have hde : d * e ≠ 0 := Int.mul_ne_zero hd0 he0
  refine rop_start h k (rnew_end (n := n * e + m * d) (d := d * e) ⟨by omega, by omega⟩ ⟨by omega, by omega⟩ ?_ fun K => ?_)
  · unfold newQ
    rw [if_neg hde]
    exact congrArg Pure_ofQ (Rat.divInt_add_divInt _ _ hd0 he0).symm
  · simp only [marigraphref1_Op.j0, if_neg (show ¬ (43 : Int) = 47 by decide), Bool.false_eq_true, if_false, if_true]
    rw [wrap64_id (x := d * e) ⟨by omega, by omega⟩]
    rw [wrap64_id (x := n * e) ⟨by omega, by omega⟩, wrap64_id (x := m * d) ⟨by omega, by omega⟩, wrap64_id (x := n * e + m * d) ⟨by omega, by omega⟩]
theorem rSub_tells {n d m e : Int} (h : Rt n d) (k : Rt m e) : Ev (fun K => marigraphref1_Op.f K 45 n d m e) (Pure_ofQ (VQ n d - VQ m e)) := by
  have h1 := h.n1; have h2 := h.n2; have h3 := h.d1; have h4 := h.d2
  have k1 := k.n1; have k2 := k.n2; have k3 := k.d1; have k4 := k.d2
  have hd0 : d ≠ 0 := by omega
  have he0 : e ≠ 0 := by omega
  have p1 := mulM (x := n) (y := e) ⟨by omega, by omega⟩ ⟨by omega, by omega⟩
  have p2 := mulM (x := m) (y := d) ⟨by omega, by omega⟩ ⟨by omega, by omega⟩
  have p3 := mulM (x := d) (y := e) ⟨by omega, by omega⟩ ⟨by omega, by omega⟩
  have hde : d * e ≠ 0 := Int.mul_ne_zero hd0 he0
  refine rop_start h k (rnew_end (n := n * e - m * d) (d := d * e) ⟨by omega, by omega⟩ ⟨by omega, by omega⟩ ?_ fun K => ?_)
  · unfold newQ
    rw [if_neg hde]
    exact congrArg Pure_ofQ (Rat.divInt_sub_divInt _ _ hd0 he0).symm
  · simp only [marigraphref1_Op.j0, if_neg (show ¬ (45 : Int) = 47 by decide), if_neg (show ¬ (45 : Int) = 43 by decide), Bool.false_eq_true, if_false, if_true]
    rw [wrap64_id (x := d * e) ⟨by omega, by omega⟩]
    rw [wrap64_id (x := n * e) ⟨by omega, by omega⟩, wrap64_id (x := m * d) ⟨by omega, by omega⟩, wrap64_id (x := n * e - m * d) ⟨by omega, by omega⟩]
theorem rMul_tells {n d m e : Int} (h : Rt n d) (k : Rt m e) : Ev (fun K => marigraphref1_Op.f K 42 n d m e) (Pure_ofQ (VQ n d * VQ m e)) := by
  have h1 := h.n1; have h2 := h.n2; have h3 := h.d1; have h4 := h.d2
  have k1 := k.n1; have k2 := k.n2; have k3 := k.d1; have k4 := k.d2
  have hd0 : d ≠ 0 := by omega
  have he0 : e ≠ 0 := by omega
  have p1 := mulM (x := n) (y := m) ⟨by omega, by omega⟩ ⟨by omega, by omega⟩
  have p3 := mulM (x := d) (y := e) ⟨by omega, by omega⟩ ⟨by omega, by omega⟩
  have hde : d * e ≠ 0 := Int.mul_ne_zero hd0 he0
  refine rop_start h k (rnew_end (n := n * m) (d := d * e) ⟨by omega, by omega⟩ ⟨by omega, by omega⟩ ?_ fun K => ?_)
  · unfold newQ
    rw [if_neg hde]
    exact congrArg Pure_ofQ (Rat.divInt_mul_divInt _ _).symm
  · simp only [marigraphref1_Op.j0, if_neg (show ¬ (42 : Int) = 47 by decide), if_neg (show ¬ (42 : Int) = 43 by decide), if_neg (show ¬ (42 : Int) = 45 by decide), Bool.false_eq_true, if_false, if_true]
    rw [wrap64_id (x := d * e) ⟨by omega, by omega⟩, wrap64_id (x := n * m) ⟨by omega, by omega⟩]
theorem rDiv_tells {n d m e : Int} (h : Rt n d) (k : Rt m e) : Ev (fun K => marigraphref1_Op.f K 47 n d m e) (newQ (n * e) (d * m)) := by
  have h1 := h.n1; have h2 := h.n2; have h3 := h.d1; have h4 := h.d2
  have k1 := k.n1; have k2 := k.n2; have k3 := k.d1; have k4 := k.d2
  have hd0 : d ≠ 0 := by omega
  have p1 := mulM (x := n) (y := e) ⟨by omega, by omega⟩ ⟨by omega, by omega⟩
  have p2 := mulM (x := d) (y := m) ⟨by omega, by omega⟩ ⟨by omega, by omega⟩
  refine rop_start h k ?_
  simp only [if_true]
  by_cases hm : m = 0
  · subst hm
    refine ⟨1, fun K hK => ?_⟩
    obtain ⟨K, rfl⟩ : ∃ z, K = z + 1 := ⟨K - 1, by omega⟩
    simp only [marigraphref1_Op.j0, beq_self_eq_true, if_true]
    unfold newQ
    rw [if_pos (by simp)]
  · rw [show (m == 0) = false by simpa using hm]
    refine rnew_end (n := n * e) (d := d * m) ⟨by omega, by omega⟩ ⟨by omega, by omega⟩ rfl fun K => ?_
    simp only [marigraphref1_Op.j0, if_neg (show ¬ (47 : Int) = 43 by decide), if_neg (show ¬ (47 : Int) = 45 by decide), if_neg (show ¬ (47 : Int) = 42 by decide), Bool.false_eq_true, if_false]
    rw [wrap64_id (x := n * e) ⟨by omega, by omega⟩, wrap64_id (x := d * m) ⟨by omega, by omega⟩]
theorem rcmp_tells {n d m e : Int} (h : Rt n d) (k : Rt m e) : Ev (fun K => marigraphref1_Cmp.f K n d m e) (cmpQ (VQ n d) (VQ m e)) := by
  have r1 := rright_tells h.i64n h.i64d
  have r2 := rright_tells k.i64n k.i64d
  rw [h.right] at r1
  rw [k.right] at r2
  refine Ev.bind r1 (Ev.bind r2 ?_)
  simp only [if_true]
  refine ⟨1, fun K hK => ?_⟩
  obtain ⟨K, rfl⟩ : ∃ m, K = m + 1 := ⟨K - 1, by omega⟩
  simp only [marigraphref1_Cmp.j0, Bool.false_eq_true, if_false, if_true]
  have h1 := h.n1; have h2 := h.n2; have h3 := h.d1; have h4 := h.d2
  have k1 := k.n1; have k2 := k.n2; have k3 := k.d1; have k4 := k.d2
  rw [prodw (x := n) (y := e) ⟨by omega, by omega⟩ ⟨by omega, by omega⟩, prodw (x := m) (y := d) ⟨by omega, by omega⟩ ⟨by omega, by omega⟩]
  unfold cmpQ
  by_cases hlt : n * e < m * d
  · rw [if_pos hlt, if_pos ((ratlt h k).1 hlt)]
  · rw [if_neg hlt, if_neg (fun hh => hlt ((ratlt h k).2 hh))]
    by_cases hgt : n * e > m * d
    · rw [if_pos hgt]
      have := (ratlt k h).1 hgt
      rw [if_neg (fun he => by rw [he] at this; exact absurd this (Rat.lt_irrefl))]
    · rw [if_neg hgt]
      have h5 : ¬ VQ m e < VQ n d := fun hh => hgt ((ratlt k h).2 hh)
      have h6 : ¬ VQ n d < VQ m e := fun hh => hlt ((ratlt h k).2 hh)
      rw [if_pos (Rat.le_antisymm (Rat.not_lt.1 h5) (Rat.not_lt.1 h6))]
/-! ### the document's texts of numbers -/
theorem ba_ext {s t : ByteArray} (h : s.toList = t.toList) : s = t := by
  rw [Lib.toList_data, Lib.toList_data] at h
  obtain ⟨⟨a⟩⟩ := s
  obtain ⟨⟨b⟩⟩ := t
  have h2 : a = b := h
  rw [h2]
theorem evDown {α : Type} {g : Nat → Option α} {r : α} (h : Ev (fun k => g (k + 1)) r) : Ev g r := let ⟨K, hK⟩ := h; ⟨K + 1, fun k hk => by
  obtain ⟨m, rfl⟩ : ∃ m, k = m + 1 := ⟨k - 1, by omega⟩
  exact hK m (by omega)⟩
theorem enc_digit {c : Int} (h1 : 48 ≤ c) (h2 : c ≤ 57) : (Utf8.encode c).toList = Lib.bytesOf [c] := by
  have : c = 48 ∨ c = 49 ∨ c = 50 ∨ c = 51 ∨ c = 52 ∨ c = 53 ∨ c = 54 ∨ c = 55 ∨ c = 56 ∨ c = 57 := by omega
  rcases this with h | h | h | h | h | h | h | h | h | h <;> (subst h; rw [Lib.toList_data]; rfl)
def sg (b : Bool) (l : List UInt8) : List UInt8 := if b = true then 45 :: l else l
theorem whole_end (b : Bool) (s : ByteArray) (hs : ¬ s.toList = ([] : List UInt8)) (hz : 1 + s.size ≤ 9223372036854775807) : ∃ t : ByteArray, Ev (fun k => marigraphref1_Whole.l0 k b 0 s) t ∧ t.toList = sg b s.toList := by
  cases b with
  | true =>
    refine ⟨(⟨#[45]⟩ : ByteArray) ++ s, evDown ?_, ?_⟩
    · simp only [marigraphref1_Whole.l0, if_neg (show ¬ (0 : Int) > 0 by decide), if_neg hs, if_true, if_pos hz]
      exact Ev.now _
    · rw [tl_append, one_tl]; rfl
  | false =>
    refine ⟨s, evDown ?_, rfl⟩
    simp only [marigraphref1_Whole.l0, if_neg (show ¬ (0 : Int) > 0 by decide), if_neg hs, Bool.false_eq_true, if_false]
    exact Ev.now _
theorem digit_now (u : Nat) : wrap32 (IntKind.u64.wrap (48 + Int.tmod (u : Int) 10)) = 48 + ((u % 10 : Nat) : Int) := by
  rw [Int.tmod_eq_emod_of_nonneg (Int.natCast_nonneg u), wrapU_eq]
  unfold wrap32
  omega
theorem enc_size {c : Int} (h1 : 48 ≤ c) (h2 : c ≤ 57) : (Utf8.encode c).size = 1 := by rw [tl_size, enc_digit h1 h2]; rfl
theorem whole_loop (b : Bool) : ∀ (u : Nat) (s : ByteArray), 0 < u → u < 18446744073709551616 → s.size + (dI u).length + 1 ≤ 9223372036854775807 → ∃ t : ByteArray, Ev (fun k => marigraphref1_Whole.l0 k b (u : Int) s) t ∧ t.toList = sg b (Lib.bytesOf (dI u) ++ s.toList) := by
  intro u
  induction u using Nat.strongRecOn with
  | _ u ih =>
    intro s hu hl hz
    have hd := digit_now u
    have ht : IntKind.u64.wrap (Int.tdiv (u : Int) 10) = ((u / 10 : Nat) : Int) := by
      rw [Int.tdiv_eq_ediv_of_nonneg (Int.natCast_nonneg u)]
      exact wrapU (by omega) (by omega)
    have e1 := enc_digit (c := 48 + ((u % 10 : Nat) : Int)) (by omega) (by omega)
    have e2 := enc_size (c := 48 + ((u % 10 : Nat) : Int)) (by omega) (by omega)
    have hlen := dI_len u
    have hs' : (Utf8.encode (48 + ((u % 10 : Nat) : Int)) ++ s).toList = Lib.bytesOf [48 + ((u % 10 : Nat) : Int)] ++ s.toList := by rw [tl_append, e1]
    have hsz : (Utf8.encode (48 + ((u % 10 : Nat) : Int)) ++ s).size = s.size + 1 := by rw [ByteArray.size_append, e2]; omega
    have fin : ∀ t : ByteArray, Ev (fun k => marigraphref1_Whole.l0 k b ((u / 10 : Nat) : Int) (Utf8.encode (48 + ((u % 10 : Nat) : Int)) ++ s)) t → Ev (fun k => marigraphref1_Whole.l0 k b (u : Int) s) t := by
      intro t h
      refine evDown ?_
      simp only [marigraphref1_Whole.l0, if_pos (show (u : Int) > 0 by omega), hd, ht, if_pos (show (Utf8.encode (48 + ((u % 10 : Nat) : Int))).size + s.size ≤ 9223372036854775807 by omega)]
      exact h
    have hz1 : 1 + (s.size + 1) ≤ 9223372036854775807 := by omega
    by_cases h10 : u < 10
    · rw [dI_small h10] at hz ⊢
      rw [show u / 10 = 0 by omega, show u % 10 = u by omega] at fin
      rw [show u % 10 = u by omega] at hs' hsz
      obtain ⟨t, h1, h2⟩ := whole_end b (Utf8.encode (48 + ((u : Nat) : Int)) ++ s) (by rw [hs']; simp [Lib.bytesOf]) (by rw [hsz]; exact hz1)
      exact ⟨t, fin t h1, by rw [h2, hs']⟩
    · rw [dI_big h10] at hz ⊢
      rw [List.length_append, List.length_singleton] at hz
      obtain ⟨t, h1, h2⟩ := ih (u / 10) (by omega) (Utf8.encode (48 + ((u % 10 : Nat) : Int)) ++ s) (by omega) (by omega) (by omega)
      exact ⟨t, fin t h1, by rw [h2, hs', bo_append, List.append_assoc]⟩
theorem dI_lenm : ∀ m u : Nat, u < 10 ^ (m + 1) → (dI u).length ≤ m + 1 := by
  intro m
  induction m with
  | zero => intro u hu; rw [dI_small (by simpa using hu)]; simp
  | succ m ih =>
    intro u hu
    by_cases h : u < 10
    · rw [dI_small h]; simp
    · rw [dI_big h, List.length_append, List.length_singleton]
      have := ih (u / 10) (by rw [Nat.pow_succ] at hu; omega)
      omega
theorem dI_len20 {u : Nat} (h : u < 18446744073709551616) : (dI u).length ≤ 20 := dI_lenm 19 u (by have : (10 : Nat) ^ (19 + 1) = 100000000000000000000 := by decide
                                                                                                   omega)
theorem whole_tells {n : Int} (h : I64 n) : ∃ t : ByteArray, Ev (fun k => marigraphref1_Whole.f k n) t ∧ t.toList = sg (decide (n < 0)) (Lib.bytesOf (dI n.natAbs)) := by
  have hp := rparts h
  have hi := h
  unfold I64 at hi
  have un : ∀ k, marigraphref1_Whole.f k n = marigraphref1_Whole.l0 k (decide (n < 0)) (n.natAbs : Int) (⟨#[]⟩ : ByteArray) := fun k => by
    unfold marigraphref1_Whole.f
    rw [hp]
    rfl
  have hz0 : (⟨#[]⟩ : ByteArray).size = 0 := rfl
  have ht0 : (⟨#[]⟩ : ByteArray).toList = [] := by rw [Lib.toList_data]
  by_cases h0 : n.natAbs = 0
  · have hn0 : n = 0 := by omega
    subst hn0
    have e1 := enc_digit (c := 48) (by omega) (by omega)
    have hs' : (Utf8.encode 48 ++ (⟨#[]⟩ : ByteArray)).toList = Lib.bytesOf [48] := by rw [tl_append, e1, ht0, List.append_nil]
    obtain ⟨t, h1, h2⟩ := whole_end false (Utf8.encode 48 ++ (⟨#[]⟩ : ByteArray)) (by rw [hs']; simp [Lib.bytesOf]) (by rw [tl_size, hs']; decide)
    refine ⟨t, evEq un (evDown ?_), ?_⟩
    · have hd := digit_now 0
      have ht : IntKind.u64.wrap (Int.tdiv ((0 : Nat) : Int) 10) = 0 := by decide
      simp only [Int.natAbs_zero, marigraphref1_Whole.l0, if_neg (show ¬ ((0 : Nat) : Int) > 0 by decide), if_pos ht0, hd, ht]
      have e2 : (48 : Int) + ((0 % 10 : Nat) : Int) = 48 := by decide
      simp only [e2]
      have hsz : (Utf8.encode 48).size + (⟨#[]⟩ : ByteArray).size ≤ 9223372036854775807 := by rw [tl_size, e1, hz0]; decide
      simp only [if_pos hsz]
      exact h1
    · rw [h2, hs', dI_small (by decide)]; rfl
  · have hl := dI_len20 (u := n.natAbs) (by omega)
    obtain ⟨t, h1, h2⟩ := whole_loop (decide (n < 0)) n.natAbs (⟨#[]⟩ : ByteArray) (by omega) (by omega) (by omega)
    exact ⟨t, evEq un h1, by rw [h2, ht0, List.append_nil]⟩
theorem sg_len (b : Bool) (l : List UInt8) : (sg b l).length ≤ l.length + 1 := by unfold sg; split <;> simp
theorem rText_tells {n d : Int} (h : Rt n d) : ∃ t : ByteArray, Ev (fun k => marigraphref1_Text.f k n d) t ∧ t.toList = (TB n d).toList := by
  have hr := rright_tells h.i64n h.i64d
  rw [h.right] at hr
  have b1 := h.n1; have b2 := h.n2; have b3 := h.d1; have b4 := h.d2
  obtain ⟨t1, e1, l1⟩ := whole_tells h.i64n
  obtain ⟨t2, e2, l2⟩ := whole_tells h.i64d
  have z1 := dI_len20 (u := n.natAbs) (by omega)
  have z2 := dI_len20 (u := d.natAbs) (by omega)
  have s1 : t1.size ≤ 21 := by rw [tl_size, l1]; have := sg_len (decide (n < 0)) (Lib.bytesOf (dI n.natAbs)); rw [Lib.bytesOf_length] at this; omega
  have s2 : t2.size ≤ 21 := by rw [tl_size, l2]; have := sg_len (decide (d < 0)) (Lib.bytesOf (dI d.natAbs)); rw [Lib.bytesOf_length] at this; omega
  have hn : sg (decide (n < 0)) (Lib.bytesOf (dI n.natAbs)) ++ Lib.bytesOf (TR d) = (TB n d).toList := by
    rw [TB_tl]
    unfold sg
    by_cases h0 : n < 0
    · rw [decide_eq_true h0, if_pos rfl, if_pos h0, bo_append, show (-n).toNat = n.natAbs by omega]; rfl
    · rw [decide_eq_false h0, if_neg (by decide), if_neg h0, bo_append, show n.toNat = n.natAbs by omega]
  by_cases hd : d = 1
  · refine ⟨t1, Ev.bind hr ?_, ?_⟩
    · simp only [if_true, if_pos hd]
      exact Ev.bind e1 (Ev.now _)
    · rw [l1, ← hn]
      unfold TR
      rw [if_neg (by omega)]
      exact (List.append_nil _).symm
  · have hdd : d > 1 := by omega
    refine ⟨(t1 ++ (⟨#[47]⟩ : ByteArray)) ++ t2, Ev.bind hr ?_, ?_⟩
    · simp only [if_true, if_neg hd]
      refine Ev.bind e1 ?_
      simp only [if_pos (show t1.size + 1 ≤ 9223372036854775807 by omega)]
      refine Ev.bind e2 ?_
      have hz : (t1 ++ (⟨#[47]⟩ : ByteArray)).size + t2.size ≤ 9223372036854775807 := by rw [ByteArray.size_append, show (⟨#[47]⟩ : ByteArray).size = 1 from rfl]; omega
      simp only [if_pos hz]
      exact Ev.now _
    · rw [tl_append, tl_append, one_tl, l1, l2, ← hn, List.append_assoc]
      unfold TR
      rw [if_pos hdd]
      unfold sg
      rw [decide_eq_false (show ¬ d < 0 by omega), if_neg (show ¬ false = true by decide), show d.toNat = d.natAbs by omega]
      rfl
theorem rText_eq {n d : Int} (h : Rt n d) : Ev (fun k => marigraphref1_Text.f k n d) (TB n d) := by
  obtain ⟨t, h1, h2⟩ := rText_tells h
  rw [← ba_ext h2]
  exact h1
/-! ### the document's Number and Parse -/
theorem bt_get {s : ByteArray} {i : Nat} {c : UInt8} (h : s.toList[i]? = some c) : bt s (i : Int) = (c.toNat : Int) ∧ i < s.size := by
  have h0 : i < s.size := by
    have := (List.getElem?_eq_some_iff.1 h).1
    rw [← tl_size] at this
    exact this
  refine ⟨?_, h0⟩
  have e : s[i]'h0 = c := by
    rw [Lib.toList_data, Array.getElem?_toList, Array.getElem?_eq_getElem h0] at h
    exact Option.some.inj h
  rw [← bt_at s (i : Int) (by simpa using h0)]
  show ((s[i]'h0).toNat : Int) = _
  rw [e]
theorem tl_get (s : ByteArray) {i : Nat} (h : i < s.size) : ∃ c : UInt8, s.toList[i]? = some c := by
  rw [tl_size] at h
  exact ⟨_, List.getElem?_eq_getElem h⟩
theorem tl_take (s : ByteArray) (p : Nat) (hp : p ≤ s.size) : (s.extract 0 p).toList = s.toList.take p := by
  rw [Lib.toList_data, Lib.toList_data, ByteArray.data_extract, Array.toList_extract, List.extract_eq_take_drop, List.drop_zero, Nat.sub_zero]
theorem tl_drop (s : ByteArray) (p : Nat) (hp : p ≤ s.size) : (s.extract p s.size).toList = s.toList.drop p := by
  rw [Lib.toList_data, Lib.toList_data, ByteArray.data_extract, Array.toList_extract, List.extract_eq_take_drop, show s.size - p = (s.data.toList.drop p).length by rw [List.length_drop]; rfl, List.take_length]
/-- The end of Number's loop. -/
theorem numb_end (s t : ByteArray) {a : Int} (h : I64 a) (h2 : I64 (-a)) : ∃ b, Ev (fun k => marigraphref1_Number.l0 k s t a (t.size : Int)) ((if s.size > t.size then -a else a), b) ∧
    (b = true ↔ sg (decide ((if s.size > t.size then -a else a) < 0)) (Lib.bytesOf (dI (if s.size > t.size then -a else a).natAbs)) = s.toList) := by
  have hw : wrap64 (-a) = -a := wrap64_id h2
  by_cases hs : s.size > t.size
  · simp only [if_pos hs]
    obtain ⟨w, e1, e2⟩ := whole_tells h2
    refine ⟨(w.toList == s.toList), evDown ?_, ?_⟩
    · simp only [marigraphref1_Number.l0, if_neg (show ¬ (t.size : Int) < (t.size : Int) by omega), if_pos (show (s.size : Int) > (t.size : Int) by omega), hw]
      exact Ev.bind e1 (Ev.now _)
    · rw [beq_iff_eq, e2]
  · simp only [if_neg hs]
    obtain ⟨w, e1, e2⟩ := whole_tells h
    refine ⟨(w.toList == s.toList), evDown ?_, ?_⟩
    · simp only [marigraphref1_Number.l0, if_neg (show ¬ (t.size : Int) < (t.size : Int) by omega), if_neg (show ¬ (s.size : Int) > (t.size : Int) by omega)]
      exact Ev.bind e1 (Ev.now _)
    · rw [beq_iff_eq, e2]
theorem ten_succ (i : Nat) : ((10 : Int) ^ (i + 1)) = 10 * 10 ^ i := by rw [Int.pow_succ, Int.mul_comm]
theorem ten_le {i : Nat} (h : i ≤ 18) : ((10 : Int) ^ i) ≤ 1000000000000000000 := by
  have : ∀ j : Nat, j ≤ 18 → ((10 : Int) ^ j) ≤ 1000000000000000000 := by decide
  exact this i h
theorem numb_loop (s t : ByteArray) (ht : t.size ≤ 18) : ∀ n i : Nat, ∀ a : Int, t.size - i = n → i ≤ t.size → 0 ≤ a → a < 10 ^ i → ∃ v b, Ev (fun k => marigraphref1_Number.l0 k s t a (i : Int)) (v, b) ∧ I64 v := by
  intro n
  induction n with
  | zero =>
    intro i a hn hi h0 h1
    have hb := ten_le (i := i) (by omega)
    have ei : i = t.size := by omega
    subst ei
    obtain ⟨b, h, _⟩ := numb_end s t (a := a) ⟨by omega, by omega⟩ ⟨by omega, by omega⟩
    exact ⟨_, b, h, by split <;> exact ⟨by omega, by omega⟩⟩
  | succ n ih =>
    intro i a hn hi h0 h1
    have hb := ten_le (i := i) (by omega)
    have hr := bt_range t (i : Int)
    by_cases c1 : bt t (i : Int) < 48
    · refine ⟨0, false, evDown ?_, ⟨by decide, by decide⟩⟩
      simp only [marigraphref1_Number.l0, if_pos (show (i : Int) < (t.size : Int) by omega), if_pos (show 0 ≤ (i : Int) by omega), if_pos c1]
      exact Ev.now _
    · by_cases c2 : bt t (i : Int) > 57
      · refine ⟨0, false, evDown ?_, ⟨by decide, by decide⟩⟩
        simp only [marigraphref1_Number.l0, if_pos (show (i : Int) < (t.size : Int) by omega), if_pos (show 0 ≤ (i : Int) by omega), if_neg c1, if_pos c2]
        exact Ev.now _
      · have hb2 := ten_le (i := i + 1) (by omega)
        rw [ten_succ] at hb2
        have e : wrap64 (wrap64 (a * 10) + ((bt t (i : Int) - 48) % 256)) = 10 * a + (bt t (i : Int) - 48) := by
          rw [wrap64_id (x := a * 10) ⟨by omega, by omega⟩]
          unfold wrap64
          omega
        have e2 : wrap64 ((i : Int) + 1) = ((i + 1 : Nat) : Int) := by unfold wrap64; omega
        obtain ⟨v, b, h, hv⟩ := ih (i + 1) (10 * a + (bt t (i : Int) - 48)) (by omega) (by omega) (by omega) (by rw [ten_succ]; omega)
        refine ⟨v, b, evDown ?_, hv⟩
        simp only [marigraphref1_Number.l0, if_pos (show (i : Int) < (t.size : Int) by omega), if_pos (show 0 ≤ (i : Int) by omega), if_neg c1, if_neg c2, e, e2]
        exact h
theorem numb_j1 (s t : ByteArray) : ∃ v b, Ev (fun k => marigraphref1_Number.j1 k s t) (v, b) ∧ I64 v := by
  have bad : Ev (fun k => marigraphref1_Number.j2 k s t true) (0, false) := by
    refine evDown ?_
    simp only [marigraphref1_Number.j2, if_true]
    exact Ev.now _
  by_cases h1 : (t.size : Int) < 1
  · refine ⟨0, false, evDown ?_, ⟨by decide, by decide⟩⟩
    simp only [marigraphref1_Number.j1, if_pos h1]
    exact bad
  · by_cases h2 : (t.size : Int) > 18
    · refine ⟨0, false, evDown ?_, ⟨by decide, by decide⟩⟩
      simp only [marigraphref1_Number.j1, if_neg h1, decide_eq_true h2]
      exact bad
    · obtain ⟨v, b, h, hv⟩ := numb_loop s t (by omega) _ 0 0 rfl (Nat.zero_le _) (Int.le_refl _) (by decide)
      refine ⟨v, b, evDown ?_, hv⟩
      simp only [marigraphref1_Number.j1, if_neg h1, decide_eq_false h2]
      refine evDown ?_
      simp only [marigraphref1_Number.j2, Bool.false_eq_true, if_false]
      exact h
theorem numb_any (s : ByteArray) : ∃ v b, Ev (fun k => marigraphref1_Number.f k s) (v, b) ∧ I64 v := by
  have j : ∀ c : Bool, (c = true → 1 ≤ (s.size : Int)) → ∃ v b, Ev (fun k => marigraphref1_Number.j0 k s s c) (v, b) ∧ I64 v := by
    intro c hc
    cases c with
    | true =>
      obtain ⟨v, b, h, hv⟩ := numb_j1 s (s.extract 1 s.size)
      refine ⟨v, b, evDown ?_, hv⟩
      simp only [marigraphref1_Number.j0, if_true, if_pos (hc rfl)]
      exact h
    | false =>
      obtain ⟨v, b, h, hv⟩ := numb_j1 s s
      refine ⟨v, b, evDown ?_, hv⟩
      simp only [marigraphref1_Number.j0, Bool.false_eq_true, if_false]
      exact h
  unfold marigraphref1_Number.f
  by_cases h0 : (s.size : Int) > 0
  · simp only [if_pos h0, if_pos (show 0 < (s.size : Int) from h0)]
    exact j _ (fun _ => by omega)
  · simp only [if_neg h0]
    exact j false (fun h => by cases h)
theorem numb_exact (s t : ByteArray) (htz : t.size < 4611686014132420609) : ∀ (l : List Int) (i : Nat) (a : Int), Dg l → t.toList.drop i = Lib.bytesOf l → i + l.length = t.size → 0 ≤ a → val a l ≤ 2147483647 →
    ∀ r, Ev (fun k => marigraphref1_Number.l0 k s t (val a l) (t.size : Int)) r → Ev (fun k => marigraphref1_Number.l0 k s t a (i : Int)) r := by
  intro l
  induction l with
  | nil =>
    intro i a _ _ hi _ _ r h
    simp only [List.length_nil, Nat.add_zero] at hi
    rw [hi]
    exact h
  | cons c l ih =>
    intro i a hd hx hi h0 hv r h
    have hc := hd c (by simp)
    have hd' : Dg l := fun y hy => hd y (by simp [hy])
    have hle := val_le hd' (10 * a + (c - 48)) (by omega)
    have hv' : val (10 * a + (c - 48)) l ≤ 2147483647 := hv
    have hx2 : t.toList.drop i = UInt8.ofNat c.toNat :: Lib.bytesOf l := hx
    rw [List.length_cons] at hi
    have hg : t.toList[i]? = some (UInt8.ofNat c.toNat) := by
      have := congrArg (fun z => z[0]?) hx2
      simpa using this
    obtain ⟨g1, g2⟩ := bt_get hg
    have e : ((UInt8.ofNat c.toNat).toNat : Int) = c := by rw [UInt8.toNat_ofNat']; omega
    rw [e] at g1
    have hx3 : t.toList.drop (i + 1) = Lib.bytesOf l := by
      rw [← List.drop_drop, hx2]; rfl
    have q1 : (i : Int) < (t.size : Int) := by omega
    have q2 : 0 ≤ (i : Int) := by omega
    have q3 : ¬ c < 48 := by omega
    have q4 : ¬ c > 57 := by omega
    have q5 : i + 1 + l.length = t.size := by omega
    have q6 : 0 ≤ 10 * a + (c - 48) := by omega
    have e1 : wrap64 (wrap64 (a * 10) + ((c - 48) % 256)) = 10 * a + (c - 48) := by unfold wrap64; omega
    have e2 : wrap64 ((i : Int) + 1) = ((i + 1 : Nat) : Int) := by unfold wrap64; omega
    refine evDown ?_
    simp only [marigraphref1_Number.l0, if_pos q1, if_pos q2, g1, if_neg q3, if_neg q4, e1, e2]
    exact ih (i + 1) (10 * a + (c - 48)) hd' hx3 q5 q6 hv' r h
theorem number_exact {s : ByteArray} {n : Int} (h1 : -2147483647 ≤ n) (h2 : n ≤ 2147483647) (hs : s.toList = sg (decide (n < 0)) (Lib.bytesOf (dI n.natAbs))) : Ev (fun k => marigraphref1_Number.f k s) (n, true) := by
  have hl := dI_len n.natAbs
  have hl10 : (dI n.natAbs).length ≤ 10 := dI_lenm 9 n.natAbs (Nat.lt_of_lt_of_le (show n.natAbs < 10000000000 by omega) (by decide))
  have hv : val 0 (dI n.natAbs) = (n.natAbs : Int) := dI_val n.natAbs
  have main : ∀ t : ByteArray, t.toList = Lib.bytesOf (dI n.natAbs) → (s.size > t.size ↔ n < 0) → Ev (fun k => marigraphref1_Number.j1 k s t) (n, true) := by
    intro t ht hst
    have hts : t.size = (dI n.natAbs).length := by rw [tl_size, ht, Lib.bytesOf_length]
    refine evDown ?_
    simp only [marigraphref1_Number.j1, if_neg (show ¬ (t.size : Int) < 1 by omega), decide_eq_false (show ¬ (t.size : Int) > 18 by omega)]
    refine evDown ?_
    simp only [marigraphref1_Number.j2, Bool.false_eq_true, if_false]
    refine numb_exact s t (by omega) (dI n.natAbs) 0 0 (dI_dg _) (by rw [List.drop_zero]; exact ht) (by omega) (Int.le_refl _) (by omega) _ ?_
    rw [hv]
    obtain ⟨b, e, hb⟩ := numb_end s t (a := (n.natAbs : Int)) ⟨by omega, by omega⟩ ⟨by omega, by omega⟩
    have hval : (if s.size > t.size then -(n.natAbs : Int) else (n.natAbs : Int)) = n := by
      by_cases hn : n < 0
      · rw [if_pos (hst.2 hn)]; omega
      · rw [if_neg (fun h => hn (hst.1 h))]; omega
    rw [hval] at e hb
    rw [hb.2 hs.symm] at e
    exact e
  obtain ⟨c, l, hcl⟩ : ∃ c l, dI n.natAbs = c :: l := by
    cases hq : dI n.natAbs with
    | nil => rw [hq] at hl; simp at hl
    | cons c l => exact ⟨c, l, rfl⟩
  have hc := dI_dg n.natAbs c (by rw [hcl]; simp)
  unfold marigraphref1_Number.f
  by_cases hn : n < 0
  · rw [decide_eq_true hn] at hs
    have hs2 : s.toList = 45 :: Lib.bytesOf (dI n.natAbs) := hs
    obtain ⟨g1, g2⟩ := tl_head hs2
    have hb : (bt s 0 == 45) = true := by rw [g1]; decide
    simp only [if_pos (show (s.size : Int) > 0 by omega), if_pos (show 0 < (s.size : Int) by omega), hb]
    refine evDown ?_
    simp only [marigraphref1_Number.j0, if_true, if_pos (show 1 ≤ (s.size : Int) by omega)]
    have hr : (s.extract 1 s.size).toList = Lib.bytesOf (dI n.natAbs) := by rw [tl_rest, hs2]; rfl
    refine main (s.extract 1 s.size) hr ⟨fun _ => hn, fun _ => ?_⟩
    have z1 := tl_size s
    have z2 := tl_size (s.extract 1 s.size)
    rw [hr] at z2
    rw [hs2, List.length_cons] at z1
    omega
  · rw [decide_eq_false hn] at hs
    have hs2 : s.toList = Lib.bytesOf (dI n.natAbs) := hs
    have hs3 : s.toList = UInt8.ofNat c.toNat :: Lib.bytesOf l := by rw [hs2, hcl]; rfl
    obtain ⟨g1, g2⟩ := tl_head hs3
    have e : ((UInt8.ofNat c.toNat).toNat : Int) = c := by rw [UInt8.toNat_ofNat']; omega
    rw [e] at g1
    have hb : (bt s 0 == 45) = false := by rw [g1, beq_eq_false_iff_ne]; omega
    simp only [if_pos (show (s.size : Int) > 0 by omega), if_pos (show 0 < (s.size : Int) by omega), hb]
    refine evDown ?_
    simp only [marigraphref1_Number.j0, Bool.false_eq_true, if_false]
    exact main s hs2 ⟨fun h => by omega, fun h => absurd h hn⟩
/-- The first slash. -/
theorem find_slash (s : ByteArray) (hz : s.size < 4611686014132420609) : ∀ n i : Nat, s.size - i = n → i ≤ s.size → ∃ p : Nat, i ≤ p ∧ p ≤ s.size ∧ (p < s.size → s.toList[p]? = some 47) ∧ (∀ j, i ≤ j → j < p → s.toList[j]? ≠ some 47) ∧
    ∀ r, Ev (fun k => marigraphref1_Parse.j1 k s (p : Int) 0 1) r → Ev (fun k => marigraphref1_Parse.l0 k s (s.size : Int) (i : Int) 0 1) r := by
  intro n
  induction n with
  | zero =>
    intro i hn hi
    refine ⟨s.size, hi, Nat.le_refl _, fun h => absurd h (Nat.lt_irrefl _), fun j h1 h2 => by omega, fun r h => evDown ?_⟩
    simp only [marigraphref1_Parse.l0, if_neg (show ¬ (i : Int) < (s.size : Int) by omega)]
    exact h
  | succ n ih =>
    intro i hn hi
    obtain ⟨c, hc⟩ := tl_get s (show i < s.size by omega)
    obtain ⟨g1, g2⟩ := bt_get hc
    have e2 : wrap64 ((i : Int) + 1) = ((i + 1 : Nat) : Int) := by unfold wrap64; omega
    by_cases h47 : bt s (i : Int) = 47
    · refine ⟨i, Nat.le_refl _, by omega, fun _ => ?_, fun j h1 h2 => by omega, fun r h => evDown ?_⟩
      · rw [hc]
        congr 1
        rw [g1] at h47
        have : c.toNat = 47 := by omega
        exact UInt8.toNat_inj.1 this
      · simp only [marigraphref1_Parse.l0, if_pos (show (i : Int) < (s.size : Int) by omega), if_pos (show 0 ≤ (i : Int) by omega), if_pos h47]
        exact h
    · obtain ⟨p, p1, p2, p3, p4, p5⟩ := ih (i + 1) (by omega) (by omega)
      refine ⟨p, by omega, p2, p3, fun j h1 h2 => ?_, fun r h => evDown ?_⟩
      · by_cases hj : j = i
        · subst hj
          rw [hc]
          intro he
          apply h47
          rw [g1, Option.some.inj he]; rfl
        · exact p4 j (by omega) h2
      · simp only [marigraphref1_Parse.l0, if_pos (show (i : Int) < (s.size : Int) by omega), if_pos (show 0 ≤ (i : Int) by omega), if_neg h47, e2]
        exact p5 r h
/-- What a Parse tells: a number that is right and is written so, or the refusal. -/
def Fit2 (s : ByteArray) (r : Int × Int × Int) : Prop := (r.2.2 = 0 ∧ Rt r.1 r.2.1 ∧ (TB r.1 r.2.1).toList = s.toList) ∨ r = (0, 0, 12)
theorem rj2_right {n d : Int} (h : Rt n d) {s : ByteArray} (e : (TB n d).toList = s.toList) : Ev (fun k => marigraphref1_Parse.j2 k s true n d) (n, d, 0) := by
  have hr := rright_tells h.i64n h.i64d
  rw [h.right] at hr
  refine evDown ?_
  simp only [marigraphref1_Parse.j2, if_true]
  refine Ev.bind hr ?_
  simp only [if_true]
  refine Ev.bind (rText_eq h) ?_
  simp only [if_pos e]
  exact Ev.now _
theorem rj2_any (s : ByteArray) (b : Bool) {n d : Int} (hn : I64 n) (hd : I64 d) : ∃ r, Ev (fun k => marigraphref1_Parse.j2 k s b n d) r ∧ Fit2 s r := by
  cases b with
  | false =>
    refine ⟨(0, 0, 12), evDown ?_, Or.inr rfl⟩
    simp only [marigraphref1_Parse.j2, Bool.false_eq_true, if_false]
    exact Ev.now _
  | true =>
    have hr := rright_tells hn hd
    by_cases hq : rightQ n d = true
    · have h := Rt.of_right hq
      by_cases e : (TB n d).toList = s.toList
      · exact ⟨_, rj2_right h e, Or.inl ⟨rfl, h, e⟩⟩
      · rw [hq] at hr
        refine ⟨(0, 0, 12), evDown ?_, Or.inr rfl⟩
        simp only [marigraphref1_Parse.j2, if_true]
        refine Ev.bind hr ?_
        simp only [if_true]
        refine Ev.bind (rText_eq h) ?_
        simp only [if_neg e]
        exact Ev.now _
    · have hq' : rightQ n d = false := by simpa using hq
      rw [hq'] at hr
      refine ⟨(0, 0, 12), evDown ?_, Or.inr rfl⟩
      simp only [marigraphref1_Parse.j2, if_true]
      refine Ev.bind hr ?_
      simp only [Bool.false_eq_true, if_false]
      exact Ev.now _
theorem rParse_any (s : ByteArray) (hz : s.size < 4611686014132420609) : ∃ r, Ev (fun k => marigraphref1_Parse.f k s) r ∧ Fit2 s r := by
  obtain ⟨p, p1, p2, p3, p4, p5⟩ := find_slash s hz _ 0 rfl (Nat.zero_le _)
  obtain ⟨v, b, e1, hv⟩ := numb_any (s.extract 0 p)
  by_cases hp : p < s.size
  · obtain ⟨u, c, e2, hu⟩ := numb_any (s.extract (p + 1) s.size)
    have ew : wrap64 ((p : Int) + 1) = ((p + 1 : Nat) : Int) := by unfold wrap64; omega
    obtain ⟨r, e3, hf⟩ := rj2_any s (if b = true then c else false) hv hu
    refine ⟨r, p5 r (evDown ?_), hf⟩
    simp only [marigraphref1_Parse.j1, if_pos (show 0 ≤ (p : Int) by omega), if_pos (show (p : Int) ≤ (s.size : Int) by omega), Int.toNat_natCast]
    refine Ev.bind e1 ?_
    simp only [if_pos (show (p : Int) < (s.size : Int) by omega), ew, if_pos (show 0 ≤ ((p + 1 : Nat) : Int) by omega), if_pos (show ((p + 1 : Nat) : Int) ≤ (s.size : Int) by omega), Int.toNat_natCast]
    refine Ev.bind e2 ?_
    cases b with
    | true => simp only [if_true] at e3 ⊢; exact e3
    | false => simp only [Bool.false_eq_true, if_false] at e3 ⊢; exact e3
  · obtain ⟨r, e3, hf⟩ := rj2_any s b hv (show I64 1 from ⟨by decide, by decide⟩)
    refine ⟨r, p5 r (evDown ?_), hf⟩
    simp only [marigraphref1_Parse.j1, if_pos (show 0 ≤ (p : Int) by omega), if_pos (show (p : Int) ≤ (s.size : Int) by omega), Int.toNat_natCast]
    refine Ev.bind e1 ?_
    simp only [if_neg (show ¬ (p : Int) < (s.size : Int) by omega)]
    exact e3
theorem no_slash {l : List Int} (h : Dg l) : ∀ j : Nat, (Lib.bytesOf l)[j]? ≠ some 47 := by
  intro j
  unfold Lib.bytesOf
  rw [List.getElem?_map]
  intro he
  obtain ⟨c, hc, e⟩ := Option.map_eq_some_iff.1 he
  have hm := h c (List.mem_of_getElem? hc)
  have : (UInt8.ofNat c.toNat).toNat = 47 := by rw [e]; rfl
  rw [UInt8.toNat_ofNat'] at this
  omega
theorem sg_no_slash {l : List Int} (h : Dg l) (b : Bool) : ∀ j : Nat, (sg b (Lib.bytesOf l))[j]? ≠ some 47 := by
  intro j
  unfold sg
  cases b with
  | false => rw [if_neg (by decide)]; exact no_slash h j
  | true =>
    rw [if_pos rfl]
    cases j with
    | zero => simp
    | succ j => rw [List.getElem?_cons_succ]; exact no_slash h j
theorem rParse_tells {n d : Int} (h : Rt n d) : Ev (fun k => marigraphref1_Parse.f k (TB n d)) (n, d, 0) := by
  have b1 := h.n1; have b2 := h.n2; have b3 := h.d1; have b4 := h.d2
  have hl1 := dI_len20 (u := n.natAbs) (by omega)
  have hl2 := dI_len20 (u := d.natAbs) (by omega)
  have hA : (TB n d).toList = sg (decide (n < 0)) (Lib.bytesOf (dI n.natAbs)) ++ Lib.bytesOf (TR d) := by
    rw [TB_tl]
    unfold sg
    by_cases h0 : n < 0
    · rw [decide_eq_true h0, if_pos rfl, if_pos h0, bo_append, show (-n).toNat = n.natAbs by omega]; rfl
    · rw [decide_eq_false h0, if_neg h0, if_neg (show ¬ false = true by decide), bo_append, show n.toNat = n.natAbs by omega]
  have hsl := sg_no_slash (dI_dg n.natAbs) (decide (n < 0))
  have hsgl := sg_len (decide (n < 0)) (Lib.bytesOf (dI n.natAbs))
  rw [Lib.bytesOf_length] at hsgl
  have hnum := fun (s : ByteArray) (hs : s.toList = sg (decide (n < 0)) (Lib.bytesOf (dI n.natAbs))) => number_exact b1 b2 hs
  generalize sg (decide (n < 0)) (Lib.bytesOf (dI n.natAbs)) = X at hA hsl hsgl hnum
  have hTR : (TR d).length ≤ 21 := by
    unfold TR
    split
    · rw [List.length_cons, show d.toNat = d.natAbs by omega]; omega
    · simp
  have hsize : (TB n d).size = X.length + (TR d).length := by rw [tl_size, hA, List.length_append, Lib.bytesOf_length]
  obtain ⟨p, p1, p2, p3, p4, p5⟩ := find_slash (TB n d) (by omega) _ 0 rfl (Nat.zero_le _)
  have hp : p = X.length := by
    by_cases h1 : p < X.length
    · have hp3 := p3 (by omega)
      rw [hA, List.getElem?_append_left h1] at hp3
      exact absurd hp3 (hsl p)
    · by_cases h2 : X.length < p
      · have := p4 X.length (Nat.zero_le _) h2
        rw [hA, List.getElem?_append_right (Nat.le_refl _), Nat.sub_self] at this
        unfold TR at this hsize
        by_cases hd : d > 1
        · rw [if_pos hd] at this
          exact absurd rfl this
        · rw [if_neg hd] at hsize
          simp only [List.length_nil, Nat.add_zero] at hsize
          omega
      · omega
  have e1 := hnum ((TB n d).extract 0 p) (by rw [tl_take _ _ p2, hA, hp, List.take_left' rfl])
  refine p5 _ (evDown ?_)
  simp only [marigraphref1_Parse.j1, if_pos (show 0 ≤ (p : Int) by omega), if_pos (show (p : Int) ≤ ((TB n d).size : Int) by omega), Int.toNat_natCast]
  refine Ev.bind e1 ?_
  by_cases hd : d > 1
  · have hT : TR d = 47 :: dI d.natAbs := by unfold TR; rw [if_pos hd, show d.toNat = d.natAbs by omega]
    have hps : p < (TB n d).size := by rw [hsize, hT, List.length_cons, hp]; omega
    have ew : wrap64 ((p : Int) + 1) = ((p + 1 : Nat) : Int) := by unfold wrap64; omega
    have e2 : Ev (fun k => marigraphref1_Number.f k ((TB n d).extract (p + 1) (TB n d).size)) (d, true) := by
      refine number_exact (by omega) b4 ?_
      rw [tl_drop _ _ (by omega), hA, hp, hT, decide_eq_false (show ¬ d < 0 by omega), ← List.drop_drop, List.drop_left' rfl]
      rfl
    simp only [if_pos (show (p : Int) < ((TB n d).size : Int) by omega), ew, if_pos (show 0 ≤ ((p + 1 : Nat) : Int) by omega), if_pos (show ((p + 1 : Nat) : Int) ≤ ((TB n d).size : Int) by omega), Int.toNat_natCast]
    refine Ev.bind e2 ?_
    simp only [if_true]
    exact rj2_right h rfl
  · have hT : TR d = [] := by unfold TR; rw [if_neg hd]
    have hps : ¬ p < (TB n d).size := by rw [hsize, hT, hp]; simp
    simp only [if_neg (show ¬ (p : Int) < ((TB n d).size : Int) by omega)]
    have hd1 : d = 1 := by omega
    have := rj2_right h (s := TB n d) rfl
    rw [hd1] at this ⊢
    exact this
/-! ### rat.Parse: what it tells if it refuses -/
theorem pj3 {k : Nat} {s : ByteArray} {n d : Int} {r : Int × Int × Int} (h : rat_Parse.j3 k s n d = some r) : r.2.2 = 0 ∨ r = (0, 0, 12) := by
  cases k with
  | zero => simp [rat_Parse.j3] at h
  | succ k =>
    simp only [rat_Parse.j3] at h
    obtain ⟨t, _, h⟩ := Option.bind_eq_some_iff.mp h
    by_cases ht : t = true
    · rw [if_pos ht] at h
      obtain ⟨u, _, h⟩ := Option.bind_eq_some_iff.mp h
      by_cases hu : u.toList = s.toList
      · rw [if_pos hu] at h
        left
        rw [← Option.some.inj h]
      · rw [if_neg hu] at h
        exact Or.inr (Option.some.inj h).symm
    · rw [if_neg ht] at h
      exact Or.inr (Option.some.inj h).symm
theorem pj2 {k : Nat} {s x : ByteArray} {n d : Int} {r : Int × Int × Int} (h : rat_Parse.j2 k s x n d = some r) : r.2.2 = 0 ∨ r = (0, 0, 12) := by
  cases k with
  | zero => simp [rat_Parse.j2] at h
  | succ k =>
    simp only [rat_Parse.j2] at h
    by_cases hx : x.toList = ([] : List UInt8)
    · rw [if_pos hx] at h; exact pj3 h
    · rw [if_neg hx] at h
      by_cases h1 : 1 ≤ (x.size : Int)
      · rw [if_pos h1] at h
        obtain ⟨t, _, h⟩ := Option.bind_eq_some_iff.mp h
        exact pj3 h
      · rw [if_neg h1] at h; cases h
theorem pj1 {k : Nat} {s x : ByteArray} {b : Bool} {r : Int × Int × Int} (h : rat_Parse.j1 k s x b = some r) : r.2.2 = 0 ∨ r = (0, 0, 12) := by
  cases k with
  | zero => simp [rat_Parse.j1] at h
  | succ k =>
    simp only [rat_Parse.j1] at h
    obtain ⟨t, _, h⟩ := Option.bind_eq_some_iff.mp h
    by_cases hb : b = true
    · rw [if_pos hb] at h; exact pj2 h
    · rw [if_neg hb] at h; exact pj2 h
theorem pj0 {k : Nat} {s x : ByteArray} {b : Bool} {r : Int × Int × Int} (h : rat_Parse.j0 k s x b = some r) : r.2.2 = 0 ∨ r = (0, 0, 12) := by
  cases k with
  | zero => simp [rat_Parse.j0] at h
  | succ k =>
    simp only [rat_Parse.j0] at h
    by_cases hb : b = true
    · rw [if_pos hb] at h
      by_cases h1 : 1 ≤ (s.size : Int)
      · rw [if_pos h1] at h; exact pj1 h
      · rw [if_neg h1] at h; cases h
    · rw [if_neg hb] at h; exact pj1 h
theorem pParse {k : Nat} {s : ByteArray} {r : Int × Int × Int} (h : rat_Parse.f k s = some r) : r.2.2 = 0 ∨ r = (0, 0, 12) := by
  unfold rat_Parse.f at h
  by_cases hx : s.toList = ([] : List UInt8)
  · rw [if_pos hx] at h; exact pj0 h
  · rw [if_neg hx] at h
    by_cases h1 : 0 < (s.size : Int)
    · rw [if_pos h1] at h; exact pj0 h
    · rw [if_neg h1] at h; cases h
theorem parses_same (s : ByteArray) (hz : s.size < 4611686014132420609) : Ev (fun k => marigraphlaw1_parses.f k s) true := by
  have key : ∃ r, Ev (fun k => rat_Parse.f k s) r ∧ Ev (fun k => marigraphref1_Parse.f k s) r := by
    obtain ⟨r2, e2, h2⟩ := rParse_any s hz
    rcases h2 with ⟨z2, g2, t2⟩ | rfl
    · obtain ⟨n, d, e⟩ := r2
      have z2 : e = 0 := z2
      subst z2
      have := Parse_tells g2
      rw [ba_ext t2] at this
      exact ⟨_, this, e2⟩
    · obtain ⟨r1, e1, h1⟩ := Parse_any s
      obtain ⟨K, hK⟩ := e1
      rcases pParse (hK K (Nat.le_refl _)) with z1 | rfl
      · obtain ⟨g1, t1⟩ := h1 z1
        obtain ⟨n, d, e⟩ := r1
        have z1 : e = 0 := z1
        subst z1
        have := rParse_tells g1
        rw [ba_ext t1] at this
        exact ⟨_, ⟨K, hK⟩, this⟩
      · exact ⟨_, ⟨K, hK⟩, e2⟩
  obtain ⟨r, e1, e2⟩ := key
  refine Ev.bind e1 (Ev.bind e2 ?_)
  simp only [beq_self_eq_true, Bool.and_self, if_true]
  exact Ev.now _
/-! ### two of any numbers -/
theorem rop_bad {c n d m e : Int} (hn : I64 n) (hd : I64 d) (hm : I64 m) (he : I64 e) (hb : ¬ (rightQ n d = true ∧ rightQ m e = true)) : Ev (fun K => marigraphref1_Op.f K c n d m e) (0, 0, 1) := by
  have bad : Ev (fun k => marigraphref1_Op.j0 k c true n d m e) (0, 0, 1) := by
    refine evDown ?_
    simp only [marigraphref1_Op.j0, if_true]
    exact Ev.now _
  have r1 := rright_tells hn hd
  have r2 := rright_tells hm he
  by_cases h1 : rightQ n d = true
  · have h2 : rightQ m e = false := by
      cases hq : rightQ m e with
      | false => rfl
      | true => exact absurd ⟨h1, hq⟩ hb
    rw [h1] at r1
    rw [h2] at r2
    refine Ev.bind r1 ?_
    simp only [if_true]
    refine Ev.bind r2 ?_
    simp only [Bool.false_eq_true, if_false]
    exact bad
  · have h1' : rightQ n d = false := by simpa using h1
    rw [h1'] at r1
    refine Ev.bind r1 ?_
    simp only [Bool.false_eq_true, if_false]
    exact bad
theorem Add_bad {n d m e : Int} (hn : I64 n) (hd : I64 d) (hm : I64 m) (he : I64 e) (hb : ¬ (rightQ n d = true ∧ rightQ m e = true)) : Ev (fun K => rat_Add.f K n d m e) (0, 0, 1) := by
  have bad : Ev (fun k => rat_exact_of_rat_Add_1_rat_both.j0 k true n d m e) (0, 0, 1) := by
    refine evDown ?_
    simp only [rat_exact_of_rat_Add_1_rat_both.j0, if_true]
    exact Ev.now _
  have r1 := right_tells hn hd
  have r2 := right_tells hm he
  refine Ev.bind (g := fun K => rat_exact_of_rat_Add_1_rat_both.f K n d m e) (a := (0, 0, 1)) (f := fun _ b => some (b.1, b.2.1, b.2.2)) ?_ (Ev.now _)
  by_cases h1 : rightQ n d = true
  · have h2 : rightQ m e = false := by
      cases hq : rightQ m e with
      | false => rfl
      | true => exact absurd ⟨h1, hq⟩ hb
    rw [h1] at r1
    rw [h2] at r2
    refine Ev.bind r1 ?_
    simp only [if_true]
    refine Ev.bind r2 ?_
    simp only [Bool.not_false]
    exact bad
  · have h1' : rightQ n d = false := by simpa using h1
    rw [h1'] at r1
    refine Ev.bind r1 ?_
    simp only [Bool.false_eq_true, if_false]
    exact bad
theorem Add_both {n d m e : Int} (hn : I64 n) (hd : I64 d) (hm : I64 m) (he : I64 e) : ∃ r, Ev (fun K => rat_Add.f K n d m e) r ∧ Ev (fun K => marigraphref1_Op.f K 43 n d m e) r := by
  by_cases hb : rightQ n d = true ∧ rightQ m e = true
  · exact ⟨_, Add_tells (Rt.of_right hb.1) (Rt.of_right hb.2), rAdd_tells (Rt.of_right hb.1) (Rt.of_right hb.2)⟩
  · exact ⟨_, Add_bad hn hd hm he hb, rop_bad hn hd hm he hb⟩
theorem Sub_bad {n d m e : Int} (hn : I64 n) (hd : I64 d) (hm : I64 m) (he : I64 e) (hb : ¬ (rightQ n d = true ∧ rightQ m e = true)) : Ev (fun K => rat_Sub.f K n d m e) (0, 0, 1) := by
  have bad : Ev (fun k => rat_exact_of_rat_Sub_1_rat_both.j0 k true n d m e) (0, 0, 1) := by
    refine evDown ?_
    simp only [rat_exact_of_rat_Sub_1_rat_both.j0, if_true]
    exact Ev.now _
  have r1 := right_tells hn hd
  have r2 := right_tells hm he
  refine Ev.bind (g := fun K => rat_exact_of_rat_Sub_1_rat_both.f K n d m e) (a := (0, 0, 1)) (f := fun _ b => some (b.1, b.2.1, b.2.2)) ?_ (Ev.now _)
  by_cases h1 : rightQ n d = true
  · have h2 : rightQ m e = false := by
      cases hq : rightQ m e with
      | false => rfl
      | true => exact absurd ⟨h1, hq⟩ hb
    rw [h1] at r1
    rw [h2] at r2
    refine Ev.bind r1 ?_
    simp only [if_true]
    refine Ev.bind r2 ?_
    simp only [Bool.not_false]
    exact bad
  · have h1' : rightQ n d = false := by simpa using h1
    rw [h1'] at r1
    refine Ev.bind r1 ?_
    simp only [Bool.false_eq_true, if_false]
    exact bad
theorem Sub_both {n d m e : Int} (hn : I64 n) (hd : I64 d) (hm : I64 m) (he : I64 e) : ∃ r, Ev (fun K => rat_Sub.f K n d m e) r ∧ Ev (fun K => marigraphref1_Op.f K 45 n d m e) r := by
  by_cases hb : rightQ n d = true ∧ rightQ m e = true
  · exact ⟨_, Sub_tells (Rt.of_right hb.1) (Rt.of_right hb.2), rSub_tells (Rt.of_right hb.1) (Rt.of_right hb.2)⟩
  · exact ⟨_, Sub_bad hn hd hm he hb, rop_bad hn hd hm he hb⟩
theorem Mul_bad {n d m e : Int} (hn : I64 n) (hd : I64 d) (hm : I64 m) (he : I64 e) (hb : ¬ (rightQ n d = true ∧ rightQ m e = true)) : Ev (fun K => rat_Mul.f K n d m e) (0, 0, 1) := by
  have bad : Ev (fun k => rat_exact_of_rat_Mul_1_rat_both.j0 k true n d m e) (0, 0, 1) := by
    refine evDown ?_
    simp only [rat_exact_of_rat_Mul_1_rat_both.j0, if_true]
    exact Ev.now _
  have r1 := right_tells hn hd
  have r2 := right_tells hm he
  refine Ev.bind (g := fun K => rat_exact_of_rat_Mul_1_rat_both.f K n d m e) (a := (0, 0, 1)) (f := fun _ b => some (b.1, b.2.1, b.2.2)) ?_ (Ev.now _)
  by_cases h1 : rightQ n d = true
  · have h2 : rightQ m e = false := by
      cases hq : rightQ m e with
      | false => rfl
      | true => exact absurd ⟨h1, hq⟩ hb
    rw [h1] at r1
    rw [h2] at r2
    refine Ev.bind r1 ?_
    simp only [if_true]
    refine Ev.bind r2 ?_
    simp only [Bool.not_false]
    exact bad
  · have h1' : rightQ n d = false := by simpa using h1
    rw [h1'] at r1
    refine Ev.bind r1 ?_
    simp only [Bool.false_eq_true, if_false]
    exact bad
theorem Mul_both {n d m e : Int} (hn : I64 n) (hd : I64 d) (hm : I64 m) (he : I64 e) : ∃ r, Ev (fun K => rat_Mul.f K n d m e) r ∧ Ev (fun K => marigraphref1_Op.f K 42 n d m e) r := by
  by_cases hb : rightQ n d = true ∧ rightQ m e = true
  · exact ⟨_, Mul_tells (Rt.of_right hb.1) (Rt.of_right hb.2), rMul_tells (Rt.of_right hb.1) (Rt.of_right hb.2)⟩
  · exact ⟨_, Mul_bad hn hd hm he hb, rop_bad hn hd hm he hb⟩
theorem Div_bad {n d m e : Int} (hn : I64 n) (hd : I64 d) (hm : I64 m) (he : I64 e) (hb : ¬ (rightQ n d = true ∧ rightQ m e = true)) : Ev (fun K => rat_Div.f K n d m e) (0, 0, 1) := by
  have bad : Ev (fun k => rat_exact_of_rat_Div_1_rat_Div_2.j0 k true n d m e) (0, 0, 1) := by
    refine evDown ?_
    simp only [rat_exact_of_rat_Div_1_rat_Div_2.j0, if_true]
    exact Ev.now _
  have r1 := right_tells hn hd
  have r2 := right_tells hm he
  refine Ev.bind (g := fun K => rat_exact_of_rat_Div_1_rat_Div_2.f K n d m e) (a := (0, 0, 1)) (f := fun _ b => some (b.1, b.2.1, b.2.2)) ?_ (Ev.now _)
  by_cases h1 : rightQ n d = true
  · have h2 : rightQ m e = false := by
      cases hq : rightQ m e with
      | false => rfl
      | true => exact absurd ⟨h1, hq⟩ hb
    rw [h1] at r1
    rw [h2] at r2
    refine Ev.bind r1 ?_
    simp only [if_true]
    refine Ev.bind r2 ?_
    simp only [Bool.not_false]
    exact bad
  · have h1' : rightQ n d = false := by simpa using h1
    rw [h1'] at r1
    refine Ev.bind r1 ?_
    simp only [Bool.false_eq_true, if_false]
    exact bad
theorem Div_both {n d m e : Int} (hn : I64 n) (hd : I64 d) (hm : I64 m) (he : I64 e) : ∃ r, Ev (fun K => rat_Div.f K n d m e) r ∧ Ev (fun K => marigraphref1_Op.f K 47 n d m e) r := by
  by_cases hb : rightQ n d = true ∧ rightQ m e = true
  · exact ⟨_, Div_tells (Rt.of_right hb.1) (Rt.of_right hb.2), rDiv_tells (Rt.of_right hb.1) (Rt.of_right hb.2)⟩
  · exact ⟨_, Div_bad hn hd hm he hb, rop_bad hn hd hm he hb⟩
theorem Cmp_both {n d m e : Int} (hn : I64 n) (hd : I64 d) (hm : I64 m) (he : I64 e) : ∃ r, Ev (fun K => rat_Cmp.f K n d m e) r ∧ Ev (fun K => marigraphref1_Cmp.f K n d m e) r := by
  have r1 := right_tells hn hd
  have r2 := right_tells hm he
  have s1 := rright_tells hn hd
  have s2 := rright_tells hm he
  by_cases h1 : rightQ n d = true
  · by_cases h2 : rightQ m e = true
    · exact ⟨_, cmp_tells (Rt.of_right h1) (Rt.of_right h2), rcmp_tells (Rt.of_right h1) (Rt.of_right h2)⟩
    · have h2' : rightQ m e = false := by simpa using h2
      rw [h1] at r1 s1
      rw [h2'] at r2 s2
      refine ⟨1, Ev.bind r1 (Ev.bind r2 ?_), Ev.bind s1 (Ev.bind s2 ?_)⟩
      · simp only [if_true]
        refine evDown ?_
        simp only [rat_Cmp.j0, Bool.false_eq_true, if_false, if_true]
        exact Ev.now _
      · simp only [if_true]
        refine evDown ?_
        simp only [marigraphref1_Cmp.j0, Bool.false_eq_true, if_false, if_true]
        exact Ev.now _
  · have h1' : rightQ n d = false := by simpa using h1
    rw [h1'] at r1 s1
    cases h2 : rightQ m e with
    | true =>
      rw [h2] at r2 s2
      refine ⟨-1, Ev.bind r1 (Ev.bind r2 ?_), Ev.bind s1 (Ev.bind s2 ?_)⟩
      · simp only [Bool.false_eq_true, if_false, Bool.not_true]
        refine evDown ?_
        simp only [rat_Cmp.j0, Bool.false_eq_true, if_false]
        exact Ev.now _
      · simp only [Bool.false_eq_true, if_false, Bool.not_true]
        refine evDown ?_
        simp only [marigraphref1_Cmp.j0, Bool.false_eq_true, if_false]
        exact Ev.now _
    | false =>
      rw [h2] at r2 s2
      refine ⟨0, Ev.bind r1 (Ev.bind r2 ?_), Ev.bind s1 (Ev.bind s2 ?_)⟩
      · simp only [Bool.false_eq_true, if_false, Bool.not_false]
        refine evDown ?_
        simp only [rat_Cmp.j0, if_true]
        exact Ev.now _
      · simp only [Bool.false_eq_true, if_false, Bool.not_false]
        refine evDown ?_
        simp only [marigraphref1_Cmp.j0, if_true]
        exact Ev.now _
theorem Text_both {n d : Int} (hn : I64 n) (hd : I64 d) : ∃ r, Ev (fun K => rat_Text.f K n d) r ∧ Ev (fun K => marigraphref1_Text.f K n d) r := by
  by_cases h1 : rightQ n d = true
  · exact ⟨_, Text_tells (Rt.of_right h1), rText_eq (Rt.of_right h1)⟩
  · have h1' : rightQ n d = false := by simpa using h1
    have r1 := right_tells hn hd
    have s1 := rright_tells hn hd
    rw [h1'] at r1 s1
    refine ⟨(⟨#[63]⟩ : ByteArray), evDown ?_, Ev.bind s1 ?_⟩
    · simp only [rat_Text.f]
      refine Ev.bind r1 ?_
      simp only [Bool.false_eq_true, if_false]
      exact Ev.now _
    · simp only [Bool.false_eq_true, if_false]
      exact Ev.now _
theorem two_any {n d m e : Int} (hn : I64 n) (hd : I64 d) (hm : I64 m) (he : I64 e) : Ev (fun k => marigraphlaw1_two.f k n d m e) true := by
  obtain ⟨w, w1, w2⟩ := Add_both hn hd hm he
  obtain ⟨x, x1, x2⟩ := Sub_both hn hd hm he
  obtain ⟨y, y1, y2⟩ := Mul_both hn hd hm he
  obtain ⟨z, z1, z2⟩ := Div_both hn hd hm he
  obtain ⟨c, c1, c2⟩ := Cmp_both hn hd hm he
  obtain ⟨t, t1, t2⟩ := Text_both hn hd
  have r1 := right_tells hn hd
  have r2 := rright_tells hn hd
  refine Ev.bind w1 (Ev.bind x1 (Ev.bind y1 (Ev.bind z1 (Ev.bind w2 (Ev.bind x2 (Ev.bind y2 (Ev.bind z2 (Ev.bind c1 (Ev.bind c2 (Ev.bind r1 (Ev.bind r2 (Ev.bind t1 (Ev.bind t2 ?_)))))))))))))
  have hall : ((w = w ∧ x = x ∧ y = y) ∧ (z = z ∧ c = c ∧ rightQ n d = rightQ n d) ∧ t = t) := ⟨⟨rfl, rfl, rfl⟩, ⟨rfl, rfl, rfl⟩, rfl⟩
  simp only [if_pos hall]
  exact Ev.now _
theorem news_same {n d : Int} (hn : I64 n) (hd : I64 d) : Ev (fun k => marigraphlaw1_news.f k n d) true := by
  have o1 : Ev (fun k => rat_Of.f k n) (newQ n 1) := Ev.bind (new_tells hn ⟨by decide, by decide⟩) (Ev.now _)
  refine Ev.bind (new_tells hn hd) (Ev.bind (rnew_tells hn hd) (Ev.bind o1 (Ev.bind (rnew_tells hn (show I64 1 from ⟨by decide, by decide⟩)) ?_)))
  simp only [beq_self_eq_true, Bool.and_self, if_true]
  exact Ev.now _
theorem known1 : Ev (fun k => marigraphlaw1_known.f k) true := Ev.of (fun k => marigraphlaw1_known.mono k) (k := 60) (by decide +kernel)
theorem head_tells (s : ByteArray) : ∃ t : ByteArray, marigraphkeep_Head.f s 30 = some t ∧ t.size ≤ 30 := by
  unfold marigraphkeep_Head.f
  by_cases h : (s.size : Int) > 30
  · rw [if_pos h, if_pos (by decide), if_pos (by omega)]
    refine ⟨_, rfl, ?_⟩
    show (s.extract 0 30).size ≤ 30
    rw [tl_size, tl_take s 30 (by omega), List.length_take]
    exact Nat.min_le_left _ _
  · rw [if_neg h]
    exact ⟨s, rfl, by omega⟩
theorem RatTells : ∀ (a0 a1 b0 b1 n d : Int) (s : ByteArray) (x y z w : Int), (Lit.int .i64 a0).wf = true → (Lit.int .i64 a1).wf = true → (Lit.int .i64 b0).wf = true → (Lit.int .i64 b1).wf = true → (Lit.int .i64 n).wf = true → (Lit.int .i64 d).wf = true → (Lit.int .i64 x).wf = true → (Lit.int .i64 y).wf = true → (Lit.int .i64 z).wf = true → (Lit.int .i64 w).wf = true →
    ∃ k, marigraphlaw1_RatTells.f k a0 a1 b0 b1 n d s x y z w = some true := by
  intro a0 a1 b0 b1 n d s x y z w h0 h1 h2 h3 h4 h5 h6 h7 h8 h9
  obtain ⟨N, D, e1, r1, _⟩ := keep_tells (i64_of h6) (i64_of h7)
  obtain ⟨M, E, e2, r2, _⟩ := keep_tells (i64_of h8) (i64_of h9)
  obtain ⟨t, e3, t1, t2, _⟩ := within_ev (n := x) (lo := 0) (hi := 50) (by decide) (by decide) (by decide) (by decide) (i64_of h6)
  have hw : wrap64 (2147483647 - t) = 2147483647 - t := wrap64_id ⟨by omega, by omega⟩
  obtain ⟨u, e4, hu⟩ := head_tells s
  have one : I64 1 := ⟨by decide, by decide⟩
  have hB : I64 (2147483647 - t) := ⟨by omega, by omega⟩
  refine Ev.rounds ?_
  refine Ev.bind e1 (Ev.bind e2 (Ev.bind e3 (Ev.bind (two_any (i64_of h0) (i64_of h1) (i64_of h2) (i64_of h3)) ?_)))
  simp only [if_true]
  refine Ev.bind (two_any r1.i64n r1.i64d r2.i64n r2.i64d) ?_
  simp only [if_true, hw]
  refine Ev.bind (two_any r1.i64n r1.i64d hB one) ?_
  simp only [if_true]
  refine Ev.bind (two_any hB one hB one) ?_
  simp only [if_true]
  refine Ev.bind (news_same (i64_of h4) (i64_of h5)) ?_
  simp only [if_true]
  refine Ev.bind (news_same (i64_of h6) (i64_of h7)) ?_
  simp only [if_true, e4, Option.bind_some]
  refine Ev.bind (parses_same u (by omega)) ?_
  simp only [if_true]
  refine Ev.bind (rText_eq r1) ?_
  have hsz : (TB N D).size < 4611686014132420609 := by
    obtain ⟨tt, _, l2⟩ := rText_tells r1
    have q1 := r1.n1; have q2 := r1.n2; have q3 := r1.d1; have q4 := r1.d2
    unfold TB
    split
    · rw [ByteArray.size_append]
      have := TP_size (n := -N) (d := D) (by omega) (by omega) q4
      have hz : (⟨#[45]⟩ : ByteArray).size = 1 := rfl
      omega
    · have := TP_size (n := N) (d := D) (by omega) (by omega) q4
      omega
  refine Ev.bind (parses_same (TB N D) hsz) ?_
  simp only [if_true]
  exact Ev.bind known1 (Ev.now _)

end Go.Proofs.Ytbkldplhaeaphaa.Pure

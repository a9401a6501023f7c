/- FoldTells: what the two packages tell of any numbers and folds is the same. No condition beyond the statement. -/
import Derived.Test.YtgaikcpmnepegaaPFoldTellsx10
namespace Go.Proofs.Ytgaikcpmnepegaa.Pure
open Go.RowKit Go.Proofs.Ytgaikcpmnepegaa.PFoldTells Go.Proofs.YtgaikcpmnepegaaW.PrintWords Go.Proofs.YtgaikcpmnepegaaW.PrintLast
set_option linter.unusedVariables false
set_option linter.unusedSimpArgs false

theorem evEq {α : Type} {f g : Nat → Option α} {r : α} (hf : ∀ k, f k = g k) (h : Ev g r) : Ev f r := by rw [funext hf]; exact h
theorem i64_of {a : Int} (h : (Lit.int .i64 a).wf = true) : -9223372036854775808 ≤ a ∧ a ≤ 9223372036854775807 := by
  have h1 : IntKind.i64.min = -9223372036854775808 := rfl
  have h2 : IntKind.i64.max = 9223372036854775807 := rfl
  simp only [Lit.wf, Bool.and_eq_true, decide_eq_true_eq] at h
  omega
/-! ### rationals: New, Right -/
def Pure_ofQ (q : Rat) : Int × Int × Int := if q.num.natAbs > 2147483647 ∨ q.den > 2147483647 then (0, 0, 23) else (q.num, (q.den : Int), 0)
def newQ (n d : Int) : Int × Int × Int := if d = 0 then (0, 0, 1) else Pure_ofQ (Rat.divInt n d)
def I64 (n : Int) : Prop := -9223372036854775808 ≤ n ∧ n ≤ 9223372036854775807
theorem wrapU {x : Int} (h0 : 0 ≤ x) (h1 : x < 18446744073709551616) : IntKind.u64.wrap x = x := by
  have : IntKind.u64.wrap x = x % 18446744073709551616 := by simp [IntKind.wrap, IntKind.bits, IntKind.signed]
  rw [this]; exact Int.emod_eq_of_lt h0 h1
theorem wrapU_eq (x : Int) : IntKind.u64.wrap x = x % 18446744073709551616 := by simp [IntKind.wrap, IntKind.bits, IntKind.signed]
theorem wrap64_id {x : Int} (h : I64 x) : wrap64 x = x := by unfold I64 at h; unfold wrap64; omega
theorem size_tells {n : Int} (h : I64 n) : rat_size.f n = some (n.natAbs : Int) := by
  unfold I64 at h
  unfold rat_size.f
  by_cases hn : n < 0
  · rw [if_pos hn, wrapU_eq, wrapU_eq]
    congr 1
    omega
  · rw [if_neg hn, wrapU_eq]
    congr 1
    omega
theorem common_tells (b : Nat) : ∀ (a k : Nat), b < k → rat_common.l0 k (a : Int) (b : Int) = some ((Nat.gcd a b : Nat) : Int) := by
  induction b using Nat.strongRecOn with
  | _ b ih =>
    intro a k hk
    obtain ⟨k, rfl⟩ : ∃ m, k = m + 1 := ⟨k - 1, by omega⟩
    simp only [rat_common.l0]
    by_cases hb : b = 0
    · subst hb
      rw [if_neg (by omega), Nat.gcd_zero_right]
    · rw [if_pos (by omega), if_neg (by omega)]
      have e : Int.tmod (a : Int) (b : Int) = ((a % b : Nat) : Int) := by rw [Int.ofNat_tmod]
      have hl : a % b < b := Nat.mod_lt _ (by omega)
      rw [e, ih (a % b) hl b k (by omega), Nat.gcd_comm a b, Nat.gcd_rec b a, Nat.gcd_comm]
theorem new_parts (n d : Int) (hd : d ≠ 0) : (Rat.divInt n d).den = d.natAbs / Nat.gcd n.natAbs d.natAbs ∧ (Rat.divInt n d).num.natAbs = n.natAbs / Nat.gcd n.natAbs d.natAbs ∧
    (if (decide (n < 0)) != (decide (d < 0)) then (Rat.divInt n d).num = -((n.natAbs / Nat.gcd n.natAbs d.natAbs : Nat) : Int) else (Rat.divInt n d).num = ((n.natAbs / Nat.gcd n.natAbs d.natAbs : Nat) : Int)) := by
  have hg : Int.gcd d n = Nat.gcd n.natAbs d.natAbs := by unfold Int.gcd; exact Nat.gcd_comm _ _
  have hpos : 0 < Nat.gcd n.natAbs d.natAbs := Nat.gcd_pos_of_pos_right _ (by omega)
  refine ⟨by rw [Rat.den_divInt, if_neg hd, hg], ?_⟩
  rw [Rat.num_divInt, hg]
  obtain ⟨c, hc⟩ : ∃ c : Int, n = (Nat.gcd n.natAbs d.natAbs : Int) * c := by
    have : ((Nat.gcd n.natAbs d.natAbs : Nat) : Int) ∣ n := Int.natAbs_dvd_natAbs.1 (by rw [Int.natAbs_natCast]; exact Nat.gcd_dvd_left _ _)
    exact this
  generalize Nat.gcd n.natAbs d.natAbs = g at *
  have hA : n.natAbs / g = c.natAbs := by
    rw [hc, Int.natAbs_mul, Int.natAbs_natCast]
    exact Nat.mul_div_cancel_left _ hpos
  have hnc : (n < 0 ↔ c < 0) := by
    have hg0 : (0 : Int) < (g : Int) := by omega
    constructor
    · intro h
      by_cases h' : c < 0
      · exact h'
      · have := Int.mul_nonneg (Int.le_of_lt hg0) (Int.not_lt.1 h'); omega
    · intro h
      have := Int.mul_neg_of_pos_of_neg hg0 h; omega
  rw [hA]
  have hq : d.sign * n / (g : Int) = d.sign * c := by
    rw [hc, ← Int.mul_assoc, Int.mul_comm d.sign, Int.mul_assoc]
    exact Int.mul_ediv_cancel_left _ (by omega)
  rw [hq]
  rcases Int.lt_trichotomy d 0 with h | h | h
  · rw [Int.sign_eq_neg_one_of_neg h]
    have h1 : decide (d < 0) = true := decide_eq_true h
    rw [h1]
    by_cases hn : n < 0
    · have h2 := hnc.1 hn
      rw [decide_eq_true hn]
      simp only [bne_self_eq_false, Bool.false_eq_true, if_false]
      omega
    · have h2 : ¬ c < 0 := fun h => hn (hnc.2 h)
      rw [decide_eq_false hn]
      simp only [Bool.bne_true, Bool.not_false, if_true]
      omega
  · exact absurd h hd
  · rw [Int.sign_eq_one_of_pos h]
    have h1 : decide (d < 0) = false := decide_eq_false (by omega)
    rw [h1]
    by_cases hn : n < 0
    · have h2 := hnc.1 hn
      rw [decide_eq_true hn]
      simp only [Bool.bne_false, if_true]
      omega
    · have h2 : ¬ c < 0 := fun h => hn (hnc.2 h)
      rw [decide_eq_false hn]
      simp only [bne_self_eq_false, Bool.false_eq_true, if_false]
      omega
theorem new_at (n d : Int) (hn : I64 n) (hd : I64 d) (k : Nat) (hk : d.natAbs + 2 < k) : rat_New.f k n d = some (newQ n d) := by
  unfold rat_New.f newQ
  by_cases h0 : d = 0
  · rw [if_pos h0, if_pos h0]
  rw [if_neg h0, if_neg h0, size_tells hn, size_tells hd]
  simp only [Option.bind_some]
  unfold rat_common.f
  rw [common_tells d.natAbs n.natAbs k (by omega)]
  simp only [Option.bind_some]
  obtain ⟨e1, e2, e3⟩ := new_parts n d h0
  have hpos : 0 < Nat.gcd n.natAbs d.natAbs := Nat.gcd_pos_of_pos_right _ (by omega)
  generalize Nat.gcd n.natAbs d.natAbs = g at *
  have t1 : IntKind.u64.wrap (Int.tdiv (n.natAbs : Int) (g : Int)) = ((n.natAbs / g : Nat) : Int) := by
    rw [← Int.ofNat_tdiv]
    have := Nat.div_le_self n.natAbs g
    unfold I64 at hn
    exact wrapU (by omega) (by omega)
  have t2 : IntKind.u64.wrap (Int.tdiv (d.natAbs : Int) (g : Int)) = ((d.natAbs / g : Nat) : Int) := by
    rw [← Int.ofNat_tdiv]
    have := Nat.div_le_self d.natAbs g
    unfold I64 at hd
    exact wrapU (by omega) (by omega)
  rw [t1, t2, if_neg (by omega)]
  unfold Pure_ofQ
  rw [e1, e2]
  generalize n.natAbs / g = A at *
  generalize d.natAbs / g = B at *
  obtain ⟨k, rfl⟩ : ∃ m, k = m + 1 := ⟨k - 1, by omega⟩
  by_cases hA : (A : Int) > 2147483647
  · rw [if_pos hA, if_pos (Or.inl (by omega))]
    simp only [rat_New.j0, if_true]
  · rw [if_neg hA]
    by_cases hB : (B : Int) > 2147483647
    · rw [decide_eq_true hB, if_pos (Or.inr (by omega))]
      simp only [rat_New.j0, if_true]
    · rw [decide_eq_false hB, if_neg (by omega)]
      simp only [rat_New.j0, Bool.false_eq_true, if_false]
      have w1 : wrap64 (A : Int) = (A : Int) := wrap64_id (by unfold I64; omega)
      have w2 : wrap64 (B : Int) = (B : Int) := wrap64_id (by unfold I64; omega)
      have w3 : wrap64 (-(A : Int)) = -(A : Int) := wrap64_id (by unfold I64; omega)
      rw [w1, w2, w3]
      by_cases hs : ((decide (n < 0)) != (decide (d < 0))) = true
      · rw [if_pos hs] at e3 ⊢
        rw [e3]
      · rw [if_neg hs] at e3 ⊢
        rw [e3]
theorem new_tells {n d : Int} (hn : I64 n) (hd : I64 d) : Ev (fun k => rat_New.f k n d) (newQ n d) := ⟨d.natAbs + 3, fun k hk => new_at n d hn hd k (by omega)⟩
/-- A number that is right: in lowest terms, within the bounds. -/
structure Rt (n d : Int) : Prop where
  n1 : -2147483647 ≤ n
  n2 : n ≤ 2147483647
  d1 : 1 ≤ d
  d2 : d ≤ 2147483647
  num : (Rat.divInt n d).num = n
  den : ((Rat.divInt n d).den : Int) = d
def rightQ (n d : Int) : Bool := decide (d > 0) && decide (newQ n d = (n, d, 0))
theorem Rt.right {n d : Int} (h : Rt n d) : rightQ n d = true := by
  unfold rightQ newQ Pure_ofQ
  have h1 := h.n1
  have h2 := h.n2
  have h3 := h.d1
  have h4 := h.d2
  have h5 := h.num
  have h6 := h.den
  rw [if_neg (by omega), if_neg (by omega), h5, h6]
  simp only [decide_true, Bool.and_true, decide_eq_true_eq]
  omega
theorem Rt.of_right {n d : Int} (h : rightQ n d = true) : Rt n d := by
  unfold rightQ newQ Pure_ofQ at h
  rw [Bool.and_eq_true, decide_eq_true_eq, decide_eq_true_eq] at h
  obtain ⟨hd, h⟩ := h
  rw [if_neg (by omega)] at h
  by_cases hb : (Rat.divInt n d).num.natAbs > 2147483647 ∨ (Rat.divInt n d).den > 2147483647
  · rw [if_pos hb] at h
    simp only [Prod.mk.injEq] at h
    omega
  · rw [if_neg hb] at h
    simp only [Prod.mk.injEq, and_true] at h
    obtain ⟨h1, h2⟩ := h
    exact ⟨by omega, by omega, by omega, by omega, h1, h2⟩
theorem right_tells {n d : Int} (hn : I64 n) (hd : I64 d) : Ev (fun k => rat_Right.f k n d) (rightQ n d) := by
  refine Ev.bind (new_tells hn hd) ?_
  unfold rightQ
  by_cases h0 : d > 0
  · simp only [if_pos h0, decide_eq_true h0, Bool.true_and]
    obtain ⟨a, b, c⟩ := newQ n d
    simp only [Prod.mk.injEq]
    by_cases hc : c = 0
    · simp only [if_pos hc]
      refine ⟨0, fun _ _ => ?_⟩
      show some _ = some _
      congr 1
      rw [Bool.eq_iff_iff]
      simp [hc]
    · simp only [if_neg hc]
      refine ⟨0, fun _ _ => ?_⟩
      show some _ = some _
      congr 1
      simp [hc]
  · simp only [if_neg h0, decide_eq_false h0, Bool.false_and]
    exact Ev.now _
theorem Rt.i64n {n d : Int} (h : Rt n d) : I64 n := ⟨by have := h.n1; omega, by have := h.n2; omega⟩
theorem Rt.i64d {n d : Int} (h : Rt n d) : I64 d := ⟨by have := h.d1; omega, by have := h.d2; omega⟩
theorem Rt.ofQ {q : Rat} {n d : Int} (h : Pure_ofQ q = (n, d, 0)) : Rt n d ∧ Rat.divInt n d = q := by
  unfold Pure_ofQ at h
  by_cases hb : q.num.natAbs > 2147483647 ∨ q.den > 2147483647
  · rw [if_pos hb] at h; simp at h
  · rw [if_neg hb] at h
    simp only [Prod.mk.injEq, and_true] at h
    obtain ⟨rfl, rfl⟩ := h
    have e := Rat.num_divInt_den q
    have hd := q.den_pos
    exact ⟨⟨by omega, by omega, by omega, by omega, by rw [e], by rw [e]⟩, e⟩
theorem Rt.same {a b c d : Int} (h : Rt a b) (k : Rt c d) (e : Rat.divInt a b = Rat.divInt c d) : a = c ∧ b = d := by
  have h1 := h.num; have h2 := h.den; have k1 := k.num; have k2 := k.den
  rw [e] at h1 h2
  omega
theorem mulM {x y : Int} (hx : -2147483647 ≤ x ∧ x ≤ 2147483647) (hy : -2147483647 ≤ y ∧ y ≤ 2147483647) : -4611686014132420609 ≤ x * y ∧ x * y ≤ 4611686014132420609 := by
  have h := Nat.mul_le_mul (show x.natAbs ≤ 2147483647 by omega) (show y.natAbs ≤ 2147483647 by omega)
  rw [← Int.natAbs_mul] at h
  omega
/-! ### marigraphkeep.Rat: a right number, small -/
theorem within_ev {n lo hi : Int} (h1 : 0 ≤ lo + 1000) (h2 : lo ≤ hi) (h3 : hi < 2000000) (h4 : -1000 ≤ lo) (hn : I64 n) : ∃ r, Ev (fun k => marigraphbook_Within.f k n lo hi) r ∧ lo ≤ r ∧ r ≤ hi ∧ (lo ≤ n → n ≤ hi → r = n) := by
  unfold I64 at hn
  have e1 : wrap64 (wrap64 (hi - lo) + 1) = hi - lo + 1 := by unfold wrap64; omega
  have hj : ∀ b : Bool, (b = true ↔ (lo ≤ n ∧ n ≤ hi)) → ∃ r, (∀ k, marigraphbook_Within.j0 (k + 1) n lo hi b = some r) ∧ lo ≤ r ∧ r ≤ hi ∧ (lo ≤ n → n ≤ hi → r = n) := by
    intro b hb
    simp only [marigraphbook_Within.j0, e1]
    cases b with
    | true =>
      have := hb.1 rfl
      exact ⟨n, fun _ => by rw [if_pos rfl], this.1, this.2, fun _ _ => rfl⟩
    | false =>
      have hno : ¬ (lo ≤ n ∧ n ≤ hi) := fun h => by have := hb.2 h; cases this
      simp only [Bool.false_eq_true, if_false]
      rw [if_neg (by omega)]
      have hm : (0 : Int) < hi - lo + 1 := by omega
      have t1 : Int.tmod n (hi - lo + 1) < hi - lo + 1 := Int.tmod_lt_of_pos _ hm
      have t2 : -(hi - lo + 1) < Int.tmod n (hi - lo + 1) := by
        have := Int.tmod_lt_of_pos (-n) hm
        rw [Int.neg_tmod] at this
        omega
      generalize Int.tmod n (hi - lo + 1) = t at *
      by_cases ht : t < 0
      · rw [if_pos ht]
        have e : wrap64 (lo + wrap64 (wrap64 (wrap64 (t + hi) - lo) + 1)) = t + hi + 1 := by unfold wrap64; omega
        rw [e]
        exact ⟨_, fun _ => rfl, by omega, by omega, fun a b => absurd ⟨a, b⟩ hno⟩
      · rw [if_neg ht]
        have e : wrap64 (lo + t) = lo + t := by unfold wrap64; omega
        rw [e]
        exact ⟨_, fun _ => rfl, by omega, by omega, fun a b => absurd ⟨a, b⟩ hno⟩
  have fin : ∀ b : Bool, (∀ k, marigraphbook_Within.f k n lo hi = marigraphbook_Within.j0 k n lo hi b) → (b = true ↔ (lo ≤ n ∧ n ≤ hi)) → ∃ r, Ev (fun k => marigraphbook_Within.f k n lo hi) r ∧ lo ≤ r ∧ r ≤ hi ∧ (lo ≤ n → n ≤ hi → r = n) := by
    intro b hf hb
    obtain ⟨r, h, hr⟩ := hj b hb
    refine ⟨r, ⟨1, fun k hk => ?_⟩, hr⟩
    obtain ⟨k, rfl⟩ : ∃ m, k = m + 1 := ⟨k - 1, by omega⟩
    show marigraphbook_Within.f (k + 1) n lo hi = some r
    rw [hf]
    exact h k
  by_cases hlo : n ≥ lo
  · refine fin (decide (n ≤ hi)) (fun k => by unfold marigraphbook_Within.f; rw [if_pos hlo]) ?_
    rw [decide_eq_true_iff]
    exact ⟨fun h => ⟨hlo, h⟩, fun h => h.2⟩
  · refine fin false (fun k => by unfold marigraphbook_Within.f; rw [if_neg hlo]) ?_
    constructor
    · intro h; cases h
    · intro h; omega
def NoDiv (a b j : Int) : Prop := ∀ i : Int, 2 ≤ i → i < j → ¬ (i ∣ a ∧ i ∣ b)
theorem keep_loops (K : Nat) : (∀ (a b j : Int), 1 ≤ b → b ≤ 12 → -60 ≤ a → a ≤ 60 → 2 ≤ j → j ≤ 13 → 3 * b + 2 * (14 - j) + 1 ≤ K → NoDiv a b j → ∃ N D, marigraphkeep_Rat.l0 K a b j = some (N, D) ∧ 1 ≤ D ∧ D ≤ 12 ∧ -60 ≤ N ∧ N ≤ 60 ∧ NoDiv N D (D + 1)) ∧
    (∀ (a b j : Int), 1 ≤ b → b ≤ 12 → -60 ≤ a → a ≤ 60 → 2 ≤ j → j ≤ b → 3 * b + 2 * (14 - j) ≤ K → NoDiv a b j → ∃ N D, marigraphkeep_Rat.l1 K a b j = some (N, D) ∧ 1 ≤ D ∧ D ≤ 12 ∧ -60 ≤ N ∧ N ≤ 60 ∧ NoDiv N D (D + 1)) := by
  induction K with
  | zero => exact ⟨fun a b j h1 h2 h3 h4 h5 h6 hK => by omega, fun a b j h1 h2 h3 h4 h5 h6 hK => by omega⟩
  | succ K ih =>
    refine ⟨fun a b j h1 h2 h3 h4 h5 h6 hK hno => ?_, fun a b j h1 h2 h3 h4 h5 h6 hK hno => ?_⟩
    · simp only [marigraphkeep_Rat.l0]
      by_cases hj : j ≤ b
      · rw [if_pos hj]
        exact ih.2 a b j h1 h2 h3 h4 h5 hj (by omega) hno
      · rw [if_neg hj]
        exact ⟨a, b, rfl, h1, h2, h3, h4, fun i hi1 hi2 => hno i hi1 (by omega)⟩
    · simp only [marigraphkeep_Rat.l1]
      rw [if_neg (by omega)]
      have wj : wrap64 (j + 1) = j + 1 := wrap64_id ⟨by omega, by omega⟩
      have next : (¬ (j ∣ a ∧ j ∣ b)) → ∃ N D, marigraphkeep_Rat.l0 K a b (wrap64 (j + 1)) = some (N, D) ∧ 1 ≤ D ∧ D ≤ 12 ∧ -60 ≤ N ∧ N ≤ 60 ∧ NoDiv N D (D + 1) := by
        intro hnd
        rw [wj]
        refine ih.1 a b (j + 1) h1 h2 h3 h4 (by omega) (by omega) (by omega) (fun i hi1 hi2 hd => ?_)
        by_cases hij : i < j
        · exact hno i hi1 hij hd
        · obtain rfl : i = j := by omega
          exact hnd hd
      by_cases ha : Int.tmod a j = 0
      · rw [if_pos ha]
        have da : j ∣ a := Int.dvd_of_tmod_eq_zero ha
        by_cases hb : Int.tmod b j = 0
        · rw [if_pos hb]
          have db : j ∣ b := Int.dvd_of_tmod_eq_zero hb
          obtain ⟨x, rfl⟩ := da
          obtain ⟨y, rfl⟩ := db
          have ex : Int.tdiv (j * x) j = x := Int.mul_tdiv_cancel_left _ (by omega)
          have ey : Int.tdiv (j * y) j = y := Int.mul_tdiv_cancel_left _ (by omega)
          have y1 : 1 ≤ y := by
            by_cases hy : y ≤ 0
            · have := Int.mul_nonneg_of_nonpos_of_nonpos (show -j ≤ 0 by omega) hy
              rw [Int.neg_mul] at this
              omega
            · omega
          have y2 : 2 * y ≤ j * y := Int.mul_le_mul_of_nonneg_right h5 (by omega)
          have x1 : x.natAbs ≤ (j * x).natAbs := by
            rw [Int.natAbs_mul]
            exact Nat.le_mul_of_pos_left _ (by omega)
          rw [ex, ey, wrap64_id (show I64 x from ⟨by omega, by omega⟩), wrap64_id (show I64 y from ⟨by omega, by omega⟩)]
          have hno' : NoDiv x y j := fun i hi1 hi2 hd => hno i hi1 hi2 ⟨Int.dvd_trans hd.1 (Int.dvd_mul_left _ _), Int.dvd_trans hd.2 (Int.dvd_mul_left _ _)⟩
          by_cases hjy : j ≤ y
          · exact ih.2 x y j (by omega) (by omega) (by omega) (by omega) h5 hjy (by omega) hno'
          · obtain ⟨K', rfl⟩ : ∃ m, K = m + 1 := ⟨K - 1, by omega⟩
            simp only [marigraphkeep_Rat.l1]
            rw [if_neg (by omega)]
            have wj' : wrap64 (j + 1) = j + 1 := wj
            have stop : ∀ k' : Nat, 0 < k' → ∀ j' : Int, j ≤ j' → ∃ N D, marigraphkeep_Rat.l0 k' x y j' = some (N, D) ∧ 1 ≤ D ∧ D ≤ 12 ∧ -60 ≤ N ∧ N ≤ 60 ∧ NoDiv N D (D + 1) := by
              intro k' hk' j' hj'
              obtain ⟨k', rfl⟩ : ∃ m, k' = m + 1 := ⟨k' - 1, by omega⟩
              simp only [marigraphkeep_Rat.l0]
              rw [if_neg (by omega)]
              exact ⟨x, y, rfl, by omega, by omega, by omega, by omega, fun i hi1 hi2 => hno' i hi1 (by omega)⟩
            have hty : ¬ Int.tmod y j = 0 := by
              rw [Int.tmod_eq_of_lt (by omega) (by omega)]
              omega
            rw [wj', if_neg hty]
            by_cases hx : Int.tmod x j = 0
            · rw [if_pos hx]; exact stop K' (by omega) _ (by omega)
            · rw [if_neg hx]; exact stop K' (by omega) _ (by omega)
        · rw [if_neg hb]
          exact next (fun h => hb (Int.tmod_eq_zero_of_dvd h.2))
      · rw [if_neg ha]
        exact next (fun h => ha (Int.tmod_eq_zero_of_dvd h.1))
theorem rt_of_nodiv {N D : Int} (h1 : 1 ≤ D) (h2 : D ≤ 12) (h3 : -60 ≤ N) (h4 : N ≤ 60) (hno : NoDiv N D (D + 1)) : Rt N D := by
  have hg : Nat.gcd N.natAbs D.natAbs = 1 := by
    have hpos : 0 < Nat.gcd N.natAbs D.natAbs := Nat.gcd_pos_of_pos_right _ (by omega)
    have hle : Nat.gcd N.natAbs D.natAbs ≤ D.natAbs := Nat.le_of_dvd (by omega) (Nat.gcd_dvd_right _ _)
    by_cases h : Nat.gcd N.natAbs D.natAbs = 1
    · exact h
    · refine absurd ⟨?_, ?_⟩ (hno (Nat.gcd N.natAbs D.natAbs : Nat) (by omega) (by omega))
      · exact Int.natAbs_dvd_natAbs.1 (by rw [Int.natAbs_natCast]; exact Nat.gcd_dvd_left _ _)
      · exact Int.natAbs_dvd_natAbs.1 (by rw [Int.natAbs_natCast]; exact Nat.gcd_dvd_right _ _)
  obtain ⟨e1, _, e3⟩ := new_parts N D (by omega)
  rw [hg, Nat.div_one] at e1 e3
  rw [decide_eq_false (show ¬ D < 0 by omega)] at e3
  refine ⟨by omega, by omega, by omega, by omega, ?_, by omega⟩
  by_cases hn : N < 0
  · rw [decide_eq_true hn] at e3
    simp only [Bool.bne_false, if_true] at e3
    omega
  · rw [decide_eq_false hn] at e3
    simp only [bne_self_eq_false, Bool.false_eq_true, if_false] at e3
    omega
theorem keep_tells {x y : Int} (hx : I64 x) (hy : I64 y) : ∃ N D, Ev (fun k => marigraphkeep_Rat.f k x y) (N, D) ∧ Rt N D ∧ -60 ≤ N ∧ N ≤ 60 ∧ 1 ≤ D ∧ D ≤ 12 := by
  obtain ⟨a, ha, a1, a2, _⟩ := within_ev (lo := -60) (hi := 60) (by omega) (by omega) (by omega) (by omega) hx
  obtain ⟨b, hb, b1, b2, _⟩ := within_ev (lo := 1) (hi := 12) (by omega) (by omega) (by omega) (by omega) hy
  have hl : ∀ K : Nat, 100 ≤ K → ∃ N D, marigraphkeep_Rat.l0 K a b 2 = some (N, D) ∧ 1 ≤ D ∧ D ≤ 12 ∧ -60 ≤ N ∧ N ≤ 60 ∧ NoDiv N D (D + 1) :=
    fun K hK => (keep_loops K).1 a b 2 b1 b2 a1 a2 (by omega) (by omega) (by omega) (fun i h1 h2 => by omega)
  obtain ⟨N, D, h0, d1, d2, n1, n2, hno⟩ := hl 100 (by omega)
  refine ⟨N, D, ?_, rt_of_nodiv d1 d2 n1 n2 hno, n1, n2, d1, d2⟩
  refine Ev.bind ha (Ev.bind hb ?_)
  exact Ev.of (fun k => marigraphkeep_Rat.mono_l k |>.1 _ _ _) h0
/-! ### Cmp, Add, Sub, Mul, Div of right numbers -/
def VQ (n d : Int) : Rat := Rat.divInt n d
theorem ratlt {n d m e : Int} (h : Rt n d) (k : Rt m e) : n * e < m * d ↔ VQ n d < VQ m e := by
  rw [Rat.lt_iff]
  unfold VQ
  rw [h.num, h.den, k.num, k.den]
theorem rateq {n d m e : Int} (h : Rt n d) (k : Rt m e) : (n = m ∧ d = e) ↔ VQ n d = VQ m e := ⟨fun he => by rw [he.1, he.2], fun he => h.same k he⟩
def cmpQ (a b : Rat) : Int := if a < b then -1 else if a = b then 0 else 1
theorem prodw {x y : Int} (hx : -2147483647 ≤ x ∧ x ≤ 2147483647) (hy : -2147483647 ≤ y ∧ y ≤ 2147483647) : wrap64 (x * y) = x * y := by
  have := mulM hx hy
  exact wrap64_id ⟨by omega, by omega⟩
theorem exactQ {f : Nat → Option (Int × Int × Int)} {n d : Int} {q : Rat} (hn : I64 n) (hd : I64 d) (h0 : d ≠ 0) (hq : Rat.divInt n d = q) (hf : ∀ k, f (k + 1) = (rat_New.f k n d).bind fun t => some (t.1, t.2.1, t.2.2)) : Ev f (Pure_ofQ q) := by
  refine Ev.step hf ?_
  have h := new_tells hn hd
  have e : newQ n d = Pure_ofQ q := by unfold newQ; rw [if_neg h0, hq]
  rw [e] at h
  exact Ev.bind h (Ev.now _)
theorem cmp_tells {n d m e : Int} (h : Rt n d) (k : Rt m e) : Ev (fun K => rat_Cmp.f K n d m e) (cmpQ (VQ n d) (VQ m e)) := by
  have r1 := right_tells h.i64n h.i64d
  have r2 := right_tells k.i64n k.i64d
  rw [h.right] at r1
  rw [k.right] at r2
  refine Ev.bind r1 (Ev.bind r2 ?_)
  simp only [if_true, Bool.not_true]
  refine ⟨1, fun K hK => ?_⟩
  obtain ⟨K, rfl⟩ : ∃ m, K = m + 1 := ⟨K - 1, by omega⟩
  simp only [rat_Cmp.j0, Bool.false_eq_true, if_false, if_true]
  have h1 := h.n1; have h2 := h.n2; have h3 := h.d1; have h4 := h.d2
  have k1 := k.n1; have k2 := k.n2; have k3 := k.d1; have k4 := k.d2
  rw [prodw (x := n) (y := e) ⟨by omega, by omega⟩ ⟨by omega, by omega⟩, prodw (x := m) (y := d) ⟨by omega, by omega⟩ ⟨by omega, by omega⟩]
  unfold cmpQ
  by_cases hlt : n * e < m * d
  · rw [if_pos hlt, if_pos ((ratlt h k).1 hlt)]
  · rw [if_neg hlt, if_neg (fun hh => hlt ((ratlt h k).2 hh))]
    by_cases he : VQ n d = VQ m e
    · obtain ⟨e1, e2⟩ := (rateq h k).2 he
      rw [if_pos (by rw [e1, e2]; simp), if_pos he]
    · rw [if_neg (fun hh => he ((rateq h k).1 (by simpa using hh))), if_neg he]
theorem Add_tells {n d m e : Int} (h : Rt n d) (k : Rt m e) : Ev (fun K => rat_Add.f K n d m e) (Pure_ofQ (VQ n d + VQ m e)) := by
  have r1 := right_tells h.i64n h.i64d
  have r2 := right_tells k.i64n k.i64d
  rw [h.right] at r1
  rw [k.right] at r2
  have h1 := h.n1; have h2 := h.n2; have h3 := h.d1; have h4 := h.d2
  have k1 := k.n1; have k2 := k.n2; have k3 := k.d1; have k4 := k.d2
  have hd0 : d ≠ 0 := by omega
  have he0 : e ≠ 0 := by omega
  have p1 := mulM (x := n) (y := e) ⟨by omega, by omega⟩ ⟨by omega, by omega⟩
  have p2 := mulM (x := m) (y := d) ⟨by omega, by omega⟩ ⟨by omega, by omega⟩
  have p3 := mulM (x := d) (y := e) ⟨by omega, by omega⟩ ⟨by omega, by omega⟩
  have p4 := mulM (x := n) (y := m) ⟨by omega, by omega⟩ ⟨by omega, by omega⟩
  have hde : d * e ≠ 0 := Int.mul_ne_zero hd0 he0
  refine Ev.bind (g := fun K => rat_exact_of_rat_Add_1_rat_both.f K n d m e) (a := Pure_ofQ (VQ n d + VQ m e)) (f := fun _ b => some (b.1, b.2.1, b.2.2)) (Ev.bind r1 ?_) (Ev.now _)
  simp only [if_true]
  refine Ev.bind r2 ?_
  refine exactQ (n := n * e + m * d) (d := d * e) ⟨by omega, by omega⟩ ⟨by omega, by omega⟩ hde ?_ (fun K => ?_)
  · exact (Rat.divInt_add_divInt _ _ hd0 he0).symm
  · simp only [rat_exact_of_rat_Add_1_rat_both.j0, rat_Add_1.f, rat_both.f, Bool.not_true, Bool.false_eq_true, if_false, Option.bind_some]
    rw [wrap64_id (x := d * e) ⟨by omega, by omega⟩]
    rw [wrap64_id (x := n * e) ⟨by omega, by omega⟩, wrap64_id (x := m * d) ⟨by omega, by omega⟩, wrap64_id (x := n * e + m * d) ⟨by omega, by omega⟩]
theorem Div_tells {n d m e : Int} (h : Rt n d) (k : Rt m e) : Ev (fun K => rat_Div.f K n d m e) (newQ (n * e) (d * m)) := by
  have r1 := right_tells h.i64n h.i64d
  have r2 := right_tells k.i64n k.i64d
  rw [h.right] at r1
  rw [k.right] at r2
  have h1 := h.n1; have h2 := h.n2; have h3 := h.d1; have h4 := h.d2
  have k1 := k.n1; have k2 := k.n2; have k3 := k.d1; have k4 := k.d2
  have p1 := mulM (x := n) (y := e) ⟨by omega, by omega⟩ ⟨by omega, by omega⟩
  have p2 := mulM (x := d) (y := m) ⟨by omega, by omega⟩ ⟨by omega, by omega⟩
  refine Ev.bind (g := fun K => rat_exact_of_rat_Div_1_rat_Div_2.f K n d m e) (a := newQ (n * e) (d * m)) (f := fun _ b => some (b.1, b.2.1, b.2.2)) (Ev.bind r1 ?_) (Ev.now _)
  simp only [if_true]
  refine Ev.bind r2 ?_
  refine Ev.step (f := fun K => (rat_New.f K (n * e) (d * m)).bind fun t => some (t.1, t.2.1, t.2.2)) (fun K => ?_) (Ev.bind (new_tells ⟨by omega, by omega⟩ ⟨by omega, by omega⟩) (Ev.now _))
  simp only [rat_exact_of_rat_Div_1_rat_Div_2.j0, rat_Div_1.f, rat_Div_2.f, Bool.not_true, Bool.false_eq_true, if_false, Option.bind_some]
  rw [wrap64_id (x := n * e) ⟨by omega, by omega⟩, wrap64_id (x := d * m) ⟨by omega, by omega⟩]
theorem rt_one {n : Int} (h1 : -2147483647 ≤ n) (h2 : n ≤ 2147483647) : Rt n 1 := by
  obtain ⟨e1, e2, e3⟩ := new_parts n 1 (by decide)
  simp only [Int.natAbs_one, Nat.gcd_one_right, Nat.div_one] at e1 e2 e3
  refine ⟨h1, h2, by decide, by decide, ?_, by rw [e1]; rfl⟩
  by_cases hn : n < 0
  · simp [hn] at e3; omega
  · simp [hn] at e3; omega
theorem of_tells {n : Int} (h1 : -2147483647 ≤ n) (h2 : n ≤ 2147483647) : Ev (fun k => rat_Of.f k n) (n, 1, 0) := by
  have h := new_tells (n := n) (d := 1) ⟨by omega, by omega⟩ ⟨by decide, by decide⟩
  have r := rt_one h1 h2
  have e : newQ n 1 = (n, 1, 0) := by
    unfold newQ Pure_ofQ
    have := r.num; have := r.den
    rw [if_neg (by decide), if_neg (by omega), r.num, r.den]
  rw [e] at h
  exact Ev.bind h (Ev.now _)
/-! ### the document's rationals: New, Right, Op, Cmp tell the same -/
theorem rparts {n : Int} (h : I64 n) : marigraphref1_parts.f n = some (decide (n < 0), (n.natAbs : Int)) := by
  unfold I64 at h
  unfold marigraphref1_parts.f
  by_cases hn : n < 0
  · rw [if_pos hn, decide_eq_true hn, wrapU_eq, wrapU_eq]
    congr 2
    omega
  · rw [if_neg hn, decide_eq_false hn, wrapU_eq]
    congr 2
    omega
def finQ (s t : Bool) (A B : Nat) : Int × Int × Int := if A > 2147483647 ∨ B > 2147483647 then (0, 0, 23) else if (s != t) = true then (-(A : Int), (B : Int), 0) else ((A : Int), (B : Int), 0)
theorem rnew_j1 (s t : Bool) (A B k : Nat) (hA : ¬ A > 2147483647) : marigraphref1_New.j1 (k + 1) s (A : Int) t (B : Int) (decide ((B : Int) > 2147483647)) = some (finQ s t A B) := by
  unfold finQ
  by_cases hB : (B : Int) > 2147483647
  · rw [decide_eq_true hB, if_pos (Or.inr (by omega))]
    simp only [marigraphref1_New.j1, if_true]
  · rw [decide_eq_false hB, if_neg (by omega)]
    simp only [marigraphref1_New.j1, Bool.false_eq_true, if_false]
    have w1 : wrap64 (A : Int) = (A : Int) := wrap64_id (by unfold I64; omega)
    have w2 : wrap64 (B : Int) = (B : Int) := wrap64_id (by unfold I64; omega)
    have w3 : wrap64 (-(A : Int)) = -(A : Int) := wrap64_id (by unfold I64; omega)
    rw [w1, w2, w3]
    by_cases hs : (s != t) = true
    · rw [if_pos hs, if_pos hs]
    · rw [if_neg hs, if_neg hs]
theorem rnew_loop (X Y : Nat) (s t : Bool) (hX : X < 18446744073709551616) (hY : Y < 18446744073709551616) (b : Nat) : ∀ (a k : Nat), 0 < Nat.gcd a b → b + 1 < k →
    marigraphref1_New.l0 k s (X : Int) t (Y : Int) (a : Int) (b : Int) = some (finQ s t (X / Nat.gcd a b) (Y / Nat.gcd a b)) := by
  induction b using Nat.strongRecOn with
  | _ b ih =>
    intro a k hg hk
    obtain ⟨k, rfl⟩ : ∃ m, k = m + 1 := ⟨k - 1, by omega⟩
    simp only [marigraphref1_New.l0]
    by_cases hb : b = 0
    · subst hb
      rw [Nat.gcd_zero_right] at hg ⊢
      rw [if_pos (by omega), if_neg (by omega)]
      have t1 : IntKind.u64.wrap (Int.tdiv (X : Int) (a : Int)) = ((X / a : Nat) : Int) := by
        rw [← Int.ofNat_tdiv]
        have h9 := Nat.div_le_self X a
        generalize X / a = Z at h9
        exact wrapU (by omega) (by omega)
      have t2 : IntKind.u64.wrap (Int.tdiv (Y : Int) (a : Int)) = ((Y / a : Nat) : Int) := by
        rw [← Int.ofNat_tdiv]
        have h9 := Nat.div_le_self Y a
        generalize Y / a = Z at h9
        exact wrapU (by omega) (by omega)
      rw [t1, t2]
      generalize X / a = A
      generalize Y / a = B
      obtain ⟨k, rfl⟩ : ∃ m, k = m + 1 := ⟨k - 1, by omega⟩
      by_cases hA : A > 2147483647
      · rw [if_pos (by omega)]
        unfold finQ
        rw [if_pos (Or.inl hA)]
        simp only [marigraphref1_New.j1, if_true]
      · rw [if_neg (by omega)]
        exact rnew_j1 s t A B k hA
    · rw [if_neg (by omega)]
      have e : Int.tmod (a : Int) (b : Int) = ((a % b : Nat) : Int) := by rw [Int.ofNat_tmod]
      have hl : a % b < b := Nat.mod_lt _ (by omega)
      have hgg : Nat.gcd b (a % b) = Nat.gcd a b := by rw [Nat.gcd_comm a b, Nat.gcd_rec b a, Nat.gcd_comm]
      rw [e, ih (a % b) hl b k (by rw [hgg]; exact hg) (by omega), hgg]
theorem fin_newQ {n d : Int} (h0 : d ≠ 0) : finQ (decide (n < 0)) (decide (d < 0)) (n.natAbs / Nat.gcd n.natAbs d.natAbs) (d.natAbs / Nat.gcd n.natAbs d.natAbs) = newQ n d := by
  obtain ⟨e1, e2, e3⟩ := new_parts n d h0
  unfold finQ newQ Pure_ofQ
  rw [if_neg h0, e1, e2]
  generalize n.natAbs / Nat.gcd n.natAbs d.natAbs = A at *
  generalize d.natAbs / Nat.gcd n.natAbs d.natAbs = B at *
  by_cases hc : A > 2147483647 ∨ B > 2147483647
  · rw [if_pos hc, if_pos hc]
  · rw [if_neg hc, if_neg hc]
    by_cases hs : ((decide (n < 0)) != (decide (d < 0))) = true
    · rw [if_pos hs] at e3 ⊢
      rw [e3]
    · rw [if_neg hs] at e3 ⊢
      rw [e3]
theorem rnew_tells {n d : Int} (hn : I64 n) (hd : I64 d) : Ev (fun k => marigraphref1_New.f k n d) (newQ n d) := by
  refine ⟨d.natAbs + 3, fun k hk => ?_⟩
  show marigraphref1_New.f k n d = _
  unfold marigraphref1_New.f
  by_cases h0 : d = 0
  · rw [if_pos h0]; unfold newQ; rw [if_pos h0]
  rw [if_neg h0, rparts hn, rparts hd]
  simp only [Option.bind_some]
  have hpos : 0 < Nat.gcd n.natAbs d.natAbs := Nat.gcd_pos_of_pos_right _ (by omega)
  have := hn; have := hd
  unfold I64 at *
  rw [rnew_loop n.natAbs d.natAbs _ _ (by omega) (by omega) d.natAbs n.natAbs k hpos (by omega), fin_newQ h0]
theorem rgcd_tells (b : Nat) : ∀ (a k : Nat), b < k → marigraphref1_gcd.l0 k (a : Int) (b : Int) = some ((Nat.gcd a b : Nat) : Int) := by
  induction b using Nat.strongRecOn with
  | _ b ih =>
    intro a k hk
    obtain ⟨k, rfl⟩ : ∃ m, k = m + 1 := ⟨k - 1, by omega⟩
    simp only [marigraphref1_gcd.l0]
    by_cases hb : b = 0
    · subst hb
      rw [if_pos (by omega), Nat.gcd_zero_right]
    · rw [if_neg (by omega)]
      have e : Int.tmod (a : Int) (b : Int) = ((a % b : Nat) : Int) := by rw [Int.ofNat_tmod]
      have hl : a % b < b := Nat.mod_lt _ (by omega)
      rw [e, ih (a % b) hl b k (by omega), Nat.gcd_comm a b, Nat.gcd_rec b a, Nat.gcd_comm]
theorem rightQ_gcd {n d : Int} (h1 : 1 ≤ d) (h2 : d ≤ 2147483647) (h3 : -2147483647 ≤ n) (h4 : n ≤ 2147483647) : rightQ n d = (((Nat.gcd n.natAbs d.natAbs : Nat) : Int) == 1) := by
  have h0 : d ≠ 0 := by omega
  obtain ⟨e1, e2, e3⟩ := new_parts n d h0
  have hpos : 0 < Nat.gcd n.natAbs d.natAbs := Nat.gcd_pos_of_pos_right _ (by omega)
  have hdv : Nat.gcd n.natAbs d.natAbs ∣ d.natAbs := Nat.gcd_dvd_right _ _
  rw [Bool.eq_iff_iff, beq_iff_eq]
  constructor
  · intro h
    have hr := Rt.of_right h
    have hden := hr.den
    rw [e1] at hden
    generalize Nat.gcd n.natAbs d.natAbs = g at *
    obtain ⟨c, hc⟩ := hdv
    rw [hc, Nat.mul_div_cancel_left _ hpos] at hden
    have hcd : c = d.natAbs := by omega
    rw [hcd] at hc
    have : g = 1 := Nat.eq_of_mul_eq_mul_right (show 0 < d.natAbs by omega) (by rw [Nat.one_mul]; exact hc.symm)
    omega
  · intro h
    have hg : Nat.gcd n.natAbs d.natAbs = 1 := by omega
    rw [hg, Nat.div_one] at e1 e3
    refine Rt.right ⟨h3, h4, h1, h2, ?_, by omega⟩
    by_cases hn : n < 0
    · rw [decide_eq_true hn, decide_eq_false (show ¬ d < 0 by omega)] at e3
      simp only [Bool.bne_false, if_true] at e3
      omega
    · rw [decide_eq_false hn, decide_eq_false (show ¬ d < 0 by omega)] at e3
      simp only [bne_self_eq_false, Bool.false_eq_true, if_false] at e3
      omega
theorem rright_tells {n d : Int} (hn : I64 n) (hd : I64 d) : Ev (fun k => marigraphref1_Right.f k n d) (rightQ n d) := by
  have jt : ∀ x y, Ev (fun k => marigraphref1_Right.j0 k true x y) false := fun x y => ⟨1, fun k hk => by
    obtain ⟨k, rfl⟩ : ∃ m, k = m + 1 := ⟨k - 1, by omega⟩
    simp only [marigraphref1_Right.j0, if_true]⟩
  have no : (¬ (1 ≤ d ∧ d ≤ 2147483647 ∧ -2147483647 ≤ n ∧ n ≤ 2147483647)) → rightQ n d = false := by
    intro h
    cases hr : rightQ n d with
    | false => rfl
    | true =>
      have := Rt.of_right hr
      exact absurd ⟨this.d1, this.d2, this.n1, this.n2⟩ h
  have un : ∀ k, marigraphref1_Right.f k n d = if d < 1 then (marigraphref1_Right.j0 k true n d) else (if d > 2147483647 then (marigraphref1_Right.j0 k true n d) else (if n < (-2147483647) then (marigraphref1_Right.j0 k true n d) else (marigraphref1_Right.j0 k (decide (n > 2147483647)) n d))) := fun k => rfl
  refine evEq un ?_
  by_cases h1 : d < 1
  · simp only [if_pos h1]
    rw [no (by omega)]
    exact jt _ _
  simp only [if_neg h1]
  by_cases h2 : d > 2147483647
  · simp only [if_pos h2]
    rw [no (by omega)]
    exact jt _ _
  simp only [if_neg h2]
  by_cases h3 : n < -2147483647
  · simp only [if_pos h3]
    rw [no (by omega)]
    exact jt _ _
  simp only [if_neg h3]
  by_cases h4 : n > 2147483647
  · rw [decide_eq_true h4, no (by omega)]
    exact jt _ _
  rw [decide_eq_false h4, rightQ_gcd (by omega) (by omega) (by omega) (by omega)]
  refine ⟨d.natAbs + 2, fun k hk => ?_⟩
  obtain ⟨k, rfl⟩ : ∃ m, k = m + 1 := ⟨k - 1, by omega⟩
  simp only [marigraphref1_Right.j0, Bool.false_eq_true, if_false]
  have ha : marigraphref1_abs.f n = some (n.natAbs : Int) := by
    unfold marigraphref1_abs.f
    by_cases hn0 : n < 0
    · rw [if_pos hn0, wrap64_id ⟨by omega, by omega⟩]
      congr 1
      omega
    · rw [if_neg hn0]
      congr 1
      omega
  rw [ha]
  simp only [Option.bind_some]
  unfold marigraphref1_gcd.f
  have := rgcd_tells d.natAbs n.natAbs k (by omega)
  rw [show ((d.natAbs : Nat) : Int) = d by omega] at this
  rw [this]
  simp only [Option.bind_some]
/-- What an operation tells of right numbers. -/
theorem rnew_end {f : Nat → Option (Int × Int × Int)} {n d : Int} {q : Int × Int × Int} (hn : I64 n) (hd : I64 d) (hq : newQ n d = q) (hf : ∀ k, f (k + 1) = (marigraphref1_New.f k n d).bind fun t => some (t.1, t.2.1, t.2.2)) : Ev f q := by
  refine Ev.step hf ?_
  have h := rnew_tells hn hd
  rw [hq] at h
  exact Ev.bind h (Ev.now _)
theorem rop_start {c n d m e : Int} {q : Int × Int × Int} (h : Rt n d) (k : Rt m e) (hj : Ev (fun K => marigraphref1_Op.j0 K c (if c = 47 then (m == 0) else false) n d m e) q) : Ev (fun K => marigraphref1_Op.f K c n d m e) q := by
  have r1 := rright_tells h.i64n h.i64d
  have r2 := rright_tells k.i64n k.i64d
  rw [h.right] at r1
  rw [k.right] at r2
  refine Ev.bind r1 ?_
  simp only [if_true]
  refine Ev.bind r2 ?_
  simp only [if_true]
  by_cases hc : c = 47
  · simp only [if_pos hc] at hj ⊢
    exact hj
  · simp only [if_neg hc] at hj ⊢
    exact hj
theorem rAdd_tells {n d m e : Int} (h : Rt n d) (k : Rt m e) : Ev (fun K => marigraphref1_Op.f K 43 n d m e) (Pure_ofQ (VQ n d + VQ m e)) := by
  have h1 := h.n1; have h2 := h.n2; have h3 := h.d1; have h4 := h.d2
  have k1 := k.n1; have k2 := k.n2; have k3 := k.d1; have k4 := k.d2
  have hd0 : d ≠ 0 := by omega
  have he0 : e ≠ 0 := by omega
  have p1 := mulM (x := n) (y := e) ⟨by omega, by omega⟩ ⟨by omega, by omega⟩
  have p2 := mulM (x := m) (y := d) ⟨by omega, by omega⟩ ⟨by omega, by omega⟩
  have p3 := mulM (x := d) (y := e) ⟨by omega, by omega⟩ ⟨by omega, by omega⟩
  have hde : d * e ≠ 0 := Int.mul_ne_zero hd0 he0
  refine rop_start h k (rnew_end (n := n * e + m * d) (d := d * e) ⟨by omega, by omega⟩ ⟨by omega, by omega⟩ ?_ fun K => ?_)
  · unfold newQ
    rw [if_neg hde]
    exact congrArg Pure_ofQ (Rat.divInt_add_divInt _ _ hd0 he0).symm
  · simp only [marigraphref1_Op.j0, if_neg (show ¬ (43 : Int) = 47 by decide), Bool.false_eq_true, if_false, if_true]
    rw [wrap64_id (x := d * e) ⟨by omega, by omega⟩]
    rw [wrap64_id (x := n * e) ⟨by omega, by omega⟩, wrap64_id (x := m * d) ⟨by omega, by omega⟩, wrap64_id (x := n * e + m * d) ⟨by omega, by omega⟩]
theorem rDiv_tells {n d m e : Int} (h : Rt n d) (k : Rt m e) : Ev (fun K => marigraphref1_Op.f K 47 n d m e) (newQ (n * e) (d * m)) := by
  have h1 := h.n1; have h2 := h.n2; have h3 := h.d1; have h4 := h.d2
  have k1 := k.n1; have k2 := k.n2; have k3 := k.d1; have k4 := k.d2
  have hd0 : d ≠ 0 := by omega
  have p1 := mulM (x := n) (y := e) ⟨by omega, by omega⟩ ⟨by omega, by omega⟩
  have p2 := mulM (x := d) (y := m) ⟨by omega, by omega⟩ ⟨by omega, by omega⟩
  refine rop_start h k ?_
  simp only [if_true]
  by_cases hm : m = 0
  · subst hm
    refine ⟨1, fun K hK => ?_⟩
    obtain ⟨K, rfl⟩ : ∃ z, K = z + 1 := ⟨K - 1, by omega⟩
    simp only [marigraphref1_Op.j0, beq_self_eq_true, if_true]
    unfold newQ
    rw [if_pos (by simp)]
  · rw [show (m == 0) = false by simpa using hm]
    refine rnew_end (n := n * e) (d := d * m) ⟨by omega, by omega⟩ ⟨by omega, by omega⟩ rfl fun K => ?_
    simp only [marigraphref1_Op.j0, if_neg (show ¬ (47 : Int) = 43 by decide), if_neg (show ¬ (47 : Int) = 45 by decide), if_neg (show ¬ (47 : Int) = 42 by decide), Bool.false_eq_true, if_false]
    rw [wrap64_id (x := n * e) ⟨by omega, by omega⟩, wrap64_id (x := d * m) ⟨by omega, by omega⟩]
theorem rcmp_tells {n d m e : Int} (h : Rt n d) (k : Rt m e) : Ev (fun K => marigraphref1_Cmp.f K n d m e) (cmpQ (VQ n d) (VQ m e)) := by
  have r1 := rright_tells h.i64n h.i64d
  have r2 := rright_tells k.i64n k.i64d
  rw [h.right] at r1
  rw [k.right] at r2
  refine Ev.bind r1 (Ev.bind r2 ?_)
  simp only [if_true]
  refine ⟨1, fun K hK => ?_⟩
  obtain ⟨K, rfl⟩ : ∃ m, K = m + 1 := ⟨K - 1, by omega⟩
  simp only [marigraphref1_Cmp.j0, Bool.false_eq_true, if_false, if_true]
  have h1 := h.n1; have h2 := h.n2; have h3 := h.d1; have h4 := h.d2
  have k1 := k.n1; have k2 := k.n2; have k3 := k.d1; have k4 := k.d2
  rw [prodw (x := n) (y := e) ⟨by omega, by omega⟩ ⟨by omega, by omega⟩, prodw (x := m) (y := d) ⟨by omega, by omega⟩ ⟨by omega, by omega⟩]
  unfold cmpQ
  by_cases hlt : n * e < m * d
  · rw [if_pos hlt, if_pos ((ratlt h k).1 hlt)]
  · rw [if_neg hlt, if_neg (fun hh => hlt ((ratlt h k).2 hh))]
    by_cases hgt : n * e > m * d
    · rw [if_pos hgt]
      have := (ratlt k h).1 hgt
      rw [if_neg (fun he => by rw [he] at this; exact absurd this (Rat.lt_irrefl))]
    · rw [if_neg hgt]
      have h5 : ¬ VQ m e < VQ n d := fun hh => hgt ((ratlt k h).2 hh)
      have h6 : ¬ VQ n d < VQ m e := fun hh => hlt ((ratlt h k).2 hh)
      rw [if_pos (Rat.le_antisymm (Rat.not_lt.1 h5) (Rat.not_lt.1 h6))]
/-! ### fold.Do beside the document's, for any numbers -/
theorem evDown {α : Type} {g : Nat → Option α} {r : α} (h : Ev (fun k => g (k + 1)) r) : Ev g r := let ⟨K, hK⟩ := h; ⟨K + 1, fun k hk => by
  obtain ⟨m, rfl⟩ : ∃ m, k = m + 1 := ⟨k - 1, by omega⟩
  exact hK m (by omega)⟩
theorem ofQ_eta {q : Rat} (h : (Pure_ofQ q).2.2 = 0) : Rt (Pure_ofQ q).1 (Pure_ofQ q).2.1 := (Rt.ofQ (q := q) (n := (Pure_ofQ q).1) (d := (Pure_ofQ q).2.1) (by rw [← h])).1
def rat_ (l : List S33) (j : Nat) : S33 := l.getD j z33
theorem rd_rat (l : List S33) (j : Nat) : rd_T33 l (j : Int) = rat_ l j := by cases l <;> rfl
theorem rat_drop {l : List S33} {j : Nat} (h : j < l.length) : l.drop j = rat_ l j :: l.drop (j + 1) := by
  rw [List.drop_eq_getElem_cons h]
  unfold rat_
  rw [List.getD_eq_getElem?_getD, List.getElem?_eq_getElem h]
  rfl
theorem wrapS {j n : Nat} (h : j < n) (hn : n < 4611686014132420609) : wrap64 ((j : Int) + 1) = ((j + 1 : Nat) : Int) := by
  unfold wrap64
  omega
def NumP (l : List S33) : Prop := ∀ j : Nat, j < l.length → I64 (rat_ l j).f0 ∧ I64 (rat_ l j).f1
def allR : List S33 → Bool
  | [] => true
  | x :: l => rightQ x.f0 x.f1 && allR l
theorem NumP.tail {x : S33} {l : List S33} (h : NumP (x :: l)) : NumP l := fun j hj => h (j + 1) (by rw [List.length_cons]; omega)
theorem badI_tells : ∀ l : List S33, NumP l → Ev (fun k => badI k l) (!allR l) := by
  intro l
  induction l with
  | nil => intro _; exact Ev.now _
  | cons x l ih =>
    intro h
    obtain ⟨i0, i1⟩ := h 0 (by simp)
    have i0 : I64 x.f0 := i0
    have i1 : I64 x.f1 := i1
    have hd : Ev (fun k => fold_Do_1.f k x.f0 x.f1) (!rightQ x.f0 x.f1) := Ev.bind (right_tells i0 i1) (Ev.now _)
    have un : ∀ k, badI k (x :: l) = (fold_Do_1.f k x.f0 x.f1).bind fun t => if t = true then some true else badI k l := fun k => rfl
    refine evEq un (Ev.bind hd ?_)
    unfold allR
    cases rightQ x.f0 x.f1 with
    | true => simp only [Bool.not_true, Bool.false_eq_true, if_false, Bool.true_and]; exact ih h.tail
    | false => simp only [Bool.not_false, if_true, Bool.false_and]; exact Ev.now _
theorem allR_rt {l : List S33} (h : allR l = true) : ∀ j : Nat, j < l.length → Rt (rat_ l j).f0 (rat_ l j).f1 := by
  induction l with
  | nil => intro j hj; simp at hj
  | cons x l ih =>
    intro j hj
    unfold allR at h
    rw [Bool.and_eq_true] at h
    cases j with
    | zero => exact Rt.of_right h.1
    | succ j => exact ih h.2 j (by rw [List.length_cons] at hj; omega)
/-- The document's test of all numbers. -/
theorem l0_tells {how : Int} {l : List S33} (h : NumP l) (hn : l.length < 4611686014132420609) : ∀ n j : Nat, l.length - j = n → j ≤ l.length →
    (allR (l.drop j) = false → Ev (fun k => marigraphref20_Do.l0 k how l (j : Int)) (0, 0, 1)) ∧
    (allR (l.drop j) = true → ∀ r, Ev (fun k => marigraphref20_Do.l0 k how l (l.length : Int)) r → Ev (fun k => marigraphref20_Do.l0 k how l (j : Int)) r) := by
  intro n
  induction n with
  | zero =>
    intro j hj hle
    have e : j = l.length := by omega
    subst e
    refine ⟨fun hb => ?_, fun _ r hr => hr⟩
    rw [List.drop_length] at hb
    exact absurd hb (by decide)
  | succ n ih =>
    intro j hj hle
    have hlt : j < l.length := by omega
    obtain ⟨i0, i1⟩ := h j hlt
    have hw := wrapS hlt hn
    obtain ⟨g1, g2⟩ := ih (j + 1) (by omega) (by omega)
    have go : ∀ r, Ev (fun k => (marigraphref1_Right.f k (rat_ l j).f0 (rat_ l j).f1).bind fun t => (if t = true then (marigraphref20_Do.l0 k how l ((j + 1 : Nat) : Int)) else (some (0, 0, 1)))) r → Ev (fun k => marigraphref20_Do.l0 k how l (j : Int)) r := by
      intro r hr
      refine evDown ?_
      simp only [marigraphref20_Do.l0, if_pos (show (j : Int) < (l.length : Int) by omega), if_pos (show 0 ≤ (j : Int) by omega), rd_rat, hw]
      exact hr
    rw [rat_drop hlt]
    unfold allR
    cases hq : rightQ (rat_ l j).f0 (rat_ l j).f1 with
    | true =>
      have hr := rright_tells i0 i1
      rw [hq] at hr
      simp only [Bool.true_and]
      refine ⟨fun hb => go _ (Ev.bind hr ?_), fun hb r hr2 => go _ (Ev.bind hr ?_)⟩
      · simp only [if_true]; exact g1 hb
      · simp only [if_true]; exact g2 hb r hr2
    | false =>
      have hr := rright_tells i0 i1
      rw [hq] at hr
      simp only [Bool.false_and]
      refine ⟨fun _ => go _ (Ev.bind hr ?_), fun hb => by cases hb⟩
      simp only [Bool.false_eq_true, if_false]
      exact Ev.now _
/-- One step of the folds that go on: sum, least, greatest, average. -/
def stX (how n d m e : Int) : Int × Int × Int :=
  if how = 2 then (if cmpQ (VQ m e) (VQ n d) < 0 then (m, e, 0) else (n, d, 0)) else if how = 3 then (if cmpQ (VQ m e) (VQ n d) > 0 then (m, e, 0) else (n, d, 0)) else Pure_ofQ (VQ n d + VQ m e)
theorem stX_rt {how n d m e : Int} (h : Rt n d) (k : Rt m e) (h0 : (stX how n d m e).2.2 = 0) : Rt (stX how n d m e).1 (stX how n d m e).2.1 := by
  unfold stX at h0 ⊢
  by_cases h2 : how = 2
  · rw [if_pos h2]
    split
    · exact k
    · exact h
  rw [if_neg h2] at h0 ⊢
  by_cases h3 : how = 3
  · rw [if_pos h3]
    split
    · exact k
    · exact h
  rw [if_neg h3] at h0 ⊢
  exact ofQ_eta h0
theorem stepI_tells {how n d m e : Int} (h : Rt n d) (k : Rt m e) (hh : how ≠ 5 ∧ how ≠ 6 ∧ how ≠ 7) : Ev (fun K => stepI K how n d m e) (stX how n d m e) := by
  have un : ∀ K, stepI K how n d m e = if how = 2 then (fold_steps_2.f K n d m e).bind fun b => some (pickI b n d m e) else if how = 3 then (fold_steps_3.f K n d m e).bind fun b => some (pickI b n d m e) else rat_Add.f K n d m e := fun K => by
    unfold stepI
    by_cases h2 : how = 2
    · rw [if_pos h2, if_pos h2]
    rw [if_neg h2, if_neg h2]
    by_cases h3 : how = 3
    · rw [if_pos h3, if_pos h3]
    rw [if_neg h3, if_neg h3, if_neg (fun hc => hc.elim hh.2.1 hh.1), if_neg hh.2.2]
  refine evEq un ?_
  unfold stX
  by_cases h2 : how = 2
  · simp only [if_pos h2]
    have hs : Ev (fun K => fold_steps_2.f K n d m e) (decide (cmpQ (VQ m e) (VQ n d) < 0)) := Ev.bind (cmp_tells k h) (Ev.now _)
    refine Ev.bind hs ?_
    unfold pickI
    by_cases hc : cmpQ (VQ m e) (VQ n d) < 0
    · simp only [decide_eq_true hc, if_true, if_pos hc]; exact Ev.now _
    · simp only [decide_eq_false hc, Bool.false_eq_true, if_false, if_neg hc]; exact Ev.now _
  simp only [if_neg h2]
  by_cases h3 : how = 3
  · simp only [if_pos h3]
    have hs : Ev (fun K => fold_steps_3.f K n d m e) (decide (cmpQ (VQ m e) (VQ n d) > 0)) := Ev.bind (cmp_tells k h) (Ev.now _)
    refine Ev.bind hs ?_
    unfold pickI
    by_cases hc : cmpQ (VQ m e) (VQ n d) > 0
    · simp only [decide_eq_true hc, if_true, if_pos hc]; exact Ev.now _
    · simp only [decide_eq_false hc, Bool.false_eq_true, if_false, if_neg hc]; exact Ev.now _
  simp only [if_neg h3]
  exact Add_tells h k
def fdX (how : Int) : List S33 → Int → Int → Int × Int × Int
  | [], n, d => (n, d, 0)
  | x :: l, n, d => if (stX how n d x.f0 x.f1).2.2 = 0 then fdX how l (stX how n d x.f0 x.f1).1 (stX how n d x.f0 x.f1).2.1 else (0, 0, (stX how n d x.f0 x.f1).2.2)
theorem foldI_tells {how : Int} (hh : how ≠ 5 ∧ how ≠ 6 ∧ how ≠ 7) : ∀ (l : List S33) (n d : Int), Rt n d → allR l = true → Ev (fun k => foldI k how l n d) (fdX how l n d) ∧ ((fdX how l n d).2.2 = 0 → Rt (fdX how l n d).1 (fdX how l n d).2.1) := by
  intro l
  induction l with
  | nil => intro n d h _; exact ⟨Ev.now _, fun _ => h⟩
  | cons x l ih =>
    intro n d h ha
    unfold allR at ha
    rw [Bool.and_eq_true] at ha
    have hx := Rt.of_right ha.1
    have un : ∀ k, foldI k how (x :: l) n d = (stepI k how n d x.f0 x.f1).bind fun r => if r.2.2 = 0 then foldI k how l r.1 r.2.1 else some (0, 0, r.2.2) := fun k => rfl
    have hs := stepI_tells h hx hh
    unfold fdX
    by_cases h0 : (stX how n d x.f0 x.f1).2.2 = 0
    · obtain ⟨e1, e2⟩ := ih _ _ (stX_rt h hx h0) ha.2
      rw [if_pos h0]
      refine ⟨evEq un (Ev.bind hs ?_), e2⟩
      simp only [if_pos h0]
      exact e1
    · rw [if_neg h0]
      refine ⟨evEq un (Ev.bind hs ?_), fun hc => absurd hc h0⟩
      simp only [if_neg h0]
      exact Ev.now _
/-- The document's loop. -/
theorem l1_tells {how : Int} (hh : how ≠ 5 ∧ how ≠ 6 ∧ how ≠ 7) {l : List S33} (hn : l.length < 4611686014132420609) : ∀ m j : Nat, ∀ n d : Int, l.length - j = m → j ≤ l.length → Rt n d → allR (l.drop j) = true →
    ((fdX how (l.drop j) n d).2.2 ≠ 0 → Ev (fun k => marigraphref20_Do.l1 k how l (j : Int) n d) (0, 0, (fdX how (l.drop j) n d).2.2)) ∧
    ((fdX how (l.drop j) n d).2.2 = 0 → ∀ r, Ev (fun k => marigraphref20_Do.l1 k how l (l.length : Int) (fdX how (l.drop j) n d).1 (fdX how (l.drop j) n d).2.1) r → Ev (fun k => marigraphref20_Do.l1 k how l (j : Int) n d) r) := by
  intro m
  induction m with
  | zero =>
    intro j n d hj hle h ha
    have e : j = l.length := by omega
    subst e
    rw [List.drop_length]
    exact ⟨fun hc => absurd rfl hc, fun _ r hr => hr⟩
  | succ m ih =>
    intro j n d hj hle h ha
    have hlt : j < l.length := by omega
    have hw := wrapS hlt hn
    rw [rat_drop hlt] at ha ⊢
    unfold allR at ha
    rw [Bool.and_eq_true] at ha
    have hx := Rt.of_right ha.1
    have hc := rcmp_tells hx h
    have hs0 := fun z => ih (j + 1) (stX how n d (rat_ l j).f0 (rat_ l j).f1).1 (stX how n d (rat_ l j).f0 (rat_ l j).f1).2.1 (by omega) (by omega) (stX_rt h hx z) ha.2
    have go : ∀ r, ((stX how n d (rat_ l j).f0 (rat_ l j).f1).2.2 = 0 → Ev (fun k => marigraphref20_Do.l1 k how l ((j + 1 : Nat) : Int) (stX how n d (rat_ l j).f0 (rat_ l j).f1).1 (stX how n d (rat_ l j).f0 (rat_ l j).f1).2.1) r) → ((stX how n d (rat_ l j).f0 (rat_ l j).f1).2.2 ≠ 0 → r = (0, 0, (stX how n d (rat_ l j).f0 (rat_ l j).f1).2.2)) → Ev (fun k => marigraphref20_Do.l1 k how l (j : Int) n d) r := by
      intro r h0 h1
      refine evDown ?_
      simp only [marigraphref20_Do.l1, if_pos (show (j : Int) < (l.length : Int) by omega), if_pos (show 0 ≤ (j : Int) by omega), rd_rat, hw]
      refine Ev.bind hc ?_
      unfold stX at h0 h1
      by_cases h2 : how = 2
      · simp only [if_pos h2] at h0 h1 ⊢
        by_cases h3 : cmpQ (VQ (rat_ l j).f0 (rat_ l j).f1) (VQ n d) < 0
        · simp only [if_pos h3] at h0 ⊢; exact h0 trivial
        · simp only [if_neg h3] at h0 ⊢; exact h0 trivial
      simp only [if_neg h2] at h0 h1 ⊢
      by_cases h4 : how = 3
      · simp only [if_pos h4] at h0 h1 ⊢
        by_cases h3 : cmpQ (VQ (rat_ l j).f0 (rat_ l j).f1) (VQ n d) > 0
        · simp only [if_pos h3] at h0 ⊢; exact h0 trivial
        · simp only [if_neg h3] at h0 ⊢; exact h0 trivial
      simp only [if_neg h4] at h0 h1 ⊢
      refine Ev.bind (rAdd_tells h hx) ?_
      by_cases h5 : (Pure_ofQ (VQ n d + VQ (rat_ l j).f0 (rat_ l j).f1)).2.2 = 0
      · simp only [if_pos h5]; exact h0 h5
      · simp only [if_neg h5]; rw [h1 h5]; exact Ev.now _
    unfold fdX
    by_cases z : (stX how n d (rat_ l j).f0 (rat_ l j).f1).2.2 = 0
    · obtain ⟨g1, g2⟩ := hs0 z
      rw [if_pos z]
      exact ⟨fun hb => go _ (fun _ => g1 hb) (fun hc2 => absurd z hc2), fun hb r hr => go _ (fun _ => g2 hb r hr) (fun hc2 => absurd z hc2)⟩
    · rw [if_neg z]
      exact ⟨fun _ => go _ (fun hc2 => absurd hc2 z) (fun _ => rfl), fun hb => absurd hb z⟩
/-! first, last, count -/
theorem fold_first (how : Int) (hh : how = 6 ∨ how = 5) : ∀ (l : List S33) (n d : Int) (k : Nat), foldI k how l n d = some (n, d, 0) := by
  intro l
  induction l with
  | nil => intro n d k; rfl
  | cons x l ih =>
    intro n d k
    have e : stepI k how n d x.f0 x.f1 = some (n, d, 0) := by
      unfold stepI
      rw [if_neg (by omega), if_neg (by omega), if_pos hh]
      rfl
    show (stepI k how n d x.f0 x.f1).bind _ = _
    rw [e]
    show (if (0 : Int) = 0 then foldI k how l n d else some (0, 0, 0)) = _
    rw [if_pos rfl]
    exact ih n d k
def lastP : List S33 → S33 → S33
  | [], x => x
  | y :: l, _ => lastP l y
theorem fold_last : ∀ (l : List S33) (x : S33) (k : Nat), foldI k 7 l x.f0 x.f1 = some ((lastP l x).f0, (lastP l x).f1, 0) := by
  intro l
  induction l with
  | nil => intro x k; rfl
  | cons y l ih =>
    intro x k
    show (stepI k 7 x.f0 x.f1 y.f0 y.f1).bind _ = _
    have e : stepI k 7 x.f0 x.f1 y.f0 y.f1 = some (y.f0, y.f1, 0) := rfl
    rw [e]
    show (if (0 : Int) = 0 then foldI k 7 l y.f0 y.f1 else some (0, 0, 0)) = _
    rw [if_pos rfl]
    exact ih y k
theorem rat_last : ∀ (l : List S33) (x : S33), rat_ (x :: l) l.length = lastP l x := by
  intro l
  induction l with
  | nil => intro x; rfl
  | cons y l ih => intro x; exact ih y
theorem of_len {n : Nat} (hn : n ≤ 2147483647) : newQ (n : Int) 1 = ((n : Int), 1, 0) := by
  have r := rt_one (n := (n : Int)) (by omega) (by omega)
  unfold newQ Pure_ofQ
  have h1 := r.num
  have h2 := r.den
  rw [if_neg (by decide), h1]
  have h3 : (Rat.divInt (n : Int) 1).den = 1 := by omega
  rw [h3, if_neg (by omega)]
  rfl
theorem do_same (how : Int) (l : List S33) (hI : NumP l) (hn : l.length ≤ 1000) : ∃ r, Ev (fun k => fold_Do.f k how l) r ∧ Ev (fun k => marigraphref20_Do.f k how l) r := by
  have hrr : fold_Right.f how = marigraphref20_Right.f how := rfl
  have bad : Ev (fun k => marigraphref20_Do.j0 k how l true) (0, 0, 1) := by
    refine evDown ?_
    simp only [marigraphref20_Do.j0, if_true]
    exact Ev.now _
  obtain ⟨b, hb⟩ : ∃ b, fold_Right.f how = some b := by
    unfold fold_Right.f
    split <;> exact ⟨_, rfl⟩
  have hb2 := hb
  rw [hrr] at hb2
  unfold fold_Do.f marigraphref20_Do.f
  simp only [if_pos (show l.length < 4611686014132420609 by omega), hb, hb2, Option.bind_some]
  cases b with
  | false => exact ⟨(0, 0, 1), by simp only [Bool.false_eq_true, if_false]; exact Ev.now _, by simp only [Bool.false_eq_true, if_false]; exact bad⟩
  | true =>
    simp only [if_true]
    cases l with
    | nil => exact ⟨(0, 0, 1), Ev.now _, bad⟩
    | cons x xs =>
      have hz : (((x :: xs).length : Int) == 0) = false := by rw [List.length_cons, beq_eq_false_iff_ne]; omega
      simp only [hz]
      have hbad := badI_tells (x :: xs) hI
      obtain ⟨g1, g2⟩ := l0_tells (how := how) hI (show (x :: xs).length < 4611686014132420609 by omega) _ 0 rfl (Nat.zero_le _)
      rw [List.drop_zero] at g1 g2
      cases ha : allR (x :: xs) with
      | false =>
        rw [ha] at hbad
        refine ⟨(0, 0, 1), Ev.bind hbad ?_, evDown ?_⟩
        · simp only [Bool.not_false, if_true]; exact Ev.now _
        · simp only [marigraphref20_Do.j0, Bool.false_eq_true, if_false]; exact g1 ha
      | true =>
        rw [ha] at hbad
        have hrt := allR_rt ha
        have hx : Rt x.f0 x.f1 := hrt 0 (by simp)
        have ha2 : allR xs = true := by unfold allR at ha; rw [Bool.and_eq_true] at ha; exact ha.2
        have mine : ∀ r, Ev (fun k => (foldI k how xs x.f0 x.f1).bind fun r => if r.2.2 = 0 then fold_Do.rest k how (x :: xs).length r.1 r.2.1 else some (0, 0, r.2.2)) r → Ev (fun k => (badI k (x :: xs)).bind fun b => if b = true then some (0, 0, 1) else (foldI k how xs x.f0 x.f1).bind fun r => if r.2.2 = 0 then fold_Do.rest k how (x :: xs).length r.1 r.2.1 else some (0, 0, r.2.2)) r := by
          intro r h
          refine Ev.bind hbad ?_
          simp only [Bool.not_true, Bool.false_eq_true, if_false]
          exact h
        have theirs : ∀ r, Ev (fun k => if how = 5 then ((marigraphref1_New.f k ((x :: xs).length : Int) 1).bind fun bt227 => (some (bt227.1, bt227.2.1, bt227.2.2))) else (if how = 6 then (some ((rat_ (x :: xs) 0).f0, (rat_ (x :: xs) 0).f1, 0)) else (if how = 7 then (some ((rat_ (x :: xs) xs.length).f0, (rat_ (x :: xs) xs.length).f1, 0)) else (marigraphref20_Do.l1 k how (x :: xs) 1 ((rat_ (x :: xs) 0).f0) ((rat_ (x :: xs) 0).f1))))) r → Ev (fun k => marigraphref20_Do.j0 k how (x :: xs) false) r := by
          intro r h
          refine evDown ?_
          simp only [marigraphref20_Do.j0, Bool.false_eq_true, if_false]
          refine g2 ha r (evDown ?_)
          have hw : wrap64 (((x :: xs).length : Int) - 1) = (xs.length : Int) := by rw [List.length_cons]; rw [List.length_cons] at hn; unfold wrap64; omega
          have r0 : rd_T33 (x :: xs) 0 = rat_ (x :: xs) 0 := rfl
          simp only [marigraphref20_Do.l0, if_neg (show ¬ ((x :: xs).length : Int) < ((x :: xs).length : Int) by omega), if_pos (show 0 < ((x :: xs).length : Int) by rw [List.length_cons]; omega), hw, r0, if_pos (show 0 ≤ (xs.length : Int) by omega), if_pos (show (xs.length : Int) < ((x :: xs).length : Int) by rw [List.length_cons]; omega), rd_rat]
          exact h
        have hlen := of_len (n := (x :: xs).length) (by omega)
        have hof : Ev (fun k => rat_Of.f k ((x :: xs).length : Int)) (((x :: xs).length : Int), 1, 0) := by
          have := of_tells (n := ((x :: xs).length : Int)) (by omega) (by omega)
          exact this
        have rest : ∀ n d r, (if how = 5 then Ev (fun _ => some (((x :: xs).length : Int), (1 : Int), (0 : Int))) r else if how = 4 then Ev (fun k => rat_Div.f k n d ((x :: xs).length : Int) 1) r else r = (n, d, 0)) → Ev (fun k => fold_Do.rest k how (x :: xs).length n d) r := by
          intro n d r h
          refine Ev.bind hof ?_
          simp only [if_true]
          by_cases h5 : how = 5
          · rw [if_pos h5] at h; simp only [if_pos h5]; exact h
          · rw [if_neg h5] at h; simp only [if_neg h5]
            by_cases h4 : how = 4
            · rw [if_pos h4] at h; simp only [if_pos h4]; exact h
            · rw [if_neg h4] at h; simp only [if_neg h4]; rw [h]; exact Ev.now _
        by_cases h56 : how = 6 ∨ how = 5
        · have hf : ∀ k, (foldI k how xs x.f0 x.f1) = some (x.f0, x.f1, 0) := fun k => fold_first how h56 xs _ _ k
          by_cases h5 : how = 5
          · refine ⟨(((x :: xs).length : Int), 1, 0), mine _ ?_, theirs _ ?_⟩
            · simp only [hf, Option.bind_some, if_true]
              refine rest _ _ _ ?_
              rw [if_pos h5]
              exact Ev.now _
            · simp only [if_pos h5]
              have hN := rnew_tells (n := ((x :: xs).length : Int)) (d := 1) ⟨by omega, by omega⟩ ⟨by decide, by decide⟩
              rw [hlen] at hN
              exact Ev.bind hN (Ev.now _)
          · have h6 : how = 6 := by omega
            refine ⟨(x.f0, x.f1, 0), mine _ ?_, theirs _ ?_⟩
            · simp only [hf, Option.bind_some, if_true]
              refine rest _ _ _ ?_
              rw [if_neg h5, if_neg (by omega)]
            · simp only [if_neg h5, if_pos h6]
              exact Ev.now _
        · by_cases h7 : how = 7
          · subst h7
            refine ⟨((lastP xs x).f0, (lastP xs x).f1, 0), mine _ ?_, theirs _ ?_⟩
            · simp only [fold_last, Option.bind_some, if_true]
              refine rest _ _ _ ?_
              rw [if_neg (by decide), if_neg (by decide)]
            · simp only [if_neg (show ¬ (7 : Int) = 5 by decide), if_neg (show ¬ (7 : Int) = 6 by decide), if_true, rat_last]
              exact Ev.now _
          · have hh : how ≠ 5 ∧ how ≠ 6 ∧ how ≠ 7 := ⟨fun h => h56 (Or.inr h), fun h => h56 (Or.inl h), h7⟩
            obtain ⟨e1, e2⟩ := foldI_tells hh xs x.f0 x.f1 hx ha2
            obtain ⟨f1, f2⟩ := l1_tells hh (l := x :: xs) (by omega) _ 1 x.f0 x.f1 rfl (by simp) hx (by exact ha2)
            have ed : (x :: xs).drop 1 = xs := rfl
            rw [ed] at f1 f2
            have th : ∀ r, Ev (fun k => marigraphref20_Do.l1 k how (x :: xs) ((1 : Nat) : Int) x.f0 x.f1) r → Ev (fun k => marigraphref20_Do.j0 k how (x :: xs) false) r := by
              intro r h
              refine theirs r ?_
              simp only [if_neg hh.1, if_neg hh.2.1, if_neg hh.2.2]
              exact h
            by_cases z : (fdX how xs x.f0 x.f1).2.2 = 0
            · have rr := e2 z
              have r1 := rt_one (n := ((x :: xs).length : Int)) (by omega) (by omega)
              have fin : ∀ r, Ev (fun k => if how = 4 then ((marigraphref1_Op.f k 47 (fdX how xs x.f0 x.f1).1 (fdX how xs x.f0 x.f1).2.1 ((x :: xs).length : Int) 1).bind fun bt231 => (some (bt231.1, bt231.2.1, bt231.2.2))) else (some ((fdX how xs x.f0 x.f1).1, (fdX how xs x.f0 x.f1).2.1, 0))) r → Ev (fun k => marigraphref20_Do.j0 k how (x :: xs) false) r := by
                intro r h
                refine th r (f2 z r (evDown ?_))
                simp only [marigraphref20_Do.l1, if_neg (show ¬ ((x :: xs).length : Int) < ((x :: xs).length : Int) by omega)]
                exact h
              by_cases h4 : how = 4
              · refine ⟨newQ ((fdX how xs x.f0 x.f1).1 * 1) ((fdX how xs x.f0 x.f1).2.1 * ((x :: xs).length : Int)), mine _ (Ev.bind e1 ?_), fin _ ?_⟩
                · simp only [if_pos z]
                  refine rest _ _ _ ?_
                  rw [if_neg hh.1, if_pos h4]
                  exact Div_tells rr r1
                · simp only [if_pos h4]
                  exact Ev.bind (rDiv_tells rr r1) (Ev.now _)
              · refine ⟨((fdX how xs x.f0 x.f1).1, (fdX how xs x.f0 x.f1).2.1, 0), mine _ (Ev.bind e1 ?_), fin _ ?_⟩
                · simp only [if_pos z]
                  refine rest _ _ _ ?_
                  rw [if_neg hh.1, if_neg h4]
                · simp only [if_neg h4]
                  exact Ev.now _
            · refine ⟨(0, 0, (fdX how xs x.f0 x.f1).2.2), mine _ (Ev.bind e1 ?_), th _ (f1 z)⟩
              simp only [if_neg z]
              exact Ev.now _
/-! ### the law's small numbers -/
structure Sml (x : S33) : Prop where
  rt : Rt x.f0 x.f1
  lo : -60 ≤ x.f0
  hi : x.f0 ≤ 60
  dd : x.f1 ≤ 12
theorem rd_i64 {l : List Int} (h : ∀ x ∈ l, I64 x) (j : Nat) : I64 (rd l (j : Int)) := by
  have : rd l (j : Int) = l.getD j 0 := rfl
  rw [this, List.getD_eq_getElem?_getD]
  cases hj : l[j]? with
  | none => exact ⟨by decide, by decide⟩
  | some x => exact h x (List.mem_of_getElem? hj)
theorem rats_loop {l : List Int} (hl : ∀ x ∈ l, I64 x) {M : Nat} (hM : M ≤ 12) : ∀ (n i : Nat) (acc : List S33), M - i = n → acc.length = i → i ≤ M → (∀ x ∈ acc, Sml x) →
    ∃ m, Ev (fun k => marigraphlaw20_rats.l0 k l (M : Int) acc (i : Int)) m ∧ m.length ≤ M ∧ (∀ x ∈ m, Sml x) := by
  intro n
  induction n with
  | zero =>
    intro i acc hn ha hi hs
    have hw : wrap64 ((i : Int) + 1) = ((i + 1 : Nat) : Int) := by unfold wrap64; omega
    refine ⟨acc, evDown ?_, by omega, hs⟩
    simp only [marigraphlaw20_rats.l0, hw, if_neg (show ¬ (acc.length : Int) < (M : Int) by omega), ite_self]
    exact Ev.now _
  | succ n ih =>
    intro i acc hn ha hi hs
    have hw : wrap64 ((i : Int) + 1) = ((i + 1 : Nat) : Int) := by unfold wrap64; omega
    by_cases hlt : i + 1 < l.length
    · obtain ⟨N, D, e1, r1, b1, b2, b3, b4⟩ := keep_tells (rd_i64 hl i) (rd_i64 hl (i + 1))
      have hs' : ∀ x ∈ acc ++ [(⟨N, D⟩ : S33)], Sml x := by
        intro x hx
        rcases List.mem_append.1 hx with hx | hx
        · exact hs x hx
        · rw [List.mem_singleton] at hx
          subst hx
          exact ⟨r1, b1, b2, b4⟩
      obtain ⟨m, e2, h2, h3⟩ := ih (i + 1) (acc ++ [⟨N, D⟩]) (by omega) (by rw [List.length_append, List.length_singleton]; omega) (by omega) hs'
      refine ⟨m, evDown ?_, h2, h3⟩
      simp only [marigraphlaw20_rats.l0, hw, if_pos (show ((i + 1 : Nat) : Int) < (l.length : Int) by omega), if_pos (show (acc.length : Int) < (M : Int) by omega), if_pos (show 0 ≤ (i : Int) by omega), if_pos (show (i : Int) < (l.length : Int) by omega), if_pos (show 0 ≤ ((i + 1 : Nat) : Int) by omega)]
      refine Ev.bind e1 ?_
      simp only [if_pos (show acc.length < 8796093022208 by omega)]
      exact e2
    · refine ⟨acc, evDown ?_, by omega, hs⟩
      simp only [marigraphlaw20_rats.l0, hw, if_neg (show ¬ ((i + 1 : Nat) : Int) < (l.length : Int) by omega)]
      exact Ev.now _
theorem rats_tells {l : List Int} (hl : ∀ x ∈ l, I64 x) {M : Nat} (hM : M ≤ 12) : ∃ m, Ev (fun k => marigraphlaw20_rats.f k l (M : Int)) m ∧ m.length ≤ M ∧ (∀ x ∈ m, Sml x) :=
  rats_loop hl hM M 0 [] rfl rfl (Nat.zero_le _) (fun _ hx => by cases hx)
/-! ### names of folds; same -/
theorem ba_ext {s t : ByteArray} (h : s.toList = t.toList) : s = t := by
  rw [Lib.toList_data, Lib.toList_data] at h
  obtain ⟨⟨a⟩⟩ := s
  obtain ⟨⟨b⟩⟩ := t
  have h2 : a = b := h
  rw [h2]
def L7 : List ByteArray := [⟨#[115, 117, 109]⟩, ⟨#[109, 105, 110]⟩, ⟨#[109, 97, 120]⟩, ⟨#[97, 118, 103]⟩, ⟨#[99, 111, 117, 110, 116]⟩, ⟨#[102, 105, 114, 115, 116]⟩, ⟨#[108, 97, 115, 116]⟩]
def nm7 (i : Nat) : ByteArray := L7.getD (i - 1) ⟨#[]⟩
theorem name_same (how : Int) : ∃ t, fold_Name.f how = some t ∧ marigraphref20_Name.f how = some t := by
  by_cases h : 1 ≤ how ∧ how ≤ 7
  · have : how = 1 ∨ how = 2 ∨ how = 3 ∨ how = 4 ∨ how = 5 ∨ how = 6 ∨ how = 7 := by omega
    refine ⟨nm7 how.toNat, ?_, ?_⟩ <;> (rcases this with h | h | h | h | h | h | h <;> (subst h; decide +kernel))
  · refine ⟨(⟨#[]⟩ : ByteArray), ?_, ?_⟩
    · unfold fold_Name.f fold_Right.f
      by_cases h1 : how ≥ 1
      · rw [if_pos h1, decide_eq_false (show ¬ how ≤ 7 by omega)]; rfl
      · rw [if_neg h1]; rfl
    · unfold marigraphref20_Name.f
      rw [if_neg (by omega), if_neg (by omega), if_neg (by omega), if_neg (by omega), if_neg (by omega), if_neg (by omega), if_neg (by omega)]
theorem same_any (how : Int) (l : List S33) (hI : NumP l) (hn : l.length ≤ 1000) : Ev (fun k => marigraphlaw20_same.f k how l) true := by
  obtain ⟨r, e1, e2⟩ := do_same how l hI hn
  obtain ⟨t, n1, n2⟩ := name_same how
  obtain ⟨b, hb⟩ : ∃ b, fold_Right.f how = some b := by
    unfold fold_Right.f
    split <;> exact ⟨_, rfl⟩
  have hb2 : marigraphref20_Right.f how = some b := hb
  refine Ev.bind e1 (Ev.bind e2 ?_)
  simp only [beq_self_eq_true, Bool.and_self, if_true, hb, hb2, Option.bind_some, n1, n2]
  exact Ev.now _
theorem Sml.num {x : S33} (h : Sml x) : I64 x.f0 ∧ I64 x.f1 := ⟨h.rt.i64n, h.rt.i64d⟩
theorem num_of {l : List S33} (h : ∀ x ∈ l, I64 x.f0 ∧ I64 x.f1) : NumP l := by
  intro j hj
  have hx : rat_ l j ∈ l := by
    unfold rat_
    rw [List.getD_eq_getElem?_getD, List.getElem?_eq_getElem hj]
    exact List.getElem_mem hj
  exact h _ hx
theorem nm7_tells : ∀ i : Nat, 1 ≤ i → i ≤ 7 → marigraphref20_Name.f (i : Int) = some (nm7 i) := by
  intro i h1 h2
  have : i = 1 ∨ i = 2 ∨ i = 3 ∨ i = 4 ∨ i = 5 ∨ i = 6 ∨ i = 7 := by omega
  rcases this with h | h | h | h | h | h | h <;> (subst h; decide +kernel)
theorem want_none {s : ByteArray} : ∀ (f lo : Nat) (acc : Int), (∀ i, lo ≤ i → i < lo + f → (nm7 i).toList ≠ s.toList) → wantI s nm7 f lo acc = acc := by
  intro f
  induction f with
  | zero => intro lo acc _; rfl
  | succ f ih =>
    intro lo acc h
    unfold wantI
    rw [if_neg (h lo (Nat.le_refl _) (by omega))]
    exact ih (lo + 1) acc (fun i h1 h2 => h i (by omega) (by omega))
theorem idx_none {s : ByteArray} (h : ∀ i, 1 ≤ i → i < 8 → (nm7 i).toList ≠ s.toList) : ∀ n c : Nat, 7 - c = n → c ≤ 7 → Ev (fun k => slices_Index_string_string.l0 k L7 s 7 (c : Int)) (-1) := by
  intro n
  induction n with
  | zero =>
    intro c hc hle
    refine evDown ?_
    simp only [slices_Index_string_string.l0, if_neg (show ¬ (c : Int) < 7 by omega)]
    exact Ev.now _
  | succ n ih =>
    intro c hc hle
    have hw : wrap64 ((c : Int) + 1) = ((c + 1 : Nat) : Int) := by unfold wrap64; omega
    have hl : (L7.length : Int) = 7 := rfl
    have hne : ¬ s.toList = (rdOf ByteArray.empty L7 (c : Int)).toList := by
      intro he
      have h2 := h (c + 1) (by omega) (by omega)
      apply h2
      rw [he]
      have : c = 0 ∨ c = 1 ∨ c = 2 ∨ c = 3 ∨ c = 4 ∨ c = 5 ∨ c = 6 := by omega
      rcases this with h | h | h | h | h | h | h <;> (subst h; rfl)
    refine evDown ?_
    simp only [slices_Index_string_string.l0, if_pos (show (c : Int) < 7 by omega), if_pos (show 0 ≤ (c : Int) by omega), hl, if_neg hne, hw]
    exact ih (c + 1) (by omega) (by omega)
theorem named_tells (s : ByteArray) : ∃ n ok, Ev (fun k => fold_Named.f k s) (n, ok) ∧ n = wantI s nm7 7 1 0 ∧ ok = decide (0 < wantI s nm7 7 1 0) := by
  by_cases h : ∃ i, 1 ≤ i ∧ i < 8 ∧ (nm7 i).toList = s.toList
  · obtain ⟨i, h1, h2, h3⟩ := h
    have hs := ba_ext h3
    subst hs
    have : i = 1 ∨ i = 2 ∨ i = 3 ∨ i = 4 ∨ i = 5 ∨ i = 6 ∨ i = 7 := by omega
    refine ⟨(i : Int), true, ?_, ?_, ?_⟩
    · rcases this with h | h | h | h | h | h | h <;> (subst h; exact Ev.of (fun k => fold_Named.mono _ k) (k := 12) (by decide +kernel))
    · rcases this with h | h | h | h | h | h | h <;> (subst h; decide +kernel)
    · rcases this with h | h | h | h | h | h | h <;> (subst h; decide +kernel)
  · have hno : ∀ i, 1 ≤ i → i < 8 → (nm7 i).toList ≠ s.toList := fun i h1 h2 h3 => h ⟨i, h1, h2, h3⟩
    have hw := want_none (s := s) 7 1 0 (fun i h1 h2 => hno i h1 (by omega))
    refine ⟨0, false, ?_, hw.symm, by rw [hw]; rfl⟩
    have un : ∀ k, fold_Named.f k s = ((slices_Index_string_string.l0 k L7 s 7 0).bind fun t118 => (if t118 < 0 then (some (0, false)) else (some (wrap64 (t118 + 1), true)))) := fun k => rfl
    exact evEq un (Ev.bind (idx_none hno _ 0 rfl (by decide)) (Ev.now _))
theorem known_ev : Ev (fun k => marigraphlaw20_known.f k) true := Ev.of (k := 60) marigraphlaw20_known.mono (by decide +kernel)
theorem within20 {n : Int} (h : I64 n) : ∃ r, Ev (fun k => marigraphbook_Within.f k n 0 1048576) r ∧ 0 ≤ r ∧ r ≤ 1048576 := by
  obtain ⟨r, e, h1, h2, _⟩ := within_ev (n := n) (lo := 0) (hi := 1048576) (by decide) (by decide) (by decide) (by decide) h
  exact ⟨r, e, h1, h2⟩
theorem FoldTells : PFoldTells.FoldTells.Pure := by
  intro how l1 l8 s hh h1 h8 hw8
  obtain ⟨q, eq, q0, q1⟩ := within20 (i64_of hh)
  obtain ⟨m, em, lm, sm⟩ := rats_tells (M := 12) (fun x hx => i64_of (h1 x hx)) (by decide)
  obtain ⟨n, ok, en, hn, hok⟩ := named_tells s
  have nm_ : NumP m := num_of fun x hx => (sm x hx).num
  have n8 : NumP l8 := num_of fun x hx => ⟨i64_of (hw8 x hx).1, i64_of (hw8 x hx).2⟩
  have nz : NumP (m ++ l8) := num_of fun x hx => by
    rcases List.mem_append.1 hx with hx | hx
    · exact (sm x hx).num
    · exact ⟨i64_of (hw8 x hx).1, i64_of (hw8 x hx).2⟩
  obtain ⟨K1, e1⟩ := eq
  obtain ⟨K2, e2⟩ := em
  obtain ⟨K3, e3⟩ := en
  obtain ⟨K4, e4⟩ := same_any how m nm_ (by omega)
  obtain ⟨K5, e5⟩ := same_any (IntKind.i64.wrap (1 + Int.tmod q 7)) m nm_ (by omega)
  obtain ⟨K6, e6⟩ := same_any (IntKind.i64.wrap (1 + Int.tmod q 7)) l8 n8 (by omega)
  obtain ⟨K7, e7⟩ := same_any (IntKind.i64.wrap (1 + Int.tmod q 7)) (m ++ l8) nz (by rw [List.length_append]; omega)
  obtain ⟨K8, e8⟩ := known_ev
  exact ⟨K1 + K2 + K3 + K4 + K5 + K6 + K7 + K8, nm7, q, m, n, ok, lm, nm7_tells, e1 _ (by omega), e2 _ (by omega), e3 _ (by omega), hn, hok, e4 _ (by omega), e5 _ (by omega), e6 _ (by omega), e7 _ (by omega), e8 _ (by omega)⟩

end Go.Proofs.Ytgaikcpmnepegaa.Pure

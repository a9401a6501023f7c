/- FoldOrders: sums, averages, least and greatest ones and counts do not hang on the order; the first one is the other way round's last; an average lies between. -/
import Derived.Test.YtncieaeooiilpaaPFoldOrdersx9
namespace Go.Proofs.Ytncieaeooiilpaa.Pure
open Go.RowKit Go.Proofs.Ytncieaeooiilpaa.PFoldOrders Go.Proofs.YtncieaeooiilpaaW.PrintWords Go.Proofs.YtncieaeooiilpaaW.PrintLast
set_option linter.unusedVariables false
set_option linter.unusedSimpArgs false

theorem evEq {α : Type} {f g : Nat → Option α} {r : α} (hf : ∀ k, f k = g k) (h : Ev g r) : Ev f r := by rw [funext hf]; exact h
theorem i64_of {a : Int} (h : (Lit.int .i64 a).wf = true) : -9223372036854775808 ≤ a ∧ a ≤ 9223372036854775807 := by
  have h1 : IntKind.i64.min = -9223372036854775808 := rfl
  have h2 : IntKind.i64.max = 9223372036854775807 := rfl
  simp only [Lit.wf, Bool.and_eq_true, decide_eq_true_eq] at h
  omega
/-! ### rationals: New, Right -/
def Pure_ofQ (q : Rat) : Int × Int × Int := if q.num.natAbs > 2147483647 ∨ q.den > 2147483647 then (0, 0, 23) else (q.num, (q.den : Int), 0)
def newQ (n d : Int) : Int × Int × Int := if d = 0 then (0, 0, 1) else Pure_ofQ (Rat.divInt n d)
def I64 (n : Int) : Prop := -9223372036854775808 ≤ n ∧ n ≤ 9223372036854775807
theorem wrapU {x : Int} (h0 : 0 ≤ x) (h1 : x < 18446744073709551616) : IntKind.u64.wrap x = x := by
  have : IntKind.u64.wrap x = x % 18446744073709551616 := by simp [IntKind.wrap, IntKind.bits, IntKind.signed]
  rw [this]; exact Int.emod_eq_of_lt h0 h1
theorem wrapU_eq (x : Int) : IntKind.u64.wrap x = x % 18446744073709551616 := by simp [IntKind.wrap, IntKind.bits, IntKind.signed]
theorem wrap64_id {x : Int} (h : I64 x) : wrap64 x = x := by unfold I64 at h; unfold wrap64; omega
theorem size_tells {n : Int} (h : I64 n) : rat_size.f n = some (n.natAbs : Int) := by
  unfold I64 at h
  unfold rat_size.f
  by_cases hn : n < 0
  · rw [if_pos hn, wrapU_eq, wrapU_eq]
    congr 1
    omega
  · rw [if_neg hn, wrapU_eq]
    congr 1
    omega
theorem common_tells (b : Nat) : ∀ (a k : Nat), b < k → rat_common.l0 k (a : Int) (b : Int) = some ((Nat.gcd a b : Nat) : Int) := by
  induction b using Nat.strongRecOn with
  | _ b ih =>
    intro a k hk
    obtain ⟨k, rfl⟩ : ∃ m, k = m + 1 := ⟨k - 1, by omega⟩
    simp only [rat_common.l0]
    by_cases hb : b = 0
    · subst hb
      rw [if_neg (by omega), Nat.gcd_zero_right]
    · rw [if_pos (by omega), if_neg (by omega)]
      have e : Int.tmod (a : Int) (b : Int) = ((a % b : Nat) : Int) := by rw [Int.ofNat_tmod]
      have hl : a % b < b := Nat.mod_lt _ (by omega)
      rw [e, ih (a % b) hl b k (by omega), Nat.gcd_comm a b, Nat.gcd_rec b a, Nat.gcd_comm]
theorem new_parts (n d : Int) (hd : d ≠ 0) : (Rat.divInt n d).den = d.natAbs / Nat.gcd n.natAbs d.natAbs ∧ (Rat.divInt n d).num.natAbs = n.natAbs / Nat.gcd n.natAbs d.natAbs ∧
    (if (decide (n < 0)) != (decide (d < 0)) then (Rat.divInt n d).num = -((n.natAbs / Nat.gcd n.natAbs d.natAbs : Nat) : Int) else (Rat.divInt n d).num = ((n.natAbs / Nat.gcd n.natAbs d.natAbs : Nat) : Int)) := by
  have hg : Int.gcd d n = Nat.gcd n.natAbs d.natAbs := by unfold Int.gcd; exact Nat.gcd_comm _ _
  have hpos : 0 < Nat.gcd n.natAbs d.natAbs := Nat.gcd_pos_of_pos_right _ (by omega)
  refine ⟨by rw [Rat.den_divInt, if_neg hd, hg], ?_⟩
  rw [Rat.num_divInt, hg]
  obtain ⟨c, hc⟩ : ∃ c : Int, n = (Nat.gcd n.natAbs d.natAbs : Int) * c := by
    have : ((Nat.gcd n.natAbs d.natAbs : Nat) : Int) ∣ n := Int.natAbs_dvd_natAbs.1 (by rw [Int.natAbs_natCast]; exact Nat.gcd_dvd_left _ _)
    exact this
  generalize Nat.gcd n.natAbs d.natAbs = g at *
  have hA : n.natAbs / g = c.natAbs := by
    rw [hc, Int.natAbs_mul, Int.natAbs_natCast]
    exact Nat.mul_div_cancel_left _ hpos
  have hnc : (n < 0 ↔ c < 0) := by
    have hg0 : (0 : Int) < (g : Int) := by omega
    constructor
    · intro h
      by_cases h' : c < 0
      · exact h'
      · have := Int.mul_nonneg (Int.le_of_lt hg0) (Int.not_lt.1 h'); omega
    · intro h
      have := Int.mul_neg_of_pos_of_neg hg0 h; omega
  rw [hA]
  have hq : d.sign * n / (g : Int) = d.sign * c := by
    rw [hc, ← Int.mul_assoc, Int.mul_comm d.sign, Int.mul_assoc]
    exact Int.mul_ediv_cancel_left _ (by omega)
  rw [hq]
  rcases Int.lt_trichotomy d 0 with h | h | h
  · rw [Int.sign_eq_neg_one_of_neg h]
    have h1 : decide (d < 0) = true := decide_eq_true h
    rw [h1]
    by_cases hn : n < 0
    · have h2 := hnc.1 hn
      rw [decide_eq_true hn]
      simp only [bne_self_eq_false, Bool.false_eq_true, if_false]
      omega
    · have h2 : ¬ c < 0 := fun h => hn (hnc.2 h)
      rw [decide_eq_false hn]
      simp only [Bool.bne_true, Bool.not_false, if_true]
      omega
  · exact absurd h hd
  · rw [Int.sign_eq_one_of_pos h]
    have h1 : decide (d < 0) = false := decide_eq_false (by omega)
    rw [h1]
    by_cases hn : n < 0
    · have h2 := hnc.1 hn
      rw [decide_eq_true hn]
      simp only [Bool.bne_false, if_true]
      omega
    · have h2 : ¬ c < 0 := fun h => hn (hnc.2 h)
      rw [decide_eq_false hn]
      simp only [bne_self_eq_false, Bool.false_eq_true, if_false]
      omega
theorem new_at (n d : Int) (hn : I64 n) (hd : I64 d) (k : Nat) (hk : d.natAbs + 2 < k) : rat_New.f k n d = some (newQ n d) := by
  unfold rat_New.f newQ
  by_cases h0 : d = 0
  · rw [if_pos h0, if_pos h0]
  rw [if_neg h0, if_neg h0, size_tells hn, size_tells hd]
  simp only [Option.bind_some]
  unfold rat_common.f
  rw [common_tells d.natAbs n.natAbs k (by omega)]
  simp only [Option.bind_some]
  obtain ⟨e1, e2, e3⟩ := new_parts n d h0
  have hpos : 0 < Nat.gcd n.natAbs d.natAbs := Nat.gcd_pos_of_pos_right _ (by omega)
  generalize Nat.gcd n.natAbs d.natAbs = g at *
  have t1 : IntKind.u64.wrap (Int.tdiv (n.natAbs : Int) (g : Int)) = ((n.natAbs / g : Nat) : Int) := by
    rw [← Int.ofNat_tdiv]
    have := Nat.div_le_self n.natAbs g
    unfold I64 at hn
    exact wrapU (by omega) (by omega)
  have t2 : IntKind.u64.wrap (Int.tdiv (d.natAbs : Int) (g : Int)) = ((d.natAbs / g : Nat) : Int) := by
    rw [← Int.ofNat_tdiv]
    have := Nat.div_le_self d.natAbs g
    unfold I64 at hd
    exact wrapU (by omega) (by omega)
  rw [t1, t2, if_neg (by omega)]
  unfold Pure_ofQ
  rw [e1, e2]
  generalize n.natAbs / g = A at *
  generalize d.natAbs / g = B at *
  obtain ⟨k, rfl⟩ : ∃ m, k = m + 1 := ⟨k - 1, by omega⟩
  by_cases hA : (A : Int) > 2147483647
  · rw [if_pos hA, if_pos (Or.inl (by omega))]
    simp only [rat_New.j0, if_true]
  · rw [if_neg hA]
    by_cases hB : (B : Int) > 2147483647
    · rw [decide_eq_true hB, if_pos (Or.inr (by omega))]
      simp only [rat_New.j0, if_true]
    · rw [decide_eq_false hB, if_neg (by omega)]
      simp only [rat_New.j0, Bool.false_eq_true, if_false]
      have w1 : wrap64 (A : Int) = (A : Int) := wrap64_id (by unfold I64; omega)
      have w2 : wrap64 (B : Int) = (B : Int) := wrap64_id (by unfold I64; omega)
      have w3 : wrap64 (-(A : Int)) = -(A : Int) := wrap64_id (by unfold I64; omega)
      rw [w1, w2, w3]
      by_cases hs : ((decide (n < 0)) != (decide (d < 0))) = true
      · rw [if_pos hs] at e3 ⊢
        rw [e3]
      · rw [if_neg hs] at e3 ⊢
        rw [e3]
theorem new_tells {n d : Int} (hn : I64 n) (hd : I64 d) : Ev (fun k => rat_New.f k n d) (newQ n d) := ⟨d.natAbs + 3, fun k hk => new_at n d hn hd k (by omega)⟩
/-- A number that is right: in lowest terms, within the bounds. -/
structure Rt (n d : Int) : Prop where
  n1 : -2147483647 ≤ n
  n2 : n ≤ 2147483647
  d1 : 1 ≤ d
  d2 : d ≤ 2147483647
  num : (Rat.divInt n d).num = n
  den : ((Rat.divInt n d).den : Int) = d
def rightQ (n d : Int) : Bool := decide (d > 0) && decide (newQ n d = (n, d, 0))
theorem Rt.right {n d : Int} (h : Rt n d) : rightQ n d = true := by
  unfold rightQ newQ Pure_ofQ
  have h1 := h.n1
  have h2 := h.n2
  have h3 := h.d1
  have h4 := h.d2
  have h5 := h.num
  have h6 := h.den
  rw [if_neg (by omega), if_neg (by omega), h5, h6]
  simp only [decide_true, Bool.and_true, decide_eq_true_eq]
  omega
theorem Rt.of_right {n d : Int} (h : rightQ n d = true) : Rt n d := by
  unfold rightQ newQ Pure_ofQ at h
  rw [Bool.and_eq_true, decide_eq_true_eq, decide_eq_true_eq] at h
  obtain ⟨hd, h⟩ := h
  rw [if_neg (by omega)] at h
  by_cases hb : (Rat.divInt n d).num.natAbs > 2147483647 ∨ (Rat.divInt n d).den > 2147483647
  · rw [if_pos hb] at h
    simp only [Prod.mk.injEq] at h
    omega
  · rw [if_neg hb] at h
    simp only [Prod.mk.injEq, and_true] at h
    obtain ⟨h1, h2⟩ := h
    exact ⟨by omega, by omega, by omega, by omega, h1, h2⟩
theorem right_tells {n d : Int} (hn : I64 n) (hd : I64 d) : Ev (fun k => rat_Right.f k n d) (rightQ n d) := by
  refine Ev.bind (new_tells hn hd) ?_
  unfold rightQ
  by_cases h0 : d > 0
  · simp only [if_pos h0, decide_eq_true h0, Bool.true_and]
    obtain ⟨a, b, c⟩ := newQ n d
    simp only [Prod.mk.injEq]
    by_cases hc : c = 0
    · simp only [if_pos hc]
      refine ⟨0, fun _ _ => ?_⟩
      show some _ = some _
      congr 1
      rw [Bool.eq_iff_iff]
      simp [hc]
    · simp only [if_neg hc]
      refine ⟨0, fun _ _ => ?_⟩
      show some _ = some _
      congr 1
      simp [hc]
  · simp only [if_neg h0, decide_eq_false h0, Bool.false_and]
    exact Ev.now _
theorem Rt.i64n {n d : Int} (h : Rt n d) : I64 n := ⟨by have := h.n1; omega, by have := h.n2; omega⟩
theorem Rt.i64d {n d : Int} (h : Rt n d) : I64 d := ⟨by have := h.d1; omega, by have := h.d2; omega⟩
theorem Rt.ofQ {q : Rat} {n d : Int} (h : Pure_ofQ q = (n, d, 0)) : Rt n d ∧ Rat.divInt n d = q := by
  unfold Pure_ofQ at h
  by_cases hb : q.num.natAbs > 2147483647 ∨ q.den > 2147483647
  · rw [if_pos hb] at h; simp at h
  · rw [if_neg hb] at h
    simp only [Prod.mk.injEq, and_true] at h
    obtain ⟨rfl, rfl⟩ := h
    have e := Rat.num_divInt_den q
    have hd := q.den_pos
    exact ⟨⟨by omega, by omega, by omega, by omega, by rw [e], by rw [e]⟩, e⟩
theorem ofQ_rt {q : Rat} (h1 : q.num.natAbs ≤ 2147483647) (h2 : q.den ≤ 2147483647) : Pure_ofQ q = (q.num, (q.den : Int), 0) ∧ Rt q.num q.den := by
  have e : Pure_ofQ q = (q.num, (q.den : Int), 0) := by unfold Pure_ofQ; rw [if_neg (by omega)]
  exact ⟨e, (Rt.ofQ e).1⟩
theorem Rt.same {a b c d : Int} (h : Rt a b) (k : Rt c d) (e : Rat.divInt a b = Rat.divInt c d) : a = c ∧ b = d := by
  have h1 := h.num; have h2 := h.den; have k1 := k.num; have k2 := k.den
  rw [e] at h1 h2
  omega
theorem mulM {x y : Int} (hx : -2147483647 ≤ x ∧ x ≤ 2147483647) (hy : -2147483647 ≤ y ∧ y ≤ 2147483647) : -4611686014132420609 ≤ x * y ∧ x * y ≤ 4611686014132420609 := by
  have h := Nat.mul_le_mul (show x.natAbs ≤ 2147483647 by omega) (show y.natAbs ≤ 2147483647 by omega)
  rw [← Int.natAbs_mul] at h
  omega
/-! ### marigraphkeep.Rat: a right number, small -/
theorem within_ev {n lo hi : Int} (h1 : 0 ≤ lo + 1000) (h2 : lo ≤ hi) (h3 : hi < 2000000) (h4 : -1000 ≤ lo) (hn : I64 n) : ∃ r, Ev (fun k => marigraphbook_Within.f k n lo hi) r ∧ lo ≤ r ∧ r ≤ hi ∧ (lo ≤ n → n ≤ hi → r = n) := by
  unfold I64 at hn
  have e1 : wrap64 (wrap64 (hi - lo) + 1) = hi - lo + 1 := by unfold wrap64; omega
  have hj : ∀ b : Bool, (b = true ↔ (lo ≤ n ∧ n ≤ hi)) → ∃ r, (∀ k, marigraphbook_Within.j0 (k + 1) n lo hi b = some r) ∧ lo ≤ r ∧ r ≤ hi ∧ (lo ≤ n → n ≤ hi → r = n) := by
    intro b hb
    simp only [marigraphbook_Within.j0, e1]
    cases b with
    | true =>
      have := hb.1 rfl
      exact ⟨n, fun _ => by rw [if_pos rfl], this.1, this.2, fun _ _ => rfl⟩
    | false =>
      have hno : ¬ (lo ≤ n ∧ n ≤ hi) := fun h => by have := hb.2 h; cases this
      simp only [Bool.false_eq_true, if_false]
      rw [if_neg (by omega)]
      have hm : (0 : Int) < hi - lo + 1 := by omega
      have t1 : Int.tmod n (hi - lo + 1) < hi - lo + 1 := Int.tmod_lt_of_pos _ hm
      have t2 : -(hi - lo + 1) < Int.tmod n (hi - lo + 1) := by
        have := Int.tmod_lt_of_pos (-n) hm
        rw [Int.neg_tmod] at this
        omega
      generalize Int.tmod n (hi - lo + 1) = t at *
      by_cases ht : t < 0
      · rw [if_pos ht]
        have e : wrap64 (lo + wrap64 (wrap64 (wrap64 (t + hi) - lo) + 1)) = t + hi + 1 := by unfold wrap64; omega
        rw [e]
        exact ⟨_, fun _ => rfl, by omega, by omega, fun a b => absurd ⟨a, b⟩ hno⟩
      · rw [if_neg ht]
        have e : wrap64 (lo + t) = lo + t := by unfold wrap64; omega
        rw [e]
        exact ⟨_, fun _ => rfl, by omega, by omega, fun a b => absurd ⟨a, b⟩ hno⟩
  have fin : ∀ b : Bool, (∀ k, marigraphbook_Within.f k n lo hi = marigraphbook_Within.j0 k n lo hi b) → (b = true ↔ (lo ≤ n ∧ n ≤ hi)) → ∃ r, Ev (fun k => marigraphbook_Within.f k n lo hi) r ∧ lo ≤ r ∧ r ≤ hi ∧ (lo ≤ n → n ≤ hi → r = n) := by
    intro b hf hb
    obtain ⟨r, h, hr⟩ := hj b hb
    refine ⟨r, ⟨1, fun k hk => ?_⟩, hr⟩
    obtain ⟨k, rfl⟩ : ∃ m, k = m + 1 := ⟨k - 1, by omega⟩
    show marigraphbook_Within.f (k + 1) n lo hi = some r
    rw [hf]
    exact h k
  by_cases hlo : n ≥ lo
  · refine fin (decide (n ≤ hi)) (fun k => by unfold marigraphbook_Within.f; rw [if_pos hlo]) ?_
    rw [decide_eq_true_iff]
    exact ⟨fun h => ⟨hlo, h⟩, fun h => h.2⟩
  · refine fin false (fun k => by unfold marigraphbook_Within.f; rw [if_neg hlo]) ?_
    constructor
    · intro h; cases h
    · intro h; omega
def NoDiv (a b j : Int) : Prop := ∀ i : Int, 2 ≤ i → i < j → ¬ (i ∣ a ∧ i ∣ b)
theorem keep_loops (K : Nat) : (∀ (a b j : Int), 1 ≤ b → b ≤ 12 → -60 ≤ a → a ≤ 60 → 2 ≤ j → j ≤ 13 → 3 * b + 2 * (14 - j) + 1 ≤ K → NoDiv a b j → ∃ N D, marigraphkeep_Rat.l0 K a b j = some (N, D) ∧ 1 ≤ D ∧ D ≤ 12 ∧ -60 ≤ N ∧ N ≤ 60 ∧ NoDiv N D (D + 1)) ∧
    (∀ (a b j : Int), 1 ≤ b → b ≤ 12 → -60 ≤ a → a ≤ 60 → 2 ≤ j → j ≤ b → 3 * b + 2 * (14 - j) ≤ K → NoDiv a b j → ∃ N D, marigraphkeep_Rat.l1 K a b j = some (N, D) ∧ 1 ≤ D ∧ D ≤ 12 ∧ -60 ≤ N ∧ N ≤ 60 ∧ NoDiv N D (D + 1)) := by
  induction K with
  | zero => exact ⟨fun a b j h1 h2 h3 h4 h5 h6 hK => by omega, fun a b j h1 h2 h3 h4 h5 h6 hK => by omega⟩
  | succ K ih =>
    refine ⟨fun a b j h1 h2 h3 h4 h5 h6 hK hno => ?_, fun a b j h1 h2 h3 h4 h5 h6 hK hno => ?_⟩
    · simp only [marigraphkeep_Rat.l0]
      by_cases hj : j ≤ b
      · rw [if_pos hj]
        exact ih.2 a b j h1 h2 h3 h4 h5 hj (by omega) hno
      · rw [if_neg hj]
        exact ⟨a, b, rfl, h1, h2, h3, h4, fun i hi1 hi2 => hno i hi1 (by omega)⟩
    · simp only [marigraphkeep_Rat.l1]
      rw [if_neg (by omega)]
      have wj : wrap64 (j + 1) = j + 1 := wrap64_id ⟨by omega, by omega⟩
      have next : (¬ (j ∣ a ∧ j ∣ b)) → ∃ N D, marigraphkeep_Rat.l0 K a b (wrap64 (j + 1)) = some (N, D) ∧ 1 ≤ D ∧ D ≤ 12 ∧ -60 ≤ N ∧ N ≤ 60 ∧ NoDiv N D (D + 1) := by
        intro hnd
        rw [wj]
        refine ih.1 a b (j + 1) h1 h2 h3 h4 (by omega) (by omega) (by omega) (fun i hi1 hi2 hd => ?_)
        by_cases hij : i < j
        · exact hno i hi1 hij hd
        · obtain rfl : i = j := by omega
          exact hnd hd
      by_cases ha : Int.tmod a j = 0
      · rw [if_pos ha]
        have da : j ∣ a := Int.dvd_of_tmod_eq_zero ha
        by_cases hb : Int.tmod b j = 0
        · rw [if_pos hb]
          have db : j ∣ b := Int.dvd_of_tmod_eq_zero hb
          obtain ⟨x, rfl⟩ := da
          obtain ⟨y, rfl⟩ := db
          have ex : Int.tdiv (j * x) j = x := Int.mul_tdiv_cancel_left _ (by omega)
          have ey : Int.tdiv (j * y) j = y := Int.mul_tdiv_cancel_left _ (by omega)
          have y1 : 1 ≤ y := by
            by_cases hy : y ≤ 0
            · have := Int.mul_nonneg_of_nonpos_of_nonpos (show -j ≤ 0 by omega) hy
              rw [Int.neg_mul] at this
              omega
            · omega
          have y2 : 2 * y ≤ j * y := Int.mul_le_mul_of_nonneg_right h5 (by omega)
          have x1 : x.natAbs ≤ (j * x).natAbs := by
            rw [Int.natAbs_mul]
            exact Nat.le_mul_of_pos_left _ (by omega)
          rw [ex, ey, wrap64_id (show I64 x from ⟨by omega, by omega⟩), wrap64_id (show I64 y from ⟨by omega, by omega⟩)]
          have hno' : NoDiv x y j := fun i hi1 hi2 hd => hno i hi1 hi2 ⟨Int.dvd_trans hd.1 (Int.dvd_mul_left _ _), Int.dvd_trans hd.2 (Int.dvd_mul_left _ _)⟩
          by_cases hjy : j ≤ y
          · exact ih.2 x y j (by omega) (by omega) (by omega) (by omega) h5 hjy (by omega) hno'
          · obtain ⟨K', rfl⟩ : ∃ m, K = m + 1 := ⟨K - 1, by omega⟩
            simp only [marigraphkeep_Rat.l1]
            rw [if_neg (by omega)]
            have wj' : wrap64 (j + 1) = j + 1 := wj
            have stop : ∀ k' : Nat, 0 < k' → ∀ j' : Int, j ≤ j' → ∃ N D, marigraphkeep_Rat.l0 k' x y j' = some (N, D) ∧ 1 ≤ D ∧ D ≤ 12 ∧ -60 ≤ N ∧ N ≤ 60 ∧ NoDiv N D (D + 1) := by
              intro k' hk' j' hj'
              obtain ⟨k', rfl⟩ : ∃ m, k' = m + 1 := ⟨k' - 1, by omega⟩
              simp only [marigraphkeep_Rat.l0]
              rw [if_neg (by omega)]
              exact ⟨x, y, rfl, by omega, by omega, by omega, by omega, fun i hi1 hi2 => hno' i hi1 (by omega)⟩
            have hty : ¬ Int.tmod y j = 0 := by
              rw [Int.tmod_eq_of_lt (by omega) (by omega)]
              omega
            rw [wj', if_neg hty]
            by_cases hx : Int.tmod x j = 0
            · rw [if_pos hx]; exact stop K' (by omega) _ (by omega)
            · rw [if_neg hx]; exact stop K' (by omega) _ (by omega)
        · rw [if_neg hb]
          exact next (fun h => hb (Int.tmod_eq_zero_of_dvd h.2))
      · rw [if_neg ha]
        exact next (fun h => ha (Int.tmod_eq_zero_of_dvd h.1))
theorem rt_of_nodiv {N D : Int} (h1 : 1 ≤ D) (h2 : D ≤ 12) (h3 : -60 ≤ N) (h4 : N ≤ 60) (hno : NoDiv N D (D + 1)) : Rt N D := by
  have hg : Nat.gcd N.natAbs D.natAbs = 1 := by
    have hpos : 0 < Nat.gcd N.natAbs D.natAbs := Nat.gcd_pos_of_pos_right _ (by omega)
    have hle : Nat.gcd N.natAbs D.natAbs ≤ D.natAbs := Nat.le_of_dvd (by omega) (Nat.gcd_dvd_right _ _)
    by_cases h : Nat.gcd N.natAbs D.natAbs = 1
    · exact h
    · refine absurd ⟨?_, ?_⟩ (hno (Nat.gcd N.natAbs D.natAbs : Nat) (by omega) (by omega))
      · exact Int.natAbs_dvd_natAbs.1 (by rw [Int.natAbs_natCast]; exact Nat.gcd_dvd_left _ _)
      · exact Int.natAbs_dvd_natAbs.1 (by rw [Int.natAbs_natCast]; exact Nat.gcd_dvd_right _ _)
  obtain ⟨e1, _, e3⟩ := new_parts N D (by omega)
  rw [hg, Nat.div_one] at e1 e3
  rw [decide_eq_false (show ¬ D < 0 by omega)] at e3
  refine ⟨by omega, by omega, by omega, by omega, ?_, by omega⟩
  by_cases hn : N < 0
  · rw [decide_eq_true hn] at e3
    simp only [Bool.bne_false, if_true] at e3
    omega
  · rw [decide_eq_false hn] at e3
    simp only [bne_self_eq_false, Bool.false_eq_true, if_false] at e3
    omega
theorem keep_tells {x y : Int} (hx : I64 x) (hy : I64 y) : ∃ N D, Ev (fun k => marigraphkeep_Rat.f k x y) (N, D) ∧ Rt N D ∧ -60 ≤ N ∧ N ≤ 60 ∧ 1 ≤ D ∧ D ≤ 12 := by
  obtain ⟨a, ha, a1, a2, _⟩ := within_ev (lo := -60) (hi := 60) (by omega) (by omega) (by omega) (by omega) hx
  obtain ⟨b, hb, b1, b2, _⟩ := within_ev (lo := 1) (hi := 12) (by omega) (by omega) (by omega) (by omega) hy
  have hl : ∀ K : Nat, 100 ≤ K → ∃ N D, marigraphkeep_Rat.l0 K a b 2 = some (N, D) ∧ 1 ≤ D ∧ D ≤ 12 ∧ -60 ≤ N ∧ N ≤ 60 ∧ NoDiv N D (D + 1) :=
    fun K hK => (keep_loops K).1 a b 2 b1 b2 a1 a2 (by omega) (by omega) (by omega) (fun i h1 h2 => by omega)
  obtain ⟨N, D, h0, d1, d2, n1, n2, hno⟩ := hl 100 (by omega)
  refine ⟨N, D, ?_, rt_of_nodiv d1 d2 n1 n2 hno, n1, n2, d1, d2⟩
  refine Ev.bind ha (Ev.bind hb ?_)
  exact Ev.of (fun k => marigraphkeep_Rat.mono_l k |>.1 _ _ _) h0
/-! ### Cmp, Add, Sub, Mul, Div of right numbers -/
def VQ (n d : Int) : Rat := Rat.divInt n d
theorem ratlt {n d m e : Int} (h : Rt n d) (k : Rt m e) : n * e < m * d ↔ VQ n d < VQ m e := by
  rw [Rat.lt_iff]
  unfold VQ
  rw [h.num, h.den, k.num, k.den]
theorem rateq {n d m e : Int} (h : Rt n d) (k : Rt m e) : (n = m ∧ d = e) ↔ VQ n d = VQ m e := ⟨fun he => by rw [he.1, he.2], fun he => h.same k he⟩
def cmpQ (a b : Rat) : Int := if a < b then -1 else if a = b then 0 else 1
theorem prodw {x y : Int} (hx : -2147483647 ≤ x ∧ x ≤ 2147483647) (hy : -2147483647 ≤ y ∧ y ≤ 2147483647) : wrap64 (x * y) = x * y := by
  have := mulM hx hy
  exact wrap64_id ⟨by omega, by omega⟩
theorem exactQ {f : Nat → Option (Int × Int × Int)} {n d : Int} {q : Rat} (hn : I64 n) (hd : I64 d) (h0 : d ≠ 0) (hq : Rat.divInt n d = q) (hf : ∀ k, f (k + 1) = (rat_New.f k n d).bind fun t => some (t.1, t.2.1, t.2.2)) : Ev f (Pure_ofQ q) := by
  refine Ev.step hf ?_
  have h := new_tells hn hd
  have e : newQ n d = Pure_ofQ q := by unfold newQ; rw [if_neg h0, hq]
  rw [e] at h
  exact Ev.bind h (Ev.now _)
theorem cmp_tells {n d m e : Int} (h : Rt n d) (k : Rt m e) : Ev (fun K => rat_Cmp.f K n d m e) (cmpQ (VQ n d) (VQ m e)) := by
  have r1 := right_tells h.i64n h.i64d
  have r2 := right_tells k.i64n k.i64d
  rw [h.right] at r1
  rw [k.right] at r2
  refine Ev.bind r1 (Ev.bind r2 ?_)
  simp only [if_true, Bool.not_true]
  refine ⟨1, fun K hK => ?_⟩
  obtain ⟨K, rfl⟩ : ∃ m, K = m + 1 := ⟨K - 1, by omega⟩
  simp only [rat_Cmp.j0, Bool.false_eq_true, if_false, if_true]
  have h1 := h.n1; have h2 := h.n2; have h3 := h.d1; have h4 := h.d2
  have k1 := k.n1; have k2 := k.n2; have k3 := k.d1; have k4 := k.d2
  rw [prodw (x := n) (y := e) ⟨by omega, by omega⟩ ⟨by omega, by omega⟩, prodw (x := m) (y := d) ⟨by omega, by omega⟩ ⟨by omega, by omega⟩]
  unfold cmpQ
  by_cases hlt : n * e < m * d
  · rw [if_pos hlt, if_pos ((ratlt h k).1 hlt)]
  · rw [if_neg hlt, if_neg (fun hh => hlt ((ratlt h k).2 hh))]
    by_cases he : VQ n d = VQ m e
    · obtain ⟨e1, e2⟩ := (rateq h k).2 he
      rw [if_pos (by rw [e1, e2]; simp), if_pos he]
    · rw [if_neg (fun hh => he ((rateq h k).1 (by simpa using hh))), if_neg he]
theorem Add_tells {n d m e : Int} (h : Rt n d) (k : Rt m e) : Ev (fun K => rat_Add.f K n d m e) (Pure_ofQ (VQ n d + VQ m e)) := by
  have r1 := right_tells h.i64n h.i64d
  have r2 := right_tells k.i64n k.i64d
  rw [h.right] at r1
  rw [k.right] at r2
  have h1 := h.n1; have h2 := h.n2; have h3 := h.d1; have h4 := h.d2
  have k1 := k.n1; have k2 := k.n2; have k3 := k.d1; have k4 := k.d2
  have hd0 : d ≠ 0 := by omega
  have he0 : e ≠ 0 := by omega
  have p1 := mulM (x := n) (y := e) ⟨by omega, by omega⟩ ⟨by omega, by omega⟩
  have p2 := mulM (x := m) (y := d) ⟨by omega, by omega⟩ ⟨by omega, by omega⟩
  have p3 := mulM (x := d) (y := e) ⟨by omega, by omega⟩ ⟨by omega, by omega⟩
  have p4 := mulM (x := n) (y := m) ⟨by omega, by omega⟩ ⟨by omega, by omega⟩
  have hde : d * e ≠ 0 := Int.mul_ne_zero hd0 he0
  refine Ev.bind (g := fun K => rat_exact_of_rat_Add_1_rat_both.f K n d m e) (a := Pure_ofQ (VQ n d + VQ m e)) (f := fun _ b => some (b.1, b.2.1, b.2.2)) (Ev.bind r1 ?_) (Ev.now _)
  simp only [if_true]
  refine Ev.bind r2 ?_
  refine exactQ (n := n * e + m * d) (d := d * e) ⟨by omega, by omega⟩ ⟨by omega, by omega⟩ hde ?_ (fun K => ?_)
  · exact (Rat.divInt_add_divInt _ _ hd0 he0).symm
  · simp only [rat_exact_of_rat_Add_1_rat_both.j0, rat_Add_1.f, rat_both.f, Bool.not_true, Bool.false_eq_true, if_false, Option.bind_some]
    rw [wrap64_id (x := d * e) ⟨by omega, by omega⟩]
    rw [wrap64_id (x := n * e) ⟨by omega, by omega⟩, wrap64_id (x := m * d) ⟨by omega, by omega⟩, wrap64_id (x := n * e + m * d) ⟨by omega, by omega⟩]
theorem Mul_tells {n d m e : Int} (h : Rt n d) (k : Rt m e) : Ev (fun K => rat_Mul.f K n d m e) (Pure_ofQ (VQ n d * VQ m e)) := by
  have r1 := right_tells h.i64n h.i64d
  have r2 := right_tells k.i64n k.i64d
  rw [h.right] at r1
  rw [k.right] at r2
  have h1 := h.n1; have h2 := h.n2; have h3 := h.d1; have h4 := h.d2
  have k1 := k.n1; have k2 := k.n2; have k3 := k.d1; have k4 := k.d2
  have hd0 : d ≠ 0 := by omega
  have he0 : e ≠ 0 := by omega
  have p1 := mulM (x := n) (y := e) ⟨by omega, by omega⟩ ⟨by omega, by omega⟩
  have p2 := mulM (x := m) (y := d) ⟨by omega, by omega⟩ ⟨by omega, by omega⟩
  have p3 := mulM (x := d) (y := e) ⟨by omega, by omega⟩ ⟨by omega, by omega⟩
  have p4 := mulM (x := n) (y := m) ⟨by omega, by omega⟩ ⟨by omega, by omega⟩
  have hde : d * e ≠ 0 := Int.mul_ne_zero hd0 he0
  refine Ev.bind (g := fun K => rat_exact_of_rat_Mul_1_rat_both.f K n d m e) (a := Pure_ofQ (VQ n d * VQ m e)) (f := fun _ b => some (b.1, b.2.1, b.2.2)) (Ev.bind r1 ?_) (Ev.now _)
  simp only [if_true]
  refine Ev.bind r2 ?_
  refine exactQ (n := n * m) (d := d * e) ⟨by omega, by omega⟩ ⟨by omega, by omega⟩ hde ?_ (fun K => ?_)
  · exact (Rat.divInt_mul_divInt n m).symm
  · simp only [rat_exact_of_rat_Mul_1_rat_both.j0, rat_Mul_1.f, rat_both.f, Bool.not_true, Bool.false_eq_true, if_false, Option.bind_some]
    rw [wrap64_id (x := d * e) ⟨by omega, by omega⟩]
    rw [wrap64_id (x := n * m) ⟨by omega, by omega⟩]
theorem Div_tells {n d m e : Int} (h : Rt n d) (k : Rt m e) : Ev (fun K => rat_Div.f K n d m e) (newQ (n * e) (d * m)) := by
  have r1 := right_tells h.i64n h.i64d
  have r2 := right_tells k.i64n k.i64d
  rw [h.right] at r1
  rw [k.right] at r2
  have h1 := h.n1; have h2 := h.n2; have h3 := h.d1; have h4 := h.d2
  have k1 := k.n1; have k2 := k.n2; have k3 := k.d1; have k4 := k.d2
  have p1 := mulM (x := n) (y := e) ⟨by omega, by omega⟩ ⟨by omega, by omega⟩
  have p2 := mulM (x := d) (y := m) ⟨by omega, by omega⟩ ⟨by omega, by omega⟩
  refine Ev.bind (g := fun K => rat_exact_of_rat_Div_1_rat_Div_2.f K n d m e) (a := newQ (n * e) (d * m)) (f := fun _ b => some (b.1, b.2.1, b.2.2)) (Ev.bind r1 ?_) (Ev.now _)
  simp only [if_true]
  refine Ev.bind r2 ?_
  refine Ev.step (f := fun K => (rat_New.f K (n * e) (d * m)).bind fun t => some (t.1, t.2.1, t.2.2)) (fun K => ?_) (Ev.bind (new_tells ⟨by omega, by omega⟩ ⟨by omega, by omega⟩) (Ev.now _))
  simp only [rat_exact_of_rat_Div_1_rat_Div_2.j0, rat_Div_1.f, rat_Div_2.f, Bool.not_true, Bool.false_eq_true, if_false, Option.bind_some]
  rw [wrap64_id (x := n * e) ⟨by omega, by omega⟩, wrap64_id (x := d * m) ⟨by omega, by omega⟩]
theorem div_divInt (n d m e : Int) : Rat.divInt (n * e) (d * m) = VQ n d / VQ m e := by
  unfold VQ
  rw [Rat.div_def, Rat.inv_divInt, Rat.divInt_mul_divInt]
/-! ### how great sums and products are -/
def Bnd (q : Rat) (A B : Nat) : Prop := q.num.natAbs ≤ A ∧ q.den ≤ B
theorem bnd_of {n d : Int} (hd : d ≠ 0) : Bnd (Rat.divInt n d) n.natAbs d.natAbs := by
  obtain ⟨e1, e2, _⟩ := new_parts n d hd
  exact ⟨by rw [e2]; exact Nat.div_le_self _ _, by rw [e1]; exact Nat.div_le_self _ _⟩
theorem Bnd.le {q : Rat} {A B C D : Nat} (h : Bnd q A B) (h1 : A ≤ C) (h2 : B ≤ D) : Bnd q C D := ⟨Nat.le_trans h.1 h1, Nat.le_trans h.2 h2⟩
theorem bnd_add {q r : Rat} {A B C D : Nat} (h : Bnd q A B) (k : Bnd r C D) : Bnd (q + r) (A * D + C * B) (B * D) := by
  have e1 := Rat.num_divInt_den q
  have e2 := Rat.num_divInt_den r
  have hq := q.den_pos
  have hr := r.den_pos
  have e : q + r = Rat.divInt (q.num * r.den + r.num * q.den) (q.den * r.den) := by
    conv => lhs; rw [← e1, ← e2]
    exact Rat.divInt_add_divInt _ _ (by omega) (by omega)
  rw [e]
  refine (bnd_of (Int.mul_ne_zero (by omega) (by omega))).le ?_ ?_
  · have h1 := Nat.mul_le_mul h.1 k.2
    have h2 := Nat.mul_le_mul k.1 h.2
    have h3 := Int.natAbs_add_le (q.num * r.den) (r.num * q.den)
    rw [Int.natAbs_mul, Int.natAbs_mul, Int.natAbs_natCast, Int.natAbs_natCast] at h3
    omega
  · rw [Int.natAbs_mul, Int.natAbs_natCast, Int.natAbs_natCast]
    exact Nat.mul_le_mul h.2 k.2
/-- What a rational within the bounds is told as. -/
theorem told {q : Rat} {A B : Nat} (h : Bnd q A B) (hA : A ≤ 2147483647) (hB : B ≤ 2147483647) : Pure_ofQ q = (q.num, (q.den : Int), 0) ∧ Rt q.num q.den := ofQ_rt (Nat.le_trans h.1 hA) (Nat.le_trans h.2 hB)
theorem VQ_self (q : Rat) : VQ q.num q.den = q := Rat.num_divInt_den q
theorem Rt.toQ {n d : Int} (h : Rt n d) : (VQ n d).num = n ∧ ((VQ n d).den : Int) = d := ⟨h.num, h.den⟩
theorem rt_one {n : Int} (h1 : -2147483647 ≤ n) (h2 : n ≤ 2147483647) : Rt n 1 := by
  obtain ⟨e1, e2, e3⟩ := new_parts n 1 (by decide)
  simp only [Int.natAbs_one, Nat.gcd_one_right, Nat.div_one] at e1 e2 e3
  refine ⟨h1, h2, by decide, by decide, ?_, by rw [e1]; rfl⟩
  by_cases hn : n < 0
  · simp [hn] at e3; omega
  · simp [hn] at e3; omega
theorem vq_one (n : Int) : VQ n 1 = (n : Rat) := by
  have h := Rat.num_divInt_den (n : Rat)
  rw [Rat.num_intCast, Rat.den_intCast] at h
  exact h
theorem of_tells {n : Int} (h1 : -2147483647 ≤ n) (h2 : n ≤ 2147483647) : Ev (fun k => rat_Of.f k n) (n, 1, 0) := by
  have h := new_tells (n := n) (d := 1) ⟨by omega, by omega⟩ ⟨by decide, by decide⟩
  have r := rt_one h1 h2
  have e : newQ n 1 = (n, 1, 0) := by
    unfold newQ Pure_ofQ
    have := r.num; have := r.den
    rw [if_neg (by decide), if_neg (by omega), r.num, r.den]
  rw [e] at h
  exact Ev.bind h (Ev.now _)
/-! the document's test of a number -/
theorem rgcd_tells (b : Nat) : ∀ (a k : Nat), b < k → marigraphref1_gcd.l0 k (a : Int) (b : Int) = some ((Nat.gcd a b : Nat) : Int) := by
  induction b using Nat.strongRecOn with
  | _ b ih =>
    intro a k hk
    obtain ⟨k, rfl⟩ : ∃ m, k = m + 1 := ⟨k - 1, by omega⟩
    simp only [marigraphref1_gcd.l0]
    by_cases hb : b = 0
    · subst hb
      rw [if_pos (by omega), Nat.gcd_zero_right]
    · rw [if_neg (by omega)]
      have e : Int.tmod (a : Int) (b : Int) = ((a % b : Nat) : Int) := by rw [Int.ofNat_tmod]
      have hl : a % b < b := Nat.mod_lt _ (by omega)
      rw [e, ih (a % b) hl b k (by omega), Nat.gcd_comm a b, Nat.gcd_rec b a, Nat.gcd_comm]
theorem rightQ_gcd {n d : Int} (h1 : 1 ≤ d) (h2 : d ≤ 2147483647) (h3 : -2147483647 ≤ n) (h4 : n ≤ 2147483647) : rightQ n d = (((Nat.gcd n.natAbs d.natAbs : Nat) : Int) == 1) := by
  have h0 : d ≠ 0 := by omega
  obtain ⟨e1, e2, e3⟩ := new_parts n d h0
  have hpos : 0 < Nat.gcd n.natAbs d.natAbs := Nat.gcd_pos_of_pos_right _ (by omega)
  have hdv : Nat.gcd n.natAbs d.natAbs ∣ d.natAbs := Nat.gcd_dvd_right _ _
  rw [Bool.eq_iff_iff, beq_iff_eq]
  constructor
  · intro h
    have hr := Rt.of_right h
    have hden := hr.den
    rw [e1] at hden
    generalize Nat.gcd n.natAbs d.natAbs = g at *
    obtain ⟨c, hc⟩ := hdv
    rw [hc, Nat.mul_div_cancel_left _ hpos] at hden
    have hcd : c = d.natAbs := by omega
    rw [hcd] at hc
    have : g = 1 := Nat.eq_of_mul_eq_mul_right (show 0 < d.natAbs by omega) (by rw [Nat.one_mul]; exact hc.symm)
    omega
  · intro h
    have hg : Nat.gcd n.natAbs d.natAbs = 1 := by omega
    rw [hg, Nat.div_one] at e1 e3
    refine Rt.right ⟨h3, h4, h1, h2, ?_, by omega⟩
    by_cases hn : n < 0
    · rw [decide_eq_true hn, decide_eq_false (show ¬ d < 0 by omega)] at e3
      simp only [Bool.bne_false, if_true] at e3
      omega
    · rw [decide_eq_false hn, decide_eq_false (show ¬ d < 0 by omega)] at e3
      simp only [bne_self_eq_false, Bool.false_eq_true, if_false] at e3
      omega
theorem rright_tells {n d : Int} (hn : I64 n) (hd : I64 d) : Ev (fun k => marigraphref1_Right.f k n d) (rightQ n d) := by
  have jt : ∀ x y, Ev (fun k => marigraphref1_Right.j0 k true x y) false := fun x y => ⟨1, fun k hk => by
    obtain ⟨k, rfl⟩ : ∃ m, k = m + 1 := ⟨k - 1, by omega⟩
    simp only [marigraphref1_Right.j0, if_true]⟩
  have no : (¬ (1 ≤ d ∧ d ≤ 2147483647 ∧ -2147483647 ≤ n ∧ n ≤ 2147483647)) → rightQ n d = false := by
    intro h
    cases hr : rightQ n d with
    | false => rfl
    | true =>
      have := Rt.of_right hr
      exact absurd ⟨this.d1, this.d2, this.n1, this.n2⟩ h
  have un : ∀ k, marigraphref1_Right.f k n d = if d < 1 then (marigraphref1_Right.j0 k true n d) else (if d > 2147483647 then (marigraphref1_Right.j0 k true n d) else (if n < (-2147483647) then (marigraphref1_Right.j0 k true n d) else (marigraphref1_Right.j0 k (decide (n > 2147483647)) n d))) := fun k => rfl
  refine evEq un ?_
  by_cases h1 : d < 1
  · simp only [if_pos h1]
    rw [no (by omega)]
    exact jt _ _
  simp only [if_neg h1]
  by_cases h2 : d > 2147483647
  · simp only [if_pos h2]
    rw [no (by omega)]
    exact jt _ _
  simp only [if_neg h2]
  by_cases h3 : n < -2147483647
  · simp only [if_pos h3]
    rw [no (by omega)]
    exact jt _ _
  simp only [if_neg h3]
  by_cases h4 : n > 2147483647
  · rw [decide_eq_true h4, no (by omega)]
    exact jt _ _
  rw [decide_eq_false h4, rightQ_gcd (by omega) (by omega) (by omega) (by omega)]
  refine ⟨d.natAbs + 2, fun k hk => ?_⟩
  obtain ⟨k, rfl⟩ : ∃ m, k = m + 1 := ⟨k - 1, by omega⟩
  simp only [marigraphref1_Right.j0, Bool.false_eq_true, if_false]
  have ha : marigraphref1_abs.f n = some (n.natAbs : Int) := by
    unfold marigraphref1_abs.f
    by_cases hn0 : n < 0
    · rw [if_pos hn0, wrap64_id ⟨by omega, by omega⟩]
      congr 1
      omega
    · rw [if_neg hn0]
      congr 1
      omega
  rw [ha]
  simp only [Option.bind_some]
  unfold marigraphref1_gcd.f
  have := rgcd_tells d.natAbs n.natAbs k (by omega)
  rw [show ((d.natAbs : Nat) : Int) = d by omega] at this
  rw [this]
  simp only [Option.bind_some]
theorem rcmp_tells {n d m e : Int} (h : Rt n d) (k : Rt m e) : Ev (fun K => marigraphref1_Cmp.f K n d m e) (cmpQ (VQ n d) (VQ m e)) := by
  have r1 := rright_tells h.i64n h.i64d
  have r2 := rright_tells k.i64n k.i64d
  rw [h.right] at r1
  rw [k.right] at r2
  refine Ev.bind r1 (Ev.bind r2 ?_)
  simp only [if_true]
  refine ⟨1, fun K hK => ?_⟩
  obtain ⟨K, rfl⟩ : ∃ m, K = m + 1 := ⟨K - 1, by omega⟩
  simp only [marigraphref1_Cmp.j0, Bool.false_eq_true, if_false, if_true]
  have h1 := h.n1; have h2 := h.n2; have h3 := h.d1; have h4 := h.d2
  have k1 := k.n1; have k2 := k.n2; have k3 := k.d1; have k4 := k.d2
  rw [prodw (x := n) (y := e) ⟨by omega, by omega⟩ ⟨by omega, by omega⟩, prodw (x := m) (y := d) ⟨by omega, by omega⟩ ⟨by omega, by omega⟩]
  unfold cmpQ
  by_cases hlt : n * e < m * d
  · rw [if_pos hlt, if_pos ((ratlt h k).1 hlt)]
  · rw [if_neg hlt, if_neg (fun hh => hlt ((ratlt h k).2 hh))]
    by_cases hgt : n * e > m * d
    · rw [if_pos hgt]
      have := (ratlt k h).1 hgt
      rw [if_neg (fun he => by rw [he] at this; exact absurd this (Rat.lt_irrefl))]
    · rw [if_neg hgt]
      have h5 : ¬ VQ m e < VQ n d := fun hh => hgt ((ratlt k h).2 hh)
      have h6 : ¬ VQ n d < VQ m e := fun hh => hlt ((ratlt h k).2 hh)
      rw [if_pos (Rat.le_antisymm (Rat.not_lt.1 h5) (Rat.not_lt.1 h6))]
/-! ### fold.Do beside the document's, for any numbers -/
theorem evDown {α : Type} {g : Nat → Option α} {r : α} (h : Ev (fun k => g (k + 1)) r) : Ev g r := let ⟨K, hK⟩ := h; ⟨K + 1, fun k hk => by
  obtain ⟨m, rfl⟩ : ∃ m, k = m + 1 := ⟨k - 1, by omega⟩
  exact hK m (by omega)⟩
theorem ofQ_eta {q : Rat} (h : (Pure_ofQ q).2.2 = 0) : Rt (Pure_ofQ q).1 (Pure_ofQ q).2.1 := (Rt.ofQ (q := q) (n := (Pure_ofQ q).1) (d := (Pure_ofQ q).2.1) (by rw [← h])).1
def rat_ (l : List S23) (j : Nat) : S23 := l.getD j z23
def NumP (l : List S23) : Prop := ∀ j : Nat, j < l.length → I64 (rat_ l j).f0 ∧ I64 (rat_ l j).f1
def allR : List S23 → Bool
  | [] => true
  | x :: l => rightQ x.f0 x.f1 && allR l
theorem NumP.tail {x : S23} {l : List S23} (h : NumP (x :: l)) : NumP l := fun j hj => h (j + 1) (by rw [List.length_cons]; omega)
theorem badI_tells : ∀ l : List S23, NumP l → Ev (fun k => badI k l) (!allR l) := by
  intro l
  induction l with
  | nil => intro _; exact Ev.now _
  | cons x l ih =>
    intro h
    obtain ⟨i0, i1⟩ := h 0 (by simp)
    have i0 : I64 x.f0 := i0
    have i1 : I64 x.f1 := i1
    have hd : Ev (fun k => fold_Do_1.f k x.f0 x.f1) (!rightQ x.f0 x.f1) := Ev.bind (right_tells i0 i1) (Ev.now _)
    have un : ∀ k, badI k (x :: l) = (fold_Do_1.f k x.f0 x.f1).bind fun t => if t = true then some true else badI k l := fun k => rfl
    refine evEq un (Ev.bind hd ?_)
    unfold allR
    cases rightQ x.f0 x.f1 with
    | true => simp only [Bool.not_true, Bool.false_eq_true, if_false, Bool.true_and]; exact ih h.tail
    | false => simp only [Bool.not_false, if_true, Bool.false_and]; exact Ev.now _
theorem allR_rt {l : List S23} (h : allR l = true) : ∀ j : Nat, j < l.length → Rt (rat_ l j).f0 (rat_ l j).f1 := by
  induction l with
  | nil => intro j hj; simp at hj
  | cons x l ih =>
    intro j hj
    unfold allR at h
    rw [Bool.and_eq_true] at h
    cases j with
    | zero => exact Rt.of_right h.1
    | succ j => exact ih h.2 j (by rw [List.length_cons] at hj; omega)
/-- One step of the folds that go on: sum, least, greatest, average. -/
def stX (how n d m e : Int) : Int × Int × Int :=
  if how = 2 then (if cmpQ (VQ m e) (VQ n d) < 0 then (m, e, 0) else (n, d, 0)) else if how = 3 then (if cmpQ (VQ m e) (VQ n d) > 0 then (m, e, 0) else (n, d, 0)) else Pure_ofQ (VQ n d + VQ m e)
theorem stX_rt {how n d m e : Int} (h : Rt n d) (k : Rt m e) (h0 : (stX how n d m e).2.2 = 0) : Rt (stX how n d m e).1 (stX how n d m e).2.1 := by
  unfold stX at h0 ⊢
  by_cases h2 : how = 2
  · rw [if_pos h2]
    split
    · exact k
    · exact h
  rw [if_neg h2] at h0 ⊢
  by_cases h3 : how = 3
  · rw [if_pos h3]
    split
    · exact k
    · exact h
  rw [if_neg h3] at h0 ⊢
  exact ofQ_eta h0
theorem stepI_tells {how n d m e : Int} (h : Rt n d) (k : Rt m e) (hh : how ≠ 5 ∧ how ≠ 6 ∧ how ≠ 7) : Ev (fun K => stepI K how n d m e) (stX how n d m e) := by
  have un : ∀ K, stepI K how n d m e = if how = 2 then (fold_steps_2.f K n d m e).bind fun b => some (pickI b n d m e) else if how = 3 then (fold_steps_3.f K n d m e).bind fun b => some (pickI b n d m e) else rat_Add.f K n d m e := fun K => by
    unfold stepI
    by_cases h2 : how = 2
    · rw [if_pos h2, if_pos h2]
    rw [if_neg h2, if_neg h2]
    by_cases h3 : how = 3
    · rw [if_pos h3, if_pos h3]
    rw [if_neg h3, if_neg h3, if_neg (fun hc => hc.elim hh.2.1 hh.1), if_neg hh.2.2]
  refine evEq un ?_
  unfold stX
  by_cases h2 : how = 2
  · simp only [if_pos h2]
    have hs : Ev (fun K => fold_steps_2.f K n d m e) (decide (cmpQ (VQ m e) (VQ n d) < 0)) := Ev.bind (cmp_tells k h) (Ev.now _)
    refine Ev.bind hs ?_
    unfold pickI
    by_cases hc : cmpQ (VQ m e) (VQ n d) < 0
    · simp only [decide_eq_true hc, if_true, if_pos hc]; exact Ev.now _
    · simp only [decide_eq_false hc, Bool.false_eq_true, if_false, if_neg hc]; exact Ev.now _
  simp only [if_neg h2]
  by_cases h3 : how = 3
  · simp only [if_pos h3]
    have hs : Ev (fun K => fold_steps_3.f K n d m e) (decide (cmpQ (VQ m e) (VQ n d) > 0)) := Ev.bind (cmp_tells k h) (Ev.now _)
    refine Ev.bind hs ?_
    unfold pickI
    by_cases hc : cmpQ (VQ m e) (VQ n d) > 0
    · simp only [decide_eq_true hc, if_true, if_pos hc]; exact Ev.now _
    · simp only [decide_eq_false hc, Bool.false_eq_true, if_false, if_neg hc]; exact Ev.now _
  simp only [if_neg h3]
  exact Add_tells h k
def fdX (how : Int) : List S23 → Int → Int → Int × Int × Int
  | [], n, d => (n, d, 0)
  | x :: l, n, d => if (stX how n d x.f0 x.f1).2.2 = 0 then fdX how l (stX how n d x.f0 x.f1).1 (stX how n d x.f0 x.f1).2.1 else (0, 0, (stX how n d x.f0 x.f1).2.2)
theorem foldI_tells {how : Int} (hh : how ≠ 5 ∧ how ≠ 6 ∧ how ≠ 7) : ∀ (l : List S23) (n d : Int), Rt n d → allR l = true → Ev (fun k => foldI k how l n d) (fdX how l n d) ∧ ((fdX how l n d).2.2 = 0 → Rt (fdX how l n d).1 (fdX how l n d).2.1) := by
  intro l
  induction l with
  | nil => intro n d h _; exact ⟨Ev.now _, fun _ => h⟩
  | cons x l ih =>
    intro n d h ha
    unfold allR at ha
    rw [Bool.and_eq_true] at ha
    have hx := Rt.of_right ha.1
    have un : ∀ k, foldI k how (x :: l) n d = (stepI k how n d x.f0 x.f1).bind fun r => if r.2.2 = 0 then foldI k how l r.1 r.2.1 else some (0, 0, r.2.2) := fun k => rfl
    have hs := stepI_tells h hx hh
    unfold fdX
    by_cases h0 : (stX how n d x.f0 x.f1).2.2 = 0
    · obtain ⟨e1, e2⟩ := ih _ _ (stX_rt h hx h0) ha.2
      rw [if_pos h0]
      refine ⟨evEq un (Ev.bind hs ?_), e2⟩
      simp only [if_pos h0]
      exact e1
    · rw [if_neg h0]
      refine ⟨evEq un (Ev.bind hs ?_), fun hc => absurd hc h0⟩
      simp only [if_neg h0]
      exact Ev.now _
/-! first, last, count -/
theorem fold_first (how : Int) (hh : how = 6 ∨ how = 5) : ∀ (l : List S23) (n d : Int) (k : Nat), foldI k how l n d = some (n, d, 0) := by
  intro l
  induction l with
  | nil => intro n d k; rfl
  | cons x l ih =>
    intro n d k
    have e : stepI k how n d x.f0 x.f1 = some (n, d, 0) := by
      unfold stepI
      rw [if_neg (by omega), if_neg (by omega), if_pos hh]
      rfl
    show (stepI k how n d x.f0 x.f1).bind _ = _
    rw [e]
    show (if (0 : Int) = 0 then foldI k how l n d else some (0, 0, 0)) = _
    rw [if_pos rfl]
    exact ih n d k
def lastP : List S23 → S23 → S23
  | [], x => x
  | y :: l, _ => lastP l y
theorem fold_last : ∀ (l : List S23) (x : S23) (k : Nat), foldI k 7 l x.f0 x.f1 = some ((lastP l x).f0, (lastP l x).f1, 0) := by
  intro l
  induction l with
  | nil => intro x k; rfl
  | cons y l ih =>
    intro x k
    show (stepI k 7 x.f0 x.f1 y.f0 y.f1).bind _ = _
    have e : stepI k 7 x.f0 x.f1 y.f0 y.f1 = some (y.f0, y.f1, 0) := rfl
    rw [e]
    show (if (0 : Int) = 0 then foldI k 7 l y.f0 y.f1 else some (0, 0, 0)) = _
    rw [if_pos rfl]
    exact ih y k
theorem rat_last : ∀ (l : List S23) (x : S23), rat_ (x :: l) l.length = lastP l x := by
  intro l
  induction l with
  | nil => intro x; rfl
  | cons y l ih => intro x; exact ih y
/-! ### the law's small numbers -/
structure Sml (x : S23) : Prop where
  rt : Rt x.f0 x.f1
  lo : -60 ≤ x.f0
  hi : x.f0 ≤ 60
  dd : x.f1 ≤ 12
theorem rd_i64 {l : List Int} (h : ∀ x ∈ l, I64 x) (j : Nat) : I64 (rd l (j : Int)) := by
  have : rd l (j : Int) = l.getD j 0 := rfl
  rw [this, List.getD_eq_getElem?_getD]
  cases hj : l[j]? with
  | none => exact ⟨by decide, by decide⟩
  | some x => exact h x (List.mem_of_getElem? hj)
theorem rats_loop {l : List Int} (hl : ∀ x ∈ l, I64 x) {M : Nat} (hM : M ≤ 12) : ∀ (n i : Nat) (acc : List S23), M - i = n → acc.length = i → i ≤ M → (∀ x ∈ acc, Sml x) →
    ∃ m, Ev (fun k => marigraphlaw20_rats.l0 k l (M : Int) acc (i : Int)) m ∧ m.length ≤ M ∧ (∀ x ∈ m, Sml x) := by
  intro n
  induction n with
  | zero =>
    intro i acc hn ha hi hs
    have hw : wrap64 ((i : Int) + 1) = ((i + 1 : Nat) : Int) := by unfold wrap64; omega
    refine ⟨acc, evDown ?_, by omega, hs⟩
    simp only [marigraphlaw20_rats.l0, hw, if_neg (show ¬ (acc.length : Int) < (M : Int) by omega), ite_self]
    exact Ev.now _
  | succ n ih =>
    intro i acc hn ha hi hs
    have hw : wrap64 ((i : Int) + 1) = ((i + 1 : Nat) : Int) := by unfold wrap64; omega
    by_cases hlt : i + 1 < l.length
    · obtain ⟨N, D, e1, r1, b1, b2, b3, b4⟩ := keep_tells (rd_i64 hl i) (rd_i64 hl (i + 1))
      have hs' : ∀ x ∈ acc ++ [(⟨N, D⟩ : S23)], Sml x := by
        intro x hx
        rcases List.mem_append.1 hx with hx | hx
        · exact hs x hx
        · rw [List.mem_singleton] at hx
          subst hx
          exact ⟨r1, b1, b2, b4⟩
      obtain ⟨m, e2, h2, h3⟩ := ih (i + 1) (acc ++ [⟨N, D⟩]) (by omega) (by rw [List.length_append, List.length_singleton]; omega) (by omega) hs'
      refine ⟨m, evDown ?_, h2, h3⟩
      simp only [marigraphlaw20_rats.l0, hw, if_pos (show ((i + 1 : Nat) : Int) < (l.length : Int) by omega), if_pos (show (acc.length : Int) < (M : Int) by omega), if_pos (show 0 ≤ (i : Int) by omega), if_pos (show (i : Int) < (l.length : Int) by omega), if_pos (show 0 ≤ ((i + 1 : Nat) : Int) by omega)]
      refine Ev.bind e1 ?_
      simp only [if_pos (show acc.length < 8796093022208 by omega)]
      exact e2
    · refine ⟨acc, evDown ?_, by omega, hs⟩
      simp only [marigraphlaw20_rats.l0, hw, if_neg (show ¬ ((i + 1 : Nat) : Int) < (l.length : Int) by omega)]
      exact Ev.now _
theorem rats_tells {l : List Int} (hl : ∀ x ∈ l, I64 x) {M : Nat} (hM : M ≤ 12) : ∃ m, Ev (fun k => marigraphlaw20_rats.f k l (M : Int)) m ∧ m.length ≤ M ∧ (∀ x ∈ m, Sml x) :=
  rats_loop hl hM M 0 [] rfl rfl (Nat.zero_le _) (fun _ hx => by cases hx)
/-! ### sums, least and greatest ones, counts -/
theorem num_rt {l : List S23} (h : allR l = true) : NumP l := fun j hj => ⟨(allR_rt h j hj).i64n, (allR_rt h j hj).i64d⟩
theorem right7 {how : Int} (h1 : 1 ≤ how) (h2 : how ≤ 7) : fold_Right.f how = some true := by
  unfold fold_Right.f
  rw [if_pos h1, decide_eq_true h2]
theorem do_start {how : Int} (h1 : 1 ≤ how) (h2 : how ≤ 7) {x : S23} {xs : List S23} (ha : allR (x :: xs) = true) (hn : (x :: xs).length ≤ 1000) {r : Int × Int × Int} (h : Ev (fun k => (foldI k how xs x.f0 x.f1).bind fun r => if r.2.2 = 0 then fold_Do.rest k how (x :: xs).length r.1 r.2.1 else some (0, 0, r.2.2)) r) : Ev (fun k => fold_Do.f k how (x :: xs)) r := by
  have hbad := badI_tells (x :: xs) (num_rt ha)
  rw [ha] at hbad
  have un : ∀ k, fold_Do.f k how (x :: xs) = (badI k (x :: xs)).bind fun b => if b = true then some (0, 0, 1) else (foldI k how xs x.f0 x.f1).bind fun r => if r.2.2 = 0 then fold_Do.rest k how (x :: xs).length r.1 r.2.1 else some (0, 0, r.2.2) := fun k => by
    unfold fold_Do.f
    rw [if_pos (by omega), right7 h1 h2]
    rfl
  refine evEq un (Ev.bind hbad ?_)
  simp only [Bool.not_true, Bool.false_eq_true, if_false]
  exact h
theorem of_ev {n : Nat} (hn : n ≤ 1000) : Ev (fun k => rat_Of.f k (n : Int)) ((n : Int), 1, 0) := of_tells (by omega) (by omega)
theorem do_plain {how : Int} (hh : how = 1 ∨ how = 2 ∨ how = 3) {x : S23} {xs : List S23} (ha : allR (x :: xs) = true) (hn : (x :: xs).length ≤ 1000) {N D : Int} (hf : fdX how xs x.f0 x.f1 = (N, D, 0)) : Ev (fun k => fold_Do.f k how (x :: xs)) (N, D, 0) := by
  have ha2 := ha
  unfold allR at ha2
  rw [Bool.and_eq_true] at ha2
  obtain ⟨e1, _⟩ := foldI_tells (how := how) (by omega) xs x.f0 x.f1 (Rt.of_right ha2.1) ha2.2
  rw [hf] at e1
  refine do_start (by omega) (by omega) ha hn (Ev.bind e1 ?_)
  simp only [if_true]
  refine Ev.bind (of_ev hn) ?_
  simp only [if_true, if_neg (show ¬ how = 5 by omega), if_neg (show ¬ how = 4 by omega)]
  exact Ev.now _
theorem do_count {x : S23} {xs : List S23} (ha : allR (x :: xs) = true) (hn : (x :: xs).length ≤ 1000) : Ev (fun k => fold_Do.f k 5 (x :: xs)) (((x :: xs).length : Int), 1, 0) := by
  refine do_start (by decide) (by decide) ha hn ?_
  simp only [fold_first 5 (Or.inr rfl), Option.bind_some, if_true]
  refine Ev.bind (of_ev hn) ?_
  simp only [if_true]
  exact Ev.now _
theorem ofQ_self {n d : Int} (h : Rt n d) : Pure_ofQ (VQ n d) = (n, d, 0) := by
  unfold Pure_ofQ VQ
  have h1 := h.num
  have h2 := h.den
  have b1 := h.n1; have b2 := h.n2; have b3 := h.d1; have b4 := h.d2
  rw [if_neg (by rw [h1]; omega), h1, h2]
def vl_ (x : S23) : Rat := VQ x.f0 x.f1
def sumQ : List S23 → Rat
  | [] => 0
  | x :: l => vl_ x + sumQ l
theorem sumQ_append (a b : List S23) : sumQ (a ++ b) = sumQ a + sumQ b := by
  induction a with
  | nil => show sumQ b = 0 + sumQ b; rw [Rat.zero_add]
  | cons x a ih => show vl_ x + sumQ (a ++ b) = vl_ x + sumQ a + sumQ b; rw [ih, Rat.add_assoc]
def aB : Nat → Nat
  | 0 => 0
  | i + 1 => aB i * 12 + 60 * 12 ^ i
theorem aB_le : ∀ i : Nat, i ≤ 6 → aB i ≤ 2147483647 ∧ 12 ^ i ≤ 2147483647 := by decide
theorem Sml.bnd {x : S23} (h : Sml x) : Bnd (vl_ x) 60 12 := by
  obtain ⟨e1, e2⟩ := h.rt.toQ
  have := h.lo
  have := h.hi
  have := h.dd
  exact ⟨by show (VQ x.f0 x.f1).num.natAbs ≤ 60; rw [e1]; omega, by show (VQ x.f0 x.f1).den ≤ 12; omega⟩
theorem sum_tells : ∀ (l : List S23) (n d : Int) (i : Nat), Rt n d → (∀ x ∈ l, Sml x) → Bnd (VQ n d) (aB i) (12 ^ i) → i + l.length ≤ 6 → ∃ N D, fdX 1 l n d = (N, D, 0) ∧ Rt N D ∧ VQ N D = VQ n d + sumQ l := by
  intro l
  induction l with
  | nil =>
    intro n d i h _ _ _
    refine ⟨n, d, rfl, h, ?_⟩
    show VQ n d = VQ n d + 0
    rw [Rat.add_zero]
  | cons x l ih =>
    intro n d i h hs hb hi
    rw [List.length_cons] at hi
    have hx := hs x (by simp)
    have hb2 := bnd_add hb hx.bnd
    have hb3 : Bnd (VQ n d + vl_ x) (aB (i + 1)) (12 ^ (i + 1)) := hb2.le (by show aB i * 12 + 60 * 12 ^ i ≤ aB (i + 1); exact Nat.le_refl _) (by rw [Nat.pow_succ]; exact Nat.le_refl _)
    obtain ⟨z1, z2⟩ := aB_le (i + 1) (by omega)
    obtain ⟨t1, t2⟩ := told hb3 z1 z2
    have hst : stX 1 n d x.f0 x.f1 = ((VQ n d + vl_ x).num, ((VQ n d + vl_ x).den : Int), 0) := t1
    obtain ⟨N, D, e1, e2, e3⟩ := ih (VQ n d + vl_ x).num (VQ n d + vl_ x).den (i + 1) t2 (fun y hy => hs y (by simp [hy])) (by rw [VQ_self]; exact hb3) (by omega)
    refine ⟨N, D, ?_, e2, ?_⟩
    · unfold fdX
      rw [hst]
      show (if (0 : Int) = 0 then _ else _) = _
      rw [if_pos rfl]
      exact e1
    · rw [e3, VQ_self]
      show VQ n d + vl_ x + sumQ l = VQ n d + (vl_ x + sumQ l)
      rw [Rat.add_assoc]
theorem Sml.allR {l : List S23} (h : ∀ x ∈ l, Sml x) : allR l = true := by
  induction l with
  | nil => rfl
  | cons x l ih =>
    show (rightQ x.f0 x.f1 && Pure.allR l) = true
    rw [(h x (by simp)).rt.right, ih (fun y hy => h y (by simp [hy]))]
    rfl
/-! the least, the greatest -/
def rel (how : Int) (a b : Rat) : Prop := if how = 2 then a ≤ b else b ≤ a
theorem rel_refl (how : Int) (a : Rat) : rel how a a := by unfold rel; split <;> exact Rat.le_refl
theorem rel_trans {how : Int} {a b c : Rat} (h : rel how a b) (k : rel how b c) : rel how a c := by
  unfold rel at *
  split at h
  · rename_i e; rw [if_pos e] at k ⊢; exact Rat.le_trans h k
  · rename_i e; rw [if_neg e] at k ⊢; exact Rat.le_trans k h
theorem rel_anti {how : Int} {a b : Rat} (h : rel how a b) (k : rel how b a) : a = b := by
  unfold rel at *
  split at h
  · rename_i e; rw [if_pos e] at k; exact Rat.le_antisymm h k
  · rename_i e; rw [if_neg e] at k; exact Rat.le_antisymm k h
theorem cmp_lt (a b : Rat) : cmpQ a b < 0 ↔ a < b := by
  unfold cmpQ
  by_cases h : a < b
  · rw [if_pos h]; simp [h]
  · rw [if_neg h]; by_cases h2 : a = b <;> simp [h, h2]
theorem cmp_gt (a b : Rat) : cmpQ a b > 0 ↔ b < a := by
  unfold cmpQ
  by_cases h : a < b
  · rw [if_pos h]
    constructor
    · intro hc; exact absurd hc (by decide)
    · intro hc; exact absurd (Rat.le_of_lt hc) (Rat.not_le.2 h)
  · rw [if_neg h]
    by_cases h2 : a = b
    · rw [if_pos h2]
      constructor
      · intro hc; exact absurd hc (by decide)
      · intro hc; rw [h2] at hc; exact absurd hc Rat.lt_irrefl
    · rw [if_neg h2]
      constructor
      · intro _; exact Rat.not_le.1 (fun hle => h2 (Rat.le_antisymm hle (Rat.not_lt.1 h)))
      · intro _; decide
theorem st_rel {how n d m e : Int} (hh : how = 2 ∨ how = 3) (h : Rt n d) (k : Rt m e) : ∃ N D, stX how n d m e = (N, D, 0) ∧ Rt N D ∧ (VQ N D = VQ n d ∨ VQ N D = VQ m e) ∧ rel how (VQ N D) (VQ n d) ∧ rel how (VQ N D) (VQ m e) := by
  unfold stX
  rcases hh with rfl | rfl
  · rw [if_pos rfl]
    by_cases hc : cmpQ (VQ m e) (VQ n d) < 0
    · rw [if_pos hc]
      exact ⟨m, e, rfl, k, Or.inr rfl, by unfold rel; rw [if_pos rfl]; exact Rat.le_of_lt ((cmp_lt _ _).1 hc), rel_refl _ _⟩
    · rw [if_neg hc]
      exact ⟨n, d, rfl, h, Or.inl rfl, rel_refl _ _, by unfold rel; rw [if_pos rfl]; exact Rat.not_lt.1 (fun hl => hc ((cmp_lt _ _).2 hl))⟩
  · rw [if_neg (by decide), if_pos rfl]
    by_cases hc : cmpQ (VQ m e) (VQ n d) > 0
    · rw [if_pos hc]
      exact ⟨m, e, rfl, k, Or.inr rfl, by unfold rel; rw [if_neg (by decide)]; exact Rat.le_of_lt ((cmp_gt _ _).1 hc), rel_refl _ _⟩
    · rw [if_neg hc]
      exact ⟨n, d, rfl, h, Or.inl rfl, rel_refl _ _, by unfold rel; rw [if_neg (by decide)]; exact Rat.not_lt.1 (fun hl => hc ((cmp_gt _ _).2 hl))⟩
/-- The outermost one of some numbers. -/
def Ext (how : Int) (q : Rat) (l : List S23) : Prop := (∃ x ∈ l, vl_ x = q) ∧ ∀ x ∈ l, rel how q (vl_ x)
theorem ext_tells {how : Int} (hh : how = 2 ∨ how = 3) : ∀ (l : List S23) (x : S23), Rt x.f0 x.f1 → allR l = true → ∃ N D, fdX how l x.f0 x.f1 = (N, D, 0) ∧ Rt N D ∧ Ext how (VQ N D) (x :: l) := by
  intro l
  induction l with
  | nil =>
    intro x h _
    refine ⟨x.f0, x.f1, rfl, h, ⟨x, by simp, rfl⟩, fun y hy => ?_⟩
    rw [List.mem_singleton] at hy
    subst hy
    exact rel_refl _ _
  | cons y l ih =>
    intro x h ha
    unfold Pure.allR at ha
    rw [Bool.and_eq_true] at ha
    obtain ⟨N, D, e1, e2, e3, e4, e5⟩ := st_rel hh h (Rt.of_right ha.1)
    obtain ⟨N2, D2, g1, g2, ⟨z, hz, hzq⟩, g4⟩ := ih ⟨N, D⟩ e2 ha.2
    refine ⟨N2, D2, ?_, g2, ?_, ?_⟩
    · unfold fdX
      rw [e1]
      show (if (0 : Int) = 0 then _ else _) = _
      rw [if_pos rfl]
      exact g1
    · rcases List.mem_cons.1 hz with rfl | hz
      · rcases e3 with e3 | e3
        · exact ⟨x, by simp, by rw [← hzq]; exact e3.symm⟩
        · exact ⟨y, by simp, by rw [← hzq]; exact e3.symm⟩
      · exact ⟨z, by simp [hz], hzq⟩
    · intro u hu
      have g0 := g4 ⟨N, D⟩ (by simp)
      have g0 : rel how (VQ N2 D2) (VQ N D) := g0
      rcases List.mem_cons.1 hu with rfl | hu
      · exact rel_trans g0 e4
      · rcases List.mem_cons.1 hu with rfl | hu
        · exact rel_trans g0 e5
        · exact g4 u (by simp [hu])
theorem Ext.same {how : Int} {q r : Rat} {l : List S23} (h : Ext how q l) (k : Ext how r l) : q = r := by
  obtain ⟨⟨x, hx, ex⟩, h2⟩ := h
  obtain ⟨⟨y, hy, ey⟩, k2⟩ := k
  exact rel_anti (by rw [← ey]; exact h2 y hy) (by rw [← ex]; exact k2 x hx)
theorem do_ext {how : Int} (hh : how = 2 ∨ how = 3) {x : S23} {xs : List S23} (ha : allR (x :: xs) = true) (hn : (x :: xs).length ≤ 1000) : ∃ N D, Ev (fun k => fold_Do.f k how (x :: xs)) (N, D, 0) ∧ Rt N D ∧ Ext how (VQ N D) (x :: xs) := by
  have ha2 := ha
  unfold Pure.allR at ha2
  rw [Bool.and_eq_true] at ha2
  obtain ⟨N, D, e1, e2, e3⟩ := ext_tells hh xs x (Rt.of_right ha2.1) ha2.2
  exact ⟨N, D, do_plain (by omega) ha hn e1, e2, e3⟩
theorem known_ev : Ev (fun k => marigraphlaw20_known.f k) true := Ev.of (k := 60) marigraphlaw20_known.mono (by decide +kernel)
theorem cons_of {l : List S23} (h : 1 ≤ l.length) : ∃ x xs, l = x :: xs := by
  cases l with
  | nil => simp at h
  | cons x xs => exact ⟨x, xs, rfl⟩
/-! ### FoldOrders -/
theorem mem_rev {m : List S23} (x : S23) : x ∈ m.reverse ↔ x ∈ m := List.mem_reverse
theorem sumQ_reverse : ∀ l : List S23, sumQ l.reverse = sumQ l := by
  intro l
  induction l with
  | nil => rfl
  | cons x l ih =>
    rw [List.reverse_cons, sumQ_append, ih]
    show sumQ l + (vl_ x + 0) = vl_ x + sumQ l
    rw [Rat.add_zero, Rat.add_comm]
theorem sumQ_bnd : ∀ l : List S23, (∀ x ∈ l, Sml x) → Bnd (sumQ l) (aB l.length) (12 ^ l.length) := by
  intro l
  induction l with
  | nil => intro _; exact ⟨by decide, by decide⟩
  | cons x l ih =>
    intro h
    have h1 := bnd_add (h x (by simp)).bnd (ih (fun y hy => h y (by simp [hy])))
    refine h1.le ?_ ?_
    · show 60 * 12 ^ l.length + aB l.length * 12 ≤ aB l.length * 12 + 60 * 12 ^ l.length
      omega
    · rw [List.length_cons, Nat.pow_succ, Nat.mul_comm]
      exact Nat.le_refl _
theorem aB_six : ∀ i : Nat, i ≤ 6 → aB i ≤ 89579520 ∧ 12 ^ i ≤ 2985984 := by decide
theorem Ext.rev {how : Int} {q : Rat} {l : List S23} (h : Ext how q l.reverse) : Ext how q l := by
  obtain ⟨⟨x, hx, ex⟩, h2⟩ := h
  exact ⟨⟨x, (mem_rev x).1 hx, ex⟩, fun y hy => h2 y ((mem_rev y).2 hy)⟩
theorem fdX_four : ∀ (l : List S23) (n d : Int), fdX 4 l n d = fdX 1 l n d := by
  intro l
  induction l with
  | nil => intro n d; rfl
  | cons x l ih =>
    intro n d
    have e : stX 4 n d x.f0 x.f1 = stX 1 n d x.f0 x.f1 := rfl
    unfold fdX
    rw [e]
    split
    · exact ih _ _
    · rfl
/-- The sum's own fold, and the average. -/
theorem sum_fold {x : S23} {xs : List S23} (hs : ∀ y ∈ x :: xs, Sml y) (hn : (x :: xs).length ≤ 6) : ∃ N D, fdX 1 xs x.f0 x.f1 = (N, D, 0) ∧ Rt N D ∧ VQ N D = sumQ (x :: xs) := by
  have hx := hs x (by simp)
  exact sum_tells xs x.f0 x.f1 1 hx.rt (fun y hy => hs y (by simp [hy])) (by have := hx.bnd; exact this.le (by decide) (by decide)) (by rw [List.length_cons] at hn; omega)
theorem avg_tells {x : S23} {xs : List S23} (hs : ∀ y ∈ x :: xs, Sml y) (hn : (x :: xs).length ≤ 6) {N D : Int} (hf : fdX 1 xs x.f0 x.f1 = (N, D, 0)) (hr : Rt N D) : Ev (fun k => fold_Do.f k 4 (x :: xs)) (newQ (N * 1) (D * ((x :: xs).length : Int))) := by
  have ha := Sml.allR hs
  have ha2 := ha
  unfold Pure.allR at ha2
  rw [Bool.and_eq_true] at ha2
  obtain ⟨e1, _⟩ := foldI_tells (how := 4) (by decide) xs x.f0 x.f1 (Rt.of_right ha2.1) ha2.2
  rw [fdX_four, hf] at e1
  refine do_start (by decide) (by decide) ha (by omega) (Ev.bind e1 ?_)
  simp only [if_true]
  refine Ev.bind (of_ev (by omega)) ?_
  simp only [if_true, if_neg (show ¬ (4 : Int) = 5 by decide)]
  exact Div_tells hr (rt_one (by omega) (by omega))
theorem avg_parts {N D : Int} {S : Rat} (hr : Rt N D) (he : VQ N D = S) (hb : Bnd S 89579520 2985984) {n : Nat} (h1 : 1 ≤ n) (h6 : n ≤ 6) : ∃ P Q, newQ (N * 1) (D * (n : Int)) = (P, Q, 0) ∧ Rt P Q ∧ VQ P Q = S / (n : Int) := by
  obtain ⟨t1, t2⟩ := hr.toQ
  rw [he] at t1 t2
  have hD : 1 ≤ D := hr.d1
  have hd : D * (n : Int) ≠ 0 := Int.mul_ne_zero (by omega) (by omega)
  have hq : Rat.divInt (N * 1) (D * (n : Int)) = S / (n : Int) := by
    rw [div_divInt, he, vq_one]
  have hbn := bnd_of (n := N * 1) (d := D * (n : Int)) hd
  have b1 := hb.1
  have b2 := hb.2
  have hN : N.natAbs ≤ 89579520 := by rw [← t1]; exact b1
  have hDn : D.natAbs ≤ 2985984 := by omega
  obtain ⟨z1, z2⟩ := told (hbn.le (C := 89579520) (D := 2985984 * 6) (by rw [Int.mul_one]; exact hN) (by rw [Int.natAbs_mul, Int.natAbs_natCast]; exact Nat.mul_le_mul hDn h6)) (by decide) (by decide)
  refine ⟨_, _, ?_, z2, by rw [VQ_self, hq]⟩
  unfold newQ
  rw [if_neg hd]
  exact z1
/-- The sum of numbers none of which is below a one. -/
theorem sum_ge {q : Rat} : ∀ l : List S23, (∀ x ∈ l, q ≤ vl_ x) → ((l.length : Int) : Rat) * q ≤ sumQ l := by
  intro l
  induction l with
  | nil => intro _; show ((0 : Int) : Rat) * q ≤ 0; rw [Rat.intCast_zero, Rat.zero_mul]; exact Rat.le_refl
  | cons x l ih =>
    intro h
    have h1 := ih (fun y hy => h y (by simp [hy]))
    have h2 := h x (by simp)
    show (((l.length + 1 : Nat) : Int) : Rat) * q ≤ vl_ x + sumQ l
    rw [Int.natCast_succ, Rat.intCast_add, Rat.add_mul, Rat.intCast_one, Rat.one_mul, Rat.add_comm]
    exact Rat.le_trans (Rat.add_le_add_left.2 h1) (Rat.add_le_add_right.2 h2)
theorem sum_le {q : Rat} : ∀ l : List S23, (∀ x ∈ l, vl_ x ≤ q) → sumQ l ≤ ((l.length : Int) : Rat) * q := by
  intro l
  induction l with
  | nil => intro _; show (0 : Rat) ≤ ((0 : Int) : Rat) * q; rw [Rat.intCast_zero, Rat.zero_mul]; exact Rat.le_refl
  | cons x l ih =>
    intro h
    have h1 := ih (fun y hy => h y (by simp [hy]))
    have h2 := h x (by simp)
    show vl_ x + sumQ l ≤ (((l.length + 1 : Nat) : Int) : Rat) * q
    rw [Int.natCast_succ, Rat.intCast_add, Rat.add_mul, Rat.intCast_one, Rat.one_mul, Rat.add_comm (_ * q) q]
    exact Rat.le_trans (Rat.add_le_add_left.2 h1) (Rat.add_le_add_right.2 h2)
theorem avg_ge {q S : Rat} {n : Nat} (h1 : 1 ≤ n) (h : ((n : Int) : Rat) * q ≤ S) : q ≤ S / ((n : Int) : Rat) := by
  have hn : (0 : Rat) < ((n : Int) : Rat) := Rat.intCast_pos.2 (by omega)
  refine Rat.not_lt.1 (fun hl => ?_)
  have h2 := Rat.mul_lt_mul_of_pos_right hl hn
  rw [Rat.div_mul_cancel (by intro hc; rw [hc] at hn; exact Rat.lt_irrefl hn), Rat.mul_comm] at h2
  exact Rat.not_le.2 h2 h
theorem avg_le {q S : Rat} {n : Nat} (h1 : 1 ≤ n) (h : S ≤ ((n : Int) : Rat) * q) : S / ((n : Int) : Rat) ≤ q := by
  have hn : (0 : Rat) < ((n : Int) : Rat) := Rat.intCast_pos.2 (by omega)
  refine Rat.not_lt.1 (fun hl => ?_)
  have h2 := Rat.mul_lt_mul_of_pos_right hl hn
  rw [Rat.div_mul_cancel (by intro hc; rw [hc] at hn; exact Rat.lt_irrefl hn), Rat.mul_comm] at h2
  exact Rat.not_le.2 h2 h
theorem cmp_le {a b : Rat} (h : a ≤ b) : cmpQ a b ≤ 0 := by
  refine Int.not_lt.1 (fun hc => ?_)
  exact Rat.not_le.2 ((cmp_gt a b).1 hc) h
theorem do_first {x : S23} {xs : List S23} (ha : allR (x :: xs) = true) (hn : (x :: xs).length ≤ 1000) : Ev (fun k => fold_Do.f k 6 (x :: xs)) (x.f0, x.f1, 0) := by
  refine do_start (by decide) (by decide) ha hn ?_
  simp only [fold_first 6 (Or.inl rfl), Option.bind_some, if_true]
  refine Ev.bind (of_ev hn) ?_
  simp only [if_true, if_neg (show ¬ (6 : Int) = 5 by decide), if_neg (show ¬ (6 : Int) = 4 by decide)]
  exact Ev.now _
theorem do_last {x : S23} {xs : List S23} (ha : allR (x :: xs) = true) (hn : (x :: xs).length ≤ 1000) : Ev (fun k => fold_Do.f k 7 (x :: xs)) ((lastP xs x).f0, (lastP xs x).f1, 0) := by
  refine do_start (by decide) (by decide) ha hn ?_
  simp only [fold_last, Option.bind_some, if_true]
  refine Ev.bind (of_ev hn) ?_
  simp only [if_true, if_neg (show ¬ (7 : Int) = 5 by decide), if_neg (show ¬ (7 : Int) = 4 by decide)]
  exact Ev.now _
theorem last_rev {x y : S23} {xs ys : List S23} (h : (x :: xs).reverse = y :: ys) : lastP ys y = x := by
  have hl : xs.length = ys.length := by
    have := congrArg List.length h
    rw [List.length_reverse, List.length_cons, List.length_cons] at this
    omega
  rw [← rat_last ys y, ← h]
  unfold rat_
  rw [List.getD_eq_getElem?_getD, List.getElem?_reverse (by rw [List.length_cons]; omega)]
  have e : (x :: xs).length - 1 - ys.length = 0 := by rw [List.length_cons]; omega
  rw [e]
  rfl
theorem orders_tell {m : List S23} (hs : ∀ x ∈ m, Sml x) (hn : m.length ≤ 6) (h1 : 1 ≤ m.length) : ∃ X : Nat → S23,
    (∃ K, ∀ k, K ≤ k → ∀ h : Nat, 1 ≤ h → h ≤ 5 → fold_Do.f k (h : Int) m = some ((X h).f0, (X h).f1, 0) ∧ fold_Do.f k (h : Int) m.reverse = some ((X h).f0, (X h).f1, 0)) ∧
    Ev (fun k => fold_Do.f k 6 m) ((rd_T23 m 0).f0, (rd_T23 m 0).f1, 0) ∧ Ev (fun k => fold_Do.f k 7 m.reverse) ((rd_T23 m 0).f0, (rd_T23 m 0).f1, 0) ∧ Ev (fun k => rat_Mul.f k (X 4).f0 (X 4).f1 (X 5).f0 (X 5).f1) ((X 1).f0, (X 1).f1, 0) ∧
    (∃ c1, Ev (fun k => marigraphref1_Cmp.f k (X 2).f0 (X 2).f1 (X 4).f0 (X 4).f1) c1 ∧ c1 ≤ 0) ∧ (∃ c2, Ev (fun k => marigraphref1_Cmp.f k (X 4).f0 (X 4).f1 (X 3).f0 (X 3).f1) c2 ∧ c2 ≤ 0) := by
  obtain ⟨y, ys, hy⟩ := cons_of (l := m.reverse) (by rw [List.length_reverse]; exact h1)
  obtain ⟨x, xs, hx⟩ := cons_of h1
  have hsr : ∀ z ∈ y :: ys, Sml z := fun z hz => hs z ((mem_rev z).1 (by rw [hy]; exact hz))
  have hlr : (y :: ys).length = m.length := by rw [← hy, List.length_reverse]
  have hsx : ∀ z ∈ x :: xs, Sml z := fun z hz => hs z (by rw [hx]; exact hz)
  have hlx : (x :: xs).length = m.length := by rw [← hx]
  -- sums
  obtain ⟨N, D, f1, r1, v1⟩ := sum_fold hsx (by omega)
  obtain ⟨N', D', f2, r2, v2⟩ := sum_fold hsr (by omega)
  have vv : VQ N' D' = VQ N D := by rw [v2, v1, ← hy, ← hx, sumQ_reverse]
  obtain ⟨eN, eD⟩ := Rt.same r2 r1 vv
  subst eN eD
  have s1 := do_plain (Or.inl rfl) (Sml.allR hsx) (by omega) f1
  have s2 := do_plain (Or.inl rfl) (Sml.allR hsr) (by omega) f2
  -- averages
  have hb := sumQ_bnd (x :: xs) hsx
  obtain ⟨b1, b2⟩ := aB_six (x :: xs).length (by omega)
  have hb2 := hb.le b1 b2
  obtain ⟨P, Q, nq, r4, v4⟩ := avg_parts r1 v1 hb2 (n := m.length) h1 hn
  have a1 := avg_tells hsx (by omega) f1 r1
  have a2 := avg_tells hsr (by omega) f2 r2
  rw [hlx, nq] at a1
  rw [hlr, nq] at a2
  -- least, greatest
  obtain ⟨n2, d2, g2, r2m, x2⟩ := do_ext (how := 2) (Or.inl rfl) (Sml.allR hsx) (by omega)
  obtain ⟨n2', d2', g2', r2m', x2'⟩ := do_ext (how := 2) (Or.inl rfl) (Sml.allR hsr) (by omega)
  obtain ⟨n3, d3, g3, r3m, x3⟩ := do_ext (how := 3) (Or.inr rfl) (Sml.allR hsx) (by omega)
  obtain ⟨n3', d3', g3', r3m', x3'⟩ := do_ext (how := 3) (Or.inr rfl) (Sml.allR hsr) (by omega)
  rw [← hy] at x2' x3'
  have x2' := x2'.rev
  have x3' := x3'.rev
  rw [← hx] at x2 x3
  obtain ⟨e21, e22⟩ := Rt.same r2m' r2m (x2'.same x2)
  obtain ⟨e31, e32⟩ := Rt.same r3m' r3m (x3'.same x3)
  subst e21 e22 e31 e32
  -- counts
  have c1 := do_count (Sml.allR hsx) (by omega)
  have c2 := do_count (Sml.allR hsr) (by omega)
  rw [hlx] at c1
  rw [hlr] at c2
  have l1 := do_first (Sml.allR hsx) (by omega)
  have l2 := do_last (Sml.allR hsr) (by omega)
  rw [last_rev (by rw [← hx]; exact hy)] at l2
  have hv4 : VQ P Q * VQ (m.length : Int) 1 = VQ N' D' := by
    have hne : ((m.length : Int) : Rat) ≠ 0 := by
      intro hc
      have hp : (0 : Rat) < ((m.length : Int) : Rat) := Rat.intCast_pos.2 (by omega)
      rw [hc] at hp
      exact Rat.lt_irrefl hp
    rw [v4, vq_one, Rat.div_mul_cancel hne, v1]
  have mul := Mul_tells r4 (rt_one (n := (m.length : Int)) (by omega) (by omega))
  rw [hv4, ofQ_self r1] at mul
  have lo : VQ n2' d2' ≤ VQ P Q := by
    rw [v4]
    refine avg_ge h1 ?_
    have := sum_ge (q := VQ n2' d2') m (fun z hz => by have := x2.2 z hz; unfold rel at this; rw [if_pos rfl] at this; exact this)
    rw [hx] at this ⊢
    exact this
  have hi : VQ P Q ≤ VQ n3' d3' := by
    rw [v4]
    refine avg_le h1 ?_
    have := sum_le (q := VQ n3' d3') m (fun z hz => by have := x3.2 z hz; unfold rel at this; rw [if_neg (by decide)] at this; exact this)
    rw [hx] at this ⊢
    exact this
  have m1 := rcmp_tells r2m r4
  have m2 := rcmp_tells r4 r3m
  rw [← hx] at s1 a1 g2 g3 c1 l1
  rw [← hy] at s2 a2 g2' g3' c2 l2
  have hrd : rd_T23 m 0 = x := by rw [hx]; rfl
  rw [hrd]
  obtain ⟨K1, k1⟩ := s1
  obtain ⟨K2, k2⟩ := s2
  obtain ⟨K3, k3⟩ := a1
  obtain ⟨K4, k4⟩ := a2
  obtain ⟨K5, k5⟩ := g2
  obtain ⟨K6, k6⟩ := g2'
  obtain ⟨K7, k7⟩ := g3
  obtain ⟨K8, k8⟩ := g3'
  obtain ⟨K9, k9⟩ := c1
  obtain ⟨K10, k10⟩ := c2
  refine ⟨fun h => if h = 1 then ⟨N', D'⟩ else if h = 2 then ⟨n2', d2'⟩ else if h = 3 then ⟨n3', d3'⟩ else if h = 4 then ⟨P, Q⟩ else ⟨(m.length : Int), 1⟩, ⟨K1 + K2 + K3 + K4 + K5 + K6 + K7 + K8 + K9 + K10, fun k hk h q1 q2 => ?_⟩, l1, l2, mul, ⟨_, m1, cmp_le lo⟩, ⟨_, m2, cmp_le hi⟩⟩
  have : h = 1 ∨ h = 2 ∨ h = 3 ∨ h = 4 ∨ h = 5 := by omega
  rcases this with e | e | e | e | e <;> subst e
  · exact ⟨k1 k (by omega), k2 k (by omega)⟩
  · exact ⟨k5 k (by omega), k6 k (by omega)⟩
  · exact ⟨k7 k (by omega), k8 k (by omega)⟩
  · exact ⟨k3 k (by omega), k4 k (by omega)⟩
  · exact ⟨k9 k (by omega), k10 k (by omega)⟩
theorem FoldOrders : PFoldOrders.FoldOrders.Pure := by
  intro l0 h0
  obtain ⟨m, em, lm, sm⟩ := rats_tells (M := 6) (fun x hx => i64_of (h0 x hx)) (by decide)
  obtain ⟨K1, e1⟩ := em
  obtain ⟨K2, e2⟩ := known_ev
  by_cases hz : m.length = 0
  · exact ⟨K1 + K2, m, e1 _ (by omega), lm, e2 _ (by omega), Or.inl hz⟩
  · obtain ⟨X, ⟨K3, e3⟩, ⟨K4, e4⟩, ⟨K5, e5⟩, ⟨K6, e6⟩, ⟨c1, ⟨K7, e7⟩, p1⟩, ⟨c2, ⟨K8, e8⟩, p2⟩⟩ := orders_tell sm lm (by omega)
    exact ⟨K1 + K2 + K3 + K4 + K5 + K6 + K7 + K8, m, e1 _ (by omega), lm, e2 _ (by omega), Or.inr ⟨by omega, X, e3 _ (by omega), e4 _ (by omega), e5 _ (by omega), e6 _ (by omega), trivial, ⟨c1, e7 _ (by omega), p1⟩, ⟨c2, e8 _ (by omega), p2⟩⟩⟩

end Go.Proofs.Ytncieaeooiilpaa.Pure

/- What lies on a line is told as it lies. -/
import Derived.Test.YtdnialldicdnoaaPLerpLinesx8
namespace Go.Proofs.Ytdnialldicdnoaa.Pure
open Go.RowKit Go.Proofs.Ytdnialldicdnoaa.PLerpLines Go.Proofs.YtdnialldicdnoaaW.PrintWords Go.Proofs.YtdnialldicdnoaaW.PrintLast
set_option linter.unusedVariables false
set_option linter.unusedSimpArgs false

theorem evUp {α : Type} {g : Nat → Option α} {r : α} (h : Ev g r) : Ev (fun k => g (k + 1)) r := let ⟨K, hK⟩ := h; ⟨K, fun k hk => hK (k + 1) (Nat.le_trans hk (Nat.le_succ k))⟩
theorem evEq {α : Type} {f g : Nat → Option α} {r : α} (hf : ∀ k, f k = g k) (h : Ev g r) : Ev f r := by rw [funext hf]; exact h
theorem evNow {α : Type} {f : Nat → Option α} {r : α} (hf : ∀ k, f k = some r) : Ev f r := ⟨0, fun k _ => hf k⟩
theorem u64_of {a : Int} (h : (Lit.int .u64 a).wf = true) : 0 ≤ a ∧ a < 18446744073709551616 := by
  have h1 : IntKind.u64.min = 0 := rfl
  have h2 : IntKind.u64.max = 18446744073709551615 := rfl
  simp only [Lit.wf, Bool.and_eq_true, decide_eq_true_eq] at h
  omega
theorem i64_of {a : Int} (h : (Lit.int .i64 a).wf = true) : -9223372036854775808 ≤ a ∧ a ≤ 9223372036854775807 := by
  have h1 : IntKind.i64.min = -9223372036854775808 := rfl
  have h2 : IntKind.i64.max = 9223372036854775807 := rfl
  simp only [Lit.wf, Bool.and_eq_true, decide_eq_true_eq] at h
  omega
/-! ### rationals: New, Right -/
def Pure_ofQ (q : Rat) : Int × Int × Int := if q.num.natAbs > 2147483647 ∨ q.den > 2147483647 then (0, 0, 23) else (q.num, (q.den : Int), 0)
def newQ (n d : Int) : Int × Int × Int := if d = 0 then (0, 0, 1) else Pure_ofQ (Rat.divInt n d)
def I64 (n : Int) : Prop := -9223372036854775808 ≤ n ∧ n ≤ 9223372036854775807
theorem wrapU {x : Int} (h0 : 0 ≤ x) (h1 : x < 18446744073709551616) : IntKind.u64.wrap x = x := by
  have : IntKind.u64.wrap x = x % 18446744073709551616 := by simp [IntKind.wrap, IntKind.bits, IntKind.signed]
  rw [this]; exact Int.emod_eq_of_lt h0 h1
theorem wrapU_eq (x : Int) : IntKind.u64.wrap x = x % 18446744073709551616 := by simp [IntKind.wrap, IntKind.bits, IntKind.signed]
theorem wrap64_id {x : Int} (h : I64 x) : wrap64 x = x := by unfold I64 at h; unfold wrap64; omega
theorem size_tells {n : Int} (h : I64 n) : rat_size.f n = some (n.natAbs : Int) := by
  unfold I64 at h
  unfold rat_size.f
  by_cases hn : n < 0
  · rw [if_pos hn, wrapU_eq, wrapU_eq]
    congr 1
    omega
  · rw [if_neg hn, wrapU_eq]
    congr 1
    omega
theorem common_tells (b : Nat) : ∀ (a k : Nat), b < k → rat_common.l0 k (a : Int) (b : Int) = some ((Nat.gcd a b : Nat) : Int) := by
  induction b using Nat.strongRecOn with
  | _ b ih =>
    intro a k hk
    obtain ⟨k, rfl⟩ : ∃ m, k = m + 1 := ⟨k - 1, by omega⟩
    simp only [rat_common.l0]
    by_cases hb : b = 0
    · subst hb
      rw [if_neg (by omega), Nat.gcd_zero_right]
    · rw [if_pos (by omega), if_neg (by omega)]
      have e : Int.tmod (a : Int) (b : Int) = ((a % b : Nat) : Int) := by rw [Int.ofNat_tmod]
      have hl : a % b < b := Nat.mod_lt _ (by omega)
      rw [e, ih (a % b) hl b k (by omega), Nat.gcd_comm a b, Nat.gcd_rec b a, Nat.gcd_comm]
theorem new_parts (n d : Int) (hd : d ≠ 0) : (Rat.divInt n d).den = d.natAbs / Nat.gcd n.natAbs d.natAbs ∧ (Rat.divInt n d).num.natAbs = n.natAbs / Nat.gcd n.natAbs d.natAbs ∧
    (if (decide (n < 0)) != (decide (d < 0)) then (Rat.divInt n d).num = -((n.natAbs / Nat.gcd n.natAbs d.natAbs : Nat) : Int) else (Rat.divInt n d).num = ((n.natAbs / Nat.gcd n.natAbs d.natAbs : Nat) : Int)) := by
  have hg : Int.gcd d n = Nat.gcd n.natAbs d.natAbs := by unfold Int.gcd; exact Nat.gcd_comm _ _
  have hpos : 0 < Nat.gcd n.natAbs d.natAbs := Nat.gcd_pos_of_pos_right _ (by omega)
  refine ⟨by rw [Rat.den_divInt, if_neg hd, hg], ?_⟩
  rw [Rat.num_divInt, hg]
  obtain ⟨c, hc⟩ : ∃ c : Int, n = (Nat.gcd n.natAbs d.natAbs : Int) * c := by
    have : ((Nat.gcd n.natAbs d.natAbs : Nat) : Int) ∣ n := Int.natAbs_dvd_natAbs.1 (by rw [Int.natAbs_natCast]; exact Nat.gcd_dvd_left _ _)
    exact this
  generalize Nat.gcd n.natAbs d.natAbs = g at *
  have hA : n.natAbs / g = c.natAbs := by
    rw [hc, Int.natAbs_mul, Int.natAbs_natCast]
    exact Nat.mul_div_cancel_left _ hpos
  have hnc : (n < 0 ↔ c < 0) := by
    have hg0 : (0 : Int) < (g : Int) := by omega
    constructor
    · intro h
      by_cases h' : c < 0
      · exact h'
      · have := Int.mul_nonneg (Int.le_of_lt hg0) (Int.not_lt.1 h'); omega
    · intro h
      have := Int.mul_neg_of_pos_of_neg hg0 h; omega
  rw [hA]
  have hq : d.sign * n / (g : Int) = d.sign * c := by
    rw [hc, ← Int.mul_assoc, Int.mul_comm d.sign, Int.mul_assoc]
    exact Int.mul_ediv_cancel_left _ (by omega)
  rw [hq]
  rcases Int.lt_trichotomy d 0 with h | h | h
  · rw [Int.sign_eq_neg_one_of_neg h]
    have h1 : decide (d < 0) = true := decide_eq_true h
    rw [h1]
    by_cases hn : n < 0
    · have h2 := hnc.1 hn
      rw [decide_eq_true hn]
      simp only [bne_self_eq_false, Bool.false_eq_true, if_false]
      omega
    · have h2 : ¬ c < 0 := fun h => hn (hnc.2 h)
      rw [decide_eq_false hn]
      simp only [Bool.bne_true, Bool.not_false, if_true]
      omega
  · exact absurd h hd
  · rw [Int.sign_eq_one_of_pos h]
    have h1 : decide (d < 0) = false := decide_eq_false (by omega)
    rw [h1]
    by_cases hn : n < 0
    · have h2 := hnc.1 hn
      rw [decide_eq_true hn]
      simp only [Bool.bne_false, if_true]
      omega
    · have h2 : ¬ c < 0 := fun h => hn (hnc.2 h)
      rw [decide_eq_false hn]
      simp only [bne_self_eq_false, Bool.false_eq_true, if_false]
      omega
theorem new_at (n d : Int) (hn : I64 n) (hd : I64 d) (k : Nat) (hk : d.natAbs + 2 < k) : rat_New.f k n d = some (newQ n d) := by
  unfold rat_New.f newQ
  by_cases h0 : d = 0
  · rw [if_pos h0, if_pos h0]
  rw [if_neg h0, if_neg h0, size_tells hn, size_tells hd]
  simp only [Option.bind_some]
  unfold rat_common.f
  rw [common_tells d.natAbs n.natAbs k (by omega)]
  simp only [Option.bind_some]
  obtain ⟨e1, e2, e3⟩ := new_parts n d h0
  have hpos : 0 < Nat.gcd n.natAbs d.natAbs := Nat.gcd_pos_of_pos_right _ (by omega)
  generalize Nat.gcd n.natAbs d.natAbs = g at *
  have t1 : IntKind.u64.wrap (Int.tdiv (n.natAbs : Int) (g : Int)) = ((n.natAbs / g : Nat) : Int) := by
    rw [← Int.ofNat_tdiv]
    have := Nat.div_le_self n.natAbs g
    unfold I64 at hn
    exact wrapU (by omega) (by omega)
  have t2 : IntKind.u64.wrap (Int.tdiv (d.natAbs : Int) (g : Int)) = ((d.natAbs / g : Nat) : Int) := by
    rw [← Int.ofNat_tdiv]
    have := Nat.div_le_self d.natAbs g
    unfold I64 at hd
    exact wrapU (by omega) (by omega)
  rw [t1, t2, if_neg (by omega)]
  unfold Pure_ofQ
  rw [e1, e2]
  generalize n.natAbs / g = A at *
  generalize d.natAbs / g = B at *
  obtain ⟨k, rfl⟩ : ∃ m, k = m + 1 := ⟨k - 1, by omega⟩
  by_cases hA : (A : Int) > 2147483647
  · rw [if_pos hA, if_pos (Or.inl (by omega))]
    simp only [rat_New.j0, if_true]
  · rw [if_neg hA]
    by_cases hB : (B : Int) > 2147483647
    · rw [decide_eq_true hB, if_pos (Or.inr (by omega))]
      simp only [rat_New.j0, if_true]
    · rw [decide_eq_false hB, if_neg (by omega)]
      simp only [rat_New.j0, Bool.false_eq_true, if_false]
      have w1 : wrap64 (A : Int) = (A : Int) := wrap64_id (by unfold I64; omega)
      have w2 : wrap64 (B : Int) = (B : Int) := wrap64_id (by unfold I64; omega)
      have w3 : wrap64 (-(A : Int)) = -(A : Int) := wrap64_id (by unfold I64; omega)
      rw [w1, w2, w3]
      by_cases hs : ((decide (n < 0)) != (decide (d < 0))) = true
      · rw [if_pos hs] at e3 ⊢
        rw [e3]
      · rw [if_neg hs] at e3 ⊢
        rw [e3]
theorem new_tells {n d : Int} (hn : I64 n) (hd : I64 d) : Ev (fun k => rat_New.f k n d) (newQ n d) := ⟨d.natAbs + 3, fun k hk => new_at n d hn hd k (by omega)⟩
/-- A number that is right: in lowest terms, within the bounds. -/
structure Rt (n d : Int) : Prop where
  n1 : -2147483647 ≤ n
  n2 : n ≤ 2147483647
  d1 : 1 ≤ d
  d2 : d ≤ 2147483647
  num : (Rat.divInt n d).num = n
  den : ((Rat.divInt n d).den : Int) = d
def rightQ (n d : Int) : Bool := decide (d > 0) && decide (newQ n d = (n, d, 0))
theorem Rt.right {n d : Int} (h : Rt n d) : rightQ n d = true := by
  unfold rightQ newQ Pure_ofQ
  have h1 := h.n1
  have h2 := h.n2
  have h3 := h.d1
  have h4 := h.d2
  have h5 := h.num
  have h6 := h.den
  rw [if_neg (by omega), if_neg (by omega), h5, h6]
  simp only [decide_true, Bool.and_true, decide_eq_true_eq]
  omega
theorem Rt.of_right {n d : Int} (h : rightQ n d = true) : Rt n d := by
  unfold rightQ newQ Pure_ofQ at h
  rw [Bool.and_eq_true, decide_eq_true_eq, decide_eq_true_eq] at h
  obtain ⟨hd, h⟩ := h
  rw [if_neg (by omega)] at h
  by_cases hb : (Rat.divInt n d).num.natAbs > 2147483647 ∨ (Rat.divInt n d).den > 2147483647
  · rw [if_pos hb] at h
    simp only [Prod.mk.injEq] at h
    omega
  · rw [if_neg hb] at h
    simp only [Prod.mk.injEq, and_true] at h
    obtain ⟨h1, h2⟩ := h
    exact ⟨by omega, by omega, by omega, by omega, h1, h2⟩
theorem rightQ_iff {n d : Int} : rightQ n d = true ↔ Rt n d := ⟨Rt.of_right, Rt.right⟩
theorem right_tells {n d : Int} (hn : I64 n) (hd : I64 d) : Ev (fun k => rat_Right.f k n d) (rightQ n d) := by
  refine Ev.bind (new_tells hn hd) ?_
  unfold rightQ
  by_cases h0 : d > 0
  · simp only [if_pos h0, decide_eq_true h0, Bool.true_and]
    obtain ⟨a, b, c⟩ := newQ n d
    simp only [Prod.mk.injEq]
    by_cases hc : c = 0
    · simp only [if_pos hc]
      refine ⟨0, fun _ _ => ?_⟩
      show some _ = some _
      congr 1
      rw [Bool.eq_iff_iff]
      simp [hc]
    · simp only [if_neg hc]
      refine ⟨0, fun _ _ => ?_⟩
      show some _ = some _
      congr 1
      simp [hc]
  · simp only [if_neg h0, decide_eq_false h0, Bool.false_and]
    exact Ev.now _
theorem Rt.i64n {n d : Int} (h : Rt n d) : I64 n := ⟨by have := h.n1; omega, by have := h.n2; omega⟩
theorem Rt.i64d {n d : Int} (h : Rt n d) : I64 d := ⟨by have := h.d1; omega, by have := h.d2; omega⟩
theorem Rt.ofQ {q : Rat} {n d : Int} (h : Pure_ofQ q = (n, d, 0)) : Rt n d ∧ Rat.divInt n d = q := by
  unfold Pure_ofQ at h
  by_cases hb : q.num.natAbs > 2147483647 ∨ q.den > 2147483647
  · rw [if_pos hb] at h; simp at h
  · rw [if_neg hb] at h
    simp only [Prod.mk.injEq, and_true] at h
    obtain ⟨rfl, rfl⟩ := h
    have e := Rat.num_divInt_den q
    have hd := q.den_pos
    exact ⟨⟨by omega, by omega, by omega, by omega, by rw [e], by rw [e]⟩, e⟩
theorem ofQ_rt {q : Rat} (h1 : q.num.natAbs ≤ 2147483647) (h2 : q.den ≤ 2147483647) : Pure_ofQ q = (q.num, (q.den : Int), 0) ∧ Rt q.num q.den := by
  have e : Pure_ofQ q = (q.num, (q.den : Int), 0) := by unfold Pure_ofQ; rw [if_neg (by omega)]
  exact ⟨e, (Rt.ofQ e).1⟩
theorem Rt.same {a b c d : Int} (h : Rt a b) (k : Rt c d) (e : Rat.divInt a b = Rat.divInt c d) : a = c ∧ b = d := by
  have h1 := h.num; have h2 := h.den; have k1 := k.num; have k2 := k.den
  rw [e] at h1 h2
  omega
theorem mulM {x y : Int} (hx : -2147483647 ≤ x ∧ x ≤ 2147483647) (hy : -2147483647 ≤ y ∧ y ≤ 2147483647) : -4611686014132420609 ≤ x * y ∧ x * y ≤ 4611686014132420609 := by
  have h := Nat.mul_le_mul (show x.natAbs ≤ 2147483647 by omega) (show y.natAbs ≤ 2147483647 by omega)
  rw [← Int.natAbs_mul] at h
  omega
/-! ### marigraphkeep.Rat: a right number, small -/
theorem within_ev {n lo hi : Int} (h1 : 0 ≤ lo + 1000) (h2 : lo ≤ hi) (h3 : hi < 1000000) (h4 : -1000 ≤ lo) (hn : I64 n) : ∃ r, Ev (fun k => marigraphbook_Within.f k n lo hi) r ∧ lo ≤ r ∧ r ≤ hi ∧ (lo ≤ n → n ≤ hi → r = n) := by
  unfold I64 at hn
  have e1 : wrap64 (wrap64 (hi - lo) + 1) = hi - lo + 1 := by unfold wrap64; omega
  have hj : ∀ b : Bool, (b = true ↔ (lo ≤ n ∧ n ≤ hi)) → ∃ r, (∀ k, marigraphbook_Within.j0 (k + 1) n lo hi b = some r) ∧ lo ≤ r ∧ r ≤ hi ∧ (lo ≤ n → n ≤ hi → r = n) := by
    intro b hb
    simp only [marigraphbook_Within.j0, e1]
    cases b with
    | true =>
      have := hb.1 rfl
      exact ⟨n, fun _ => by rw [if_pos rfl], this.1, this.2, fun _ _ => rfl⟩
    | false =>
      have hno : ¬ (lo ≤ n ∧ n ≤ hi) := fun h => by have := hb.2 h; cases this
      simp only [Bool.false_eq_true, if_false]
      rw [if_neg (by omega)]
      have hm : (0 : Int) < hi - lo + 1 := by omega
      have t1 : Int.tmod n (hi - lo + 1) < hi - lo + 1 := Int.tmod_lt_of_pos _ hm
      have t2 : -(hi - lo + 1) < Int.tmod n (hi - lo + 1) := by
        have := Int.tmod_lt_of_pos (-n) hm
        rw [Int.neg_tmod] at this
        omega
      generalize Int.tmod n (hi - lo + 1) = t at *
      by_cases ht : t < 0
      · rw [if_pos ht]
        have e : wrap64 (lo + wrap64 (wrap64 (wrap64 (t + hi) - lo) + 1)) = t + hi + 1 := by unfold wrap64; omega
        rw [e]
        exact ⟨_, fun _ => rfl, by omega, by omega, fun a b => absurd ⟨a, b⟩ hno⟩
      · rw [if_neg ht]
        have e : wrap64 (lo + t) = lo + t := by unfold wrap64; omega
        rw [e]
        exact ⟨_, fun _ => rfl, by omega, by omega, fun a b => absurd ⟨a, b⟩ hno⟩
  have fin : ∀ b : Bool, (∀ k, marigraphbook_Within.f k n lo hi = marigraphbook_Within.j0 k n lo hi b) → (b = true ↔ (lo ≤ n ∧ n ≤ hi)) → ∃ r, Ev (fun k => marigraphbook_Within.f k n lo hi) r ∧ lo ≤ r ∧ r ≤ hi ∧ (lo ≤ n → n ≤ hi → r = n) := by
    intro b hf hb
    obtain ⟨r, h, hr⟩ := hj b hb
    refine ⟨r, ⟨1, fun k hk => ?_⟩, hr⟩
    obtain ⟨k, rfl⟩ : ∃ m, k = m + 1 := ⟨k - 1, by omega⟩
    show marigraphbook_Within.f (k + 1) n lo hi = some r
    rw [hf]
    exact h k
  by_cases hlo : n ≥ lo
  · refine fin (decide (n ≤ hi)) (fun k => by unfold marigraphbook_Within.f; rw [if_pos hlo]) ?_
    rw [decide_eq_true_iff]
    exact ⟨fun h => ⟨hlo, h⟩, fun h => h.2⟩
  · refine fin false (fun k => by unfold marigraphbook_Within.f; rw [if_neg hlo]) ?_
    constructor
    · intro h; cases h
    · intro h; omega
/-! ### Cmp, Add, Sub, Mul, Div of right numbers -/
def VQ (n d : Int) : Rat := Rat.divInt n d
theorem ratlt {n d m e : Int} (h : Rt n d) (k : Rt m e) : n * e < m * d ↔ VQ n d < VQ m e := by
  rw [Rat.lt_iff]
  unfold VQ
  rw [h.num, h.den, k.num, k.den]
theorem rateq {n d m e : Int} (h : Rt n d) (k : Rt m e) : (n = m ∧ d = e) ↔ VQ n d = VQ m e := ⟨fun he => by rw [he.1, he.2], fun he => h.same k he⟩
def cmpQ (a b : Rat) : Int := if a < b then -1 else if a = b then 0 else 1
theorem prodw {x y : Int} (hx : -2147483647 ≤ x ∧ x ≤ 2147483647) (hy : -2147483647 ≤ y ∧ y ≤ 2147483647) : wrap64 (x * y) = x * y := by
  have := mulM hx hy
  exact wrap64_id ⟨by omega, by omega⟩
theorem exactQ {f : Nat → Option (Int × Int × Int)} {n d : Int} {q : Rat} (hn : I64 n) (hd : I64 d) (h0 : d ≠ 0) (hq : Rat.divInt n d = q) (hf : ∀ k, f (k + 1) = (rat_New.f k n d).bind fun t => some (t.1, t.2.1, t.2.2)) : Ev f (Pure_ofQ q) := by
  refine Ev.step hf ?_
  have h := new_tells hn hd
  have e : newQ n d = Pure_ofQ q := by unfold newQ; rw [if_neg h0, hq]
  rw [e] at h
  exact Ev.bind h (Ev.now _)
theorem Add_tells {n d m e : Int} (h : Rt n d) (k : Rt m e) : Ev (fun K => rat_Add.f K n d m e) (Pure_ofQ (VQ n d + VQ m e)) := by
  have r1 := right_tells h.i64n h.i64d
  have r2 := right_tells k.i64n k.i64d
  rw [h.right] at r1
  rw [k.right] at r2
  have h1 := h.n1; have h2 := h.n2; have h3 := h.d1; have h4 := h.d2
  have k1 := k.n1; have k2 := k.n2; have k3 := k.d1; have k4 := k.d2
  have hd0 : d ≠ 0 := by omega
  have he0 : e ≠ 0 := by omega
  have p1 := mulM (x := n) (y := e) ⟨by omega, by omega⟩ ⟨by omega, by omega⟩
  have p2 := mulM (x := m) (y := d) ⟨by omega, by omega⟩ ⟨by omega, by omega⟩
  have p3 := mulM (x := d) (y := e) ⟨by omega, by omega⟩ ⟨by omega, by omega⟩
  have p4 := mulM (x := n) (y := m) ⟨by omega, by omega⟩ ⟨by omega, by omega⟩
  have hde : d * e ≠ 0 := Int.mul_ne_zero hd0 he0
  refine Ev.bind (g := fun K => rat_exact_of_rat_Add_1_rat_both.f K n d m e) (a := Pure_ofQ (VQ n d + VQ m e)) (f := fun _ b => some (b.1, b.2.1, b.2.2)) (Ev.bind r1 ?_) (Ev.now _)
  simp only [if_true]
  refine Ev.bind r2 ?_
  refine exactQ (n := n * e + m * d) (d := d * e) ⟨by omega, by omega⟩ ⟨by omega, by omega⟩ hde ?_ (fun K => ?_)
  · exact (Rat.divInt_add_divInt _ _ hd0 he0).symm
  · simp only [rat_exact_of_rat_Add_1_rat_both.j0, rat_Add_1.f, rat_both.f, Bool.not_true, Bool.false_eq_true, if_false, Option.bind_some]
    rw [wrap64_id (x := d * e) ⟨by omega, by omega⟩]
    rw [wrap64_id (x := n * e) ⟨by omega, by omega⟩, wrap64_id (x := m * d) ⟨by omega, by omega⟩, wrap64_id (x := n * e + m * d) ⟨by omega, by omega⟩]
theorem Sub_tells {n d m e : Int} (h : Rt n d) (k : Rt m e) : Ev (fun K => rat_Sub.f K n d m e) (Pure_ofQ (VQ n d - VQ m e)) := by
  have r1 := right_tells h.i64n h.i64d
  have r2 := right_tells k.i64n k.i64d
  rw [h.right] at r1
  rw [k.right] at r2
  have h1 := h.n1; have h2 := h.n2; have h3 := h.d1; have h4 := h.d2
  have k1 := k.n1; have k2 := k.n2; have k3 := k.d1; have k4 := k.d2
  have hd0 : d ≠ 0 := by omega
  have he0 : e ≠ 0 := by omega
  have p1 := mulM (x := n) (y := e) ⟨by omega, by omega⟩ ⟨by omega, by omega⟩
  have p2 := mulM (x := m) (y := d) ⟨by omega, by omega⟩ ⟨by omega, by omega⟩
  have p3 := mulM (x := d) (y := e) ⟨by omega, by omega⟩ ⟨by omega, by omega⟩
  have p4 := mulM (x := n) (y := m) ⟨by omega, by omega⟩ ⟨by omega, by omega⟩
  have hde : d * e ≠ 0 := Int.mul_ne_zero hd0 he0
  refine Ev.bind (g := fun K => rat_exact_of_rat_Sub_1_rat_both.f K n d m e) (a := Pure_ofQ (VQ n d - VQ m e)) (f := fun _ b => some (b.1, b.2.1, b.2.2)) (Ev.bind r1 ?_) (Ev.now _)
  simp only [if_true]
  refine Ev.bind r2 ?_
  refine exactQ (n := n * e - m * d) (d := d * e) ⟨by omega, by omega⟩ ⟨by omega, by omega⟩ hde ?_ (fun K => ?_)
  · exact (Rat.divInt_sub_divInt _ _ hd0 he0).symm
  · simp only [rat_exact_of_rat_Sub_1_rat_both.j0, rat_Sub_1.f, rat_both.f, Bool.not_true, Bool.false_eq_true, if_false, Option.bind_some]
    rw [wrap64_id (x := d * e) ⟨by omega, by omega⟩]
    rw [wrap64_id (x := n * e) ⟨by omega, by omega⟩, wrap64_id (x := m * d) ⟨by omega, by omega⟩, wrap64_id (x := n * e - m * d) ⟨by omega, by omega⟩]
theorem Mul_tells {n d m e : Int} (h : Rt n d) (k : Rt m e) : Ev (fun K => rat_Mul.f K n d m e) (Pure_ofQ (VQ n d * VQ m e)) := by
  have r1 := right_tells h.i64n h.i64d
  have r2 := right_tells k.i64n k.i64d
  rw [h.right] at r1
  rw [k.right] at r2
  have h1 := h.n1; have h2 := h.n2; have h3 := h.d1; have h4 := h.d2
  have k1 := k.n1; have k2 := k.n2; have k3 := k.d1; have k4 := k.d2
  have hd0 : d ≠ 0 := by omega
  have he0 : e ≠ 0 := by omega
  have p1 := mulM (x := n) (y := e) ⟨by omega, by omega⟩ ⟨by omega, by omega⟩
  have p2 := mulM (x := m) (y := d) ⟨by omega, by omega⟩ ⟨by omega, by omega⟩
  have p3 := mulM (x := d) (y := e) ⟨by omega, by omega⟩ ⟨by omega, by omega⟩
  have p4 := mulM (x := n) (y := m) ⟨by omega, by omega⟩ ⟨by omega, by omega⟩
  have hde : d * e ≠ 0 := Int.mul_ne_zero hd0 he0
  refine Ev.bind (g := fun K => rat_exact_of_rat_Mul_1_rat_both.f K n d m e) (a := Pure_ofQ (VQ n d * VQ m e)) (f := fun _ b => some (b.1, b.2.1, b.2.2)) (Ev.bind r1 ?_) (Ev.now _)
  simp only [if_true]
  refine Ev.bind r2 ?_
  refine exactQ (n := n * m) (d := d * e) ⟨by omega, by omega⟩ ⟨by omega, by omega⟩ hde ?_ (fun K => ?_)
  · exact (Rat.divInt_mul_divInt n m).symm
  · simp only [rat_exact_of_rat_Mul_1_rat_both.j0, rat_Mul_1.f, rat_both.f, Bool.not_true, Bool.false_eq_true, if_false, Option.bind_some]
    rw [wrap64_id (x := d * e) ⟨by omega, by omega⟩]
    rw [wrap64_id (x := n * m) ⟨by omega, by omega⟩]
/-! ### how great sums and products are -/
def Bnd (q : Rat) (A B : Nat) : Prop := q.num.natAbs ≤ A ∧ q.den ≤ B
theorem bnd_of {n d : Int} (hd : d ≠ 0) : Bnd (Rat.divInt n d) n.natAbs d.natAbs := by
  obtain ⟨e1, e2, _⟩ := new_parts n d hd
  exact ⟨by rw [e2]; exact Nat.div_le_self _ _, by rw [e1]; exact Nat.div_le_self _ _⟩
theorem Bnd.le {q : Rat} {A B C D : Nat} (h : Bnd q A B) (h1 : A ≤ C) (h2 : B ≤ D) : Bnd q C D := ⟨Nat.le_trans h.1 h1, Nat.le_trans h.2 h2⟩
theorem bnd_add {q r : Rat} {A B C D : Nat} (h : Bnd q A B) (k : Bnd r C D) : Bnd (q + r) (A * D + C * B) (B * D) := by
  have e1 := Rat.num_divInt_den q
  have e2 := Rat.num_divInt_den r
  have hq := q.den_pos
  have hr := r.den_pos
  have e : q + r = Rat.divInt (q.num * r.den + r.num * q.den) (q.den * r.den) := by
    conv => lhs; rw [← e1, ← e2]
    exact Rat.divInt_add_divInt _ _ (by omega) (by omega)
  rw [e]
  refine (bnd_of (Int.mul_ne_zero (by omega) (by omega))).le ?_ ?_
  · have h1 := Nat.mul_le_mul h.1 k.2
    have h2 := Nat.mul_le_mul k.1 h.2
    have h3 := Int.natAbs_add_le (q.num * r.den) (r.num * q.den)
    rw [Int.natAbs_mul, Int.natAbs_mul, Int.natAbs_natCast, Int.natAbs_natCast] at h3
    omega
  · rw [Int.natAbs_mul, Int.natAbs_natCast, Int.natAbs_natCast]
    exact Nat.mul_le_mul h.2 k.2
theorem bnd_neg {q : Rat} {A B : Nat} (h : Bnd q A B) : Bnd (-q) A B := ⟨by show (-q.num).natAbs ≤ A; rw [Int.natAbs_neg]; exact h.1, h.2⟩
theorem bnd_sub {q r : Rat} {A B C D : Nat} (h : Bnd q A B) (k : Bnd r C D) : Bnd (q - r) (A * D + C * B) (B * D) := by
  rw [Rat.sub_eq_add_neg]; exact bnd_add h (bnd_neg k)
theorem bnd_mul {q r : Rat} {A B C D : Nat} (h : Bnd q A B) (k : Bnd r C D) : Bnd (q * r) (A * C) (B * D) := by
  have e1 := Rat.num_divInt_den q
  have e2 := Rat.num_divInt_den r
  have hq := q.den_pos
  have hr := r.den_pos
  have e : q * r = Rat.divInt (q.num * r.num) (q.den * r.den) := by
    conv => lhs; rw [← e1, ← e2]
    exact Rat.divInt_mul_divInt _ _
  rw [e]
  refine (bnd_of (Int.mul_ne_zero (by omega) (by omega))).le ?_ ?_
  · rw [Int.natAbs_mul]; exact Nat.mul_le_mul h.1 k.1
  · rw [Int.natAbs_mul, Int.natAbs_natCast, Int.natAbs_natCast]; exact Nat.mul_le_mul h.2 k.2
/-- What a rational within the bounds is told as. -/
theorem told {q : Rat} {A B : Nat} (h : Bnd q A B) (hA : A ≤ 2147483647) (hB : B ≤ 2147483647) : Pure_ofQ q = (q.num, (q.den : Int), 0) ∧ Rt q.num q.den := ofQ_rt (Nat.le_trans h.1 hA) (Nat.le_trans h.2 hB)
theorem VQ_self (q : Rat) : VQ q.num q.den = q := Rat.num_divInt_den q
theorem Rt.toQ {n d : Int} (h : Rt n d) : (VQ n d).num = n ∧ ((VQ n d).den : Int) = d := ⟨h.num, h.den⟩
/-- The i-th sample. -/
def at_ (l : List S30) (j : Nat) : S30 := l.getD j z30
theorem rd_at (l : List S30) (j : Nat) : rd_T30 l (j : Int) = at_ l j := rfl
/-- Samples that are right: times in the row, numbers right, each later than the one ahead. -/
def GoodL (l : List S30) : Prop := ∀ j : Nat, j < l.length → 0 ≤ (at_ l j).f0 ∧ (at_ l j).f0 ≤ 4294967295 ∧ Rt (at_ l j).f1.f0 (at_ l j).f1.f1 ∧ (0 < j → (at_ l (j - 1)).f0 < (at_ l j).f0)
theorem wrap_succ {j n : Nat} (h : j < n) (hn : n < 4611686014132420609) : wrap64 ((j : Int) + 1) = ((j + 1 : Nat) : Int) := by
  unfold wrap64; omega
theorem wrap_pred {j n : Nat} (h : j < n) (hn : n < 4611686014132420609) (h0 : 0 < j) : wrap64 ((j : Int) - 1) = ((j - 1 : Nat) : Int) := by
  unfold wrap64; omega
theorem down_right_at (l : List S30) (hl : GoodL l) (hn : l.length < 4611686014132420609) : ∀ n j : Nat, l.length - j = n → Ev (fun k => down_Right.l0 k l l (l.length : Int) (j : Int)) true := by
  intro n
  induction n with
  | zero =>
    intro j hj
    refine Ev.step (f := fun k => some true) (fun k => ?_) (Ev.now _)
    simp only [down_Right.l0]
    rw [if_neg (by omega)]
  | succ n ih =>
    intro j hj
    have hlt : j < l.length := by omega
    obtain ⟨g0, g1, g2, g3⟩ := hl j hlt
    have hr := right_tells g2.i64n g2.i64d
    rw [g2.right] at hr
    refine Ev.step (f := fun k => (rat_Right.f k (at_ l j).f1.f0 (at_ l j).f1.f1).bind fun t113 => (if t113 = true then (if (j : Int) > 0 then (if 0 ≤ (wrap64 ((j : Int) - 1)) then (if (wrap64 ((j : Int) - 1)) < (l.length : Int) then (if ((rd_T30 l (wrap64 ((j : Int) - 1))).f0) ≥ (at_ l j).f0 then (some false) else (down_Right.l0 k l l (l.length : Int) (wrap64 ((j : Int) + 1)))) else (none)) else (none)) else (down_Right.l0 k l l (l.length : Int) (wrap64 ((j : Int) + 1)))) else (some false))) (fun k => ?_) ?_
    · simp only [down_Right.l0]
      rw [if_pos (by omega), if_pos (by omega), if_pos (by omega), rd_at, if_neg (by omega), if_neg (by omega)]
    · refine Ev.bind hr ?_
      simp only [if_true, wrap_succ hlt hn]
      by_cases h0 : 0 < j
      · have := g3 h0
        simp only [wrap_pred hlt hn h0, rd_at]
        simp only [if_pos (show (j : Int) > 0 by omega), if_pos (show 0 ≤ ((j - 1 : Nat) : Int) by omega), if_pos (show ((j - 1 : Nat) : Int) < (l.length : Int) by omega), if_neg (show ¬ (at_ l (j - 1)).f0 ≥ (at_ l j).f0 by omega)]
        exact ih (j + 1) (by omega)
      · simp only [if_neg (show ¬ (j : Int) > 0 by omega)]
        exact ih (j + 1) (by omega)
theorem down_right_tells (l : List S30) (hl : GoodL l) (hn : l.length < 4611686014132420609) : Ev (fun k => down_Right.f k l) true := down_right_at l hl hn _ 0 rfl
theorem rt_one {n : Int} (h1 : -2147483647 ≤ n) (h2 : n ≤ 2147483647) : Rt n 1 := by
  obtain ⟨e1, e2, e3⟩ := new_parts n 1 (by decide)
  simp only [Int.natAbs_one, Nat.gcd_one_right, Nat.div_one] at e1 e2 e3
  refine ⟨h1, h2, by decide, by decide, ?_, by rw [e1]; rfl⟩
  by_cases hn : n < 0
  · simp [hn] at e3; omega
  · simp [hn] at e3; omega
theorem vq_one (n : Int) : VQ n 1 = (n : Rat) := by
  have h := Rat.num_divInt_den (n : Rat)
  rw [Rat.num_intCast, Rat.den_intCast] at h
  exact h
theorem prod_bnd {k t A B : Int} (hk : k.natAbs ≤ A.toNat) (ht : t.natAbs ≤ B.toNat) (hA : 0 ≤ A) (hB : 0 ≤ B) : -(A * B) ≤ k * t ∧ k * t ≤ A * B := by
  have h := Nat.mul_le_mul hk ht
  rw [← Int.natAbs_mul] at h
  obtain ⟨a, rfl⟩ := Int.eq_ofNat_of_zero_le hA
  obtain ⟨b, rfl⟩ := Int.eq_ofNat_of_zero_le hB
  rw [← Int.natCast_mul]
  simp only [Int.toNat_natCast] at h
  omega
theorem ofQ_one {n : Int} (h1 : -2147483647 ≤ n) (h2 : n ≤ 2147483647) : Pure_ofQ (n : Rat) = (n, 1, 0) := by
  unfold Pure_ofQ
  rw [Rat.num_intCast, Rat.den_intCast, if_neg (by omega)]
  rfl
theorem divInt_vq {n d : Int} : Rat.divInt n d = VQ n d := rfl
theorem between_tells {k c x y m : Int} (hk : -50 ≤ k ∧ k ≤ 50) (hc : -1000 ≤ c ∧ c ≤ 1000) (hx : 0 ≤ x ∧ x ≤ 1000) (hy : x < y ∧ y ≤ 2000) (hm : x ≤ m ∧ m ≤ y) :
    Ev (fun K => lerp_Between.f K x (c + k * x) 1 y (c + k * y) 1 m) (c + k * m, 1, 0) := by
  have b : ∀ t : Int, 0 ≤ t → t ≤ 2000 → -100000 ≤ k * t ∧ k * t ≤ 100000 := by
    intro t t0 t1
    have := prod_bnd (k := k) (t := t) (A := 50) (B := 2000) (by omega) (by omega) (by omega) (by omega)
    omega
  have bx := b x hx.1 (by omega)
  have by_ := b y (by omega) hy.2
  have bm := b m (by omega) (by omega)
  have rx : Rt (c + k * x) 1 := rt_one (by omega) (by omega)
  have ry : Rt (c + k * y) 1 := rt_one (by omega) (by omega)
  have r1 := right_tells rx.i64n rx.i64d
  have r2 := right_tells ry.i64n ry.i64d
  rw [rx.right] at r1
  rw [ry.right] at r2
  refine Ev.step (f := fun K => (rat_Right.f (K + 1) (c + k * x) 1).bind fun t170 => (if t170 = true then ((rat_Right.f (K + 1) (c + k * y) 1).bind fun t171 => (lerp_Between.j0 (K + 1) m (!t171) x (c + k * x) 1 y (c + k * y) 1)) else (lerp_Between.j0 (K + 1) m true x (c + k * x) 1 y (c + k * y) 1))) (fun K => ?_) ?_
  · simp only [lerp_Between.f]
    rw [if_neg (by omega), if_neg (by omega), if_neg (by omega)]
  refine Ev.bind (evUp r1) ?_
  simp only [if_true]
  refine Ev.bind (evUp r2) ?_
  simp only [Bool.not_true]
  by_cases h1 : m = x
  · refine evNow (fun K => ?_)
    simp only [lerp_Between.j0, Bool.false_eq_true, if_false]
    rw [if_pos h1, h1]
  by_cases h2 : m = y
  · refine evNow (fun K => ?_)
    simp only [lerp_Between.j0, Bool.false_eq_true, if_false]
    rw [if_neg h1, if_pos h2, h2]
  have e1 : wrap64 (m - x) = m - x := wrap64_id ⟨by omega, by omega⟩
  have e2 : wrap64 (y - x) = y - x := wrap64_id ⟨by omega, by omega⟩
  have bd := b (y - x) (by omega) (by omega)
  have be := b (m - x) (by omega) (by omega)
  have dx : k * (y - x) = k * y - k * x := Int.mul_sub _ _ _
  have dm : k * (m - x) = k * m - k * x := Int.mul_sub _ _ _
  have s1 := Sub_tells ry rx
  have q1 : VQ (c + k * y) 1 - VQ (c + k * x) 1 = ((k * (y - x) : Int) : Rat) := by
    rw [vq_one, vq_one, ← Rat.intCast_sub]; congr 1; omega
  rw [q1, ofQ_one (by omega) (by omega)] at s1
  have s2 := new_tells (n := m - x) (d := y - x) ⟨by omega, by omega⟩ ⟨by omega, by omega⟩
  have bq := (bnd_of (n := m - x) (d := y - x) (by omega)).le (C := 2000) (D := 2000) (by omega) (by omega)
  have tq := told bq (by decide) (by decide)
  have n2 : newQ (m - x) (y - x) = ((Rat.divInt (m - x) (y - x)).num, ((Rat.divInt (m - x) (y - x)).den : Int), 0) := by
    unfold newQ; rw [if_neg (by omega), tq.1]
  rw [n2] at s2
  have rd : Rt (k * (y - x)) 1 := rt_one (by omega) (by omega)
  have s3 := Mul_tells rd tq.2
  have q3 : VQ (k * (y - x)) 1 * VQ (Rat.divInt (m - x) (y - x)).num (Rat.divInt (m - x) (y - x)).den = ((k * (m - x) : Int) : Rat) := by
    rw [VQ_self, ← vq_one (k * (m - x))]
    unfold VQ
    rw [Rat.divInt_mul_divInt, Int.one_mul, show k * (y - x) * (m - x) = (k * (m - x)) * (y - x) by rw [Int.mul_assoc, Int.mul_comm (y - x), ← Int.mul_assoc]]
    have := Rat.divInt_mul_right (n := k * (m - x)) (d := 1) (a := y - x) (by omega)
    rw [Int.one_mul] at this
    exact this
  rw [q3, ofQ_one (by omega) (by omega)] at s3
  have re : Rt (k * (m - x)) 1 := rt_one (by omega) (by omega)
  have s4 := Add_tells re rx
  have q4 : VQ (k * (m - x)) 1 + VQ (c + k * x) 1 = ((c + k * m : Int) : Rat) := by
    rw [vq_one, vq_one, ← Rat.intCast_add]; congr 1; omega
  rw [q4, ofQ_one (by omega) (by omega)] at s4
  refine evEq (g := fun K => (rat_Sub.f K (c + k * y) 1 (c + k * x) 1).bind fun bt172 => (if bt172.2.2 = 0 then ((rat_New.f K (m - x) (y - x)).bind fun bt176 => (if bt176.2.2 = 0 then ((rat_Mul.f K bt172.1 bt172.2.1 bt176.1 bt176.2.1).bind fun bt180 => (if bt180.2.2 = 0 then ((rat_Add.f K bt180.1 bt180.2.1 (c + k * x) 1).bind fun bt184 => (some (bt184.1, bt184.2.1, bt184.2.2))) else (some (0, 0, bt180.2.2)))) else (some (0, 0, bt176.2.2)))) else (some (0, 0, bt172.2.2)))) (fun K => ?_) ?_
  · simp only [lerp_Between.j0, Bool.false_eq_true, if_false]
    rw [if_neg h1, if_neg h2, e1, e2]
  · refine Ev.bind s1 ?_
    simp only [if_true]
    refine Ev.bind s2 ?_
    simp only [if_true]
    refine Ev.bind s3 ?_
    simp only [if_true]
    exact Ev.bind s4 (Ev.now _)
theorem place_two {x y m : Int} {p q : S28} (hx : 0 ≤ x) (hy : x < y) (hm : x ≤ m ∧ m ≤ y) : Ev (fun K => lerp_place.f K [⟨x, p⟩, ⟨y, q⟩] m) (if m = x then 0 else 1) := by
  have e1 : wrap64 (Int.tdiv (wrap64 (0 + 2)) 2) = 1 := by decide +kernel
  have e2 : wrap64 (Int.tdiv (wrap64 (0 + 1)) 2) = 0 := by decide +kernel
  have e3 : wrap64 (0 + 1) = 1 := by decide +kernel
  have e4 : wrap64 (Int.tdiv 1 2) = 0 := by decide +kernel
  have a0 : (rd_T30 [(⟨x, p⟩ : S30), ⟨y, q⟩] 0).f0 = x := rfl
  have a1 : (rd_T30 [(⟨x, p⟩ : S30), ⟨y, q⟩] 1).f0 = y := rfl
  have l2 : (([(⟨x, p⟩ : S30), ⟨y, q⟩] : List S30).length : Int) = 2 := rfl
  unfold lerp_place.f
  rw [l2]
  refine Ev.step (f := fun K => lerp_place.l0 K [(⟨x, p⟩ : S30), ⟨y, q⟩] m 0 1) (fun K => ?_) ?_
  · simp only [lerp_place.l0, e1, a1, l2]
    rw [if_pos (by decide), if_pos (by decide), if_pos (by decide), if_neg (by omega)]
  by_cases h : m = x
  · rw [if_pos h]
    refine Ev.step (f := fun K => lerp_place.l0 K [(⟨x, p⟩ : S30), ⟨y, q⟩] m 0 0) (fun K => ?_) ?_
    · simp only [lerp_place.l0, e2, a0, l2]
      rw [if_pos (by decide), if_pos (by decide), if_pos (by decide), if_neg (by omega)]
    · exact Ev.step (f := fun K => some 0) (fun K => by simp only [lerp_place.l0]; rw [if_neg (by decide)]) (Ev.now _)
  · rw [if_neg h]
    refine Ev.step (f := fun K => lerp_place.l0 K [(⟨x, p⟩ : S30), ⟨y, q⟩] m 1 1) (fun K => ?_) ?_
    · simp only [lerp_place.l0, e3, e4, a0, l2]
      rw [if_pos (by decide), if_pos (by decide), if_pos (by decide), if_pos (by omega)]
    · exact Ev.step (f := fun K => some 1) (fun K => by simp only [lerp_place.l0]; rw [if_neg (by decide)]) (Ev.now _)
theorem at_two {k c x y m : Int} (hk : -50 ≤ k ∧ k ≤ 50) (hc : -1000 ≤ c ∧ c ≤ 1000) (hx : 0 ≤ x ∧ x ≤ 1000) (hy : x < y ∧ y ≤ 2000) (hm : x ≤ m ∧ m ≤ y) :
    Ev (fun K => lerp_At.f K [(⟨x, (⟨c + k * x, 1⟩ : S28)⟩ : S30), (⟨y, (⟨c + k * y, 1⟩ : S28)⟩ : S30)] m) (c + k * m, 1, true, 0) := by
  have b : ∀ t : Int, 0 ≤ t → t ≤ 2000 → -100000 ≤ k * t ∧ k * t ≤ 100000 := by
    intro t t0 t1
    have := prod_bnd (k := k) (t := t) (A := 50) (B := 2000) (by omega) (by omega) (by omega) (by omega)
    omega
  have bx := b x hx.1 (by omega)
  have by_ := b y (by omega) hy.2
  have rx : Rt (c + k * x) 1 := rt_one (by omega) (by omega)
  have ry : Rt (c + k * y) 1 := rt_one (by omega) (by omega)
  have good : GoodL [(⟨x, (⟨c + k * x, 1⟩ : S28)⟩ : S30), (⟨y, (⟨c + k * y, 1⟩ : S28)⟩ : S30)] := by
    intro j hj
    match j, hj with
    | 0, _ => exact ⟨hx.1, (show x ≤ 4294967295 by omega), rx, fun h => absurd h (Nat.lt_irrefl 0)⟩
    | 1, _ => exact ⟨(show 0 ≤ y by omega), (show y ≤ 4294967295 by omega), ry, fun _ => hy.1⟩
    | j + 2, h => exact absurd h (by simp)
  have hbt := between_tells hk hc hx hy hm
  have l2 : (([(⟨x, (⟨c + k * x, 1⟩ : S28)⟩ : S30), (⟨y, (⟨c + k * y, 1⟩ : S28)⟩ : S30)] : List S30).length : Int) = 2 := rfl
  have a0 : rd_T30 [(⟨x, (⟨c + k * x, 1⟩ : S28)⟩ : S30), (⟨y, (⟨c + k * y, 1⟩ : S28)⟩ : S30)] 0 = ⟨x, ⟨c + k * x, 1⟩⟩ := rfl
  have a1 : rd_T30 [(⟨x, (⟨c + k * x, 1⟩ : S28)⟩ : S30), (⟨y, (⟨c + k * y, 1⟩ : S28)⟩ : S30)] 1 = ⟨y, ⟨c + k * y, 1⟩⟩ := rfl
  refine Ev.bind (down_right_tells _ good (by simp)) ?_
  simp only [if_true]
  refine Ev.bind (place_two hx.1 hy.1 hm) ?_
  by_cases h : m = x
  · simp only [if_pos h, l2]
    refine Ev.step (f := fun K => some (c + k * m, 1, true, 0)) (fun K => ?_) (Ev.now _)
    simp only [lerp_At.j0, l2, a0, h, beq_self_eq_true, if_true]
    rw [if_pos (by decide), if_pos (by decide)]
    simp
  · simp only [if_neg h, l2]
    by_cases h1 : m = y
    · refine Ev.step (f := fun K => some (c + k * m, 1, true, 0)) (fun K => ?_) (Ev.now _)
      simp only [lerp_At.j0, l2, a1, h1, beq_self_eq_true, if_true]
      rw [if_pos (by decide), if_pos (by decide)]
      simp
    · have hb : (y == m) = false := by rw [beq_eq_false_iff_ne]; omega
      have e0 : wrap64 (1 - 1) = 0 := by decide +kernel
      refine Ev.step (f := fun K => (lerp_Between.f K x (c + k * x) 1 y (c + k * y) 1 m).bind fun bt199 => (some (bt199.1, bt199.2.1, (bt199.2.2 == 0), bt199.2.2))) (fun K => ?_) ?_
      · simp only [lerp_At.j0, l2, a1, a0, hb, e0, Bool.false_eq_true, if_false]
        rw [if_pos (by decide), if_pos (by decide), if_neg (by decide), if_neg (by decide), if_pos (by decide), if_pos (by decide), if_pos (by decide), if_pos (by decide)]
      · exact Ev.bind hbt (Ev.now _)
theorem rright1 {n : Int} (h1 : -2147483647 ≤ n) (h2 : n ≤ 2147483647) : Ev (fun K => marigraphref1_Right.f K n 1) true := by
  refine Ev.step (f := fun K => marigraphref1_Right.j0 (K + 1) false n 1) (fun K => ?_) ?_
  · simp only [marigraphref1_Right.f]
    rw [if_neg (by decide), if_neg (by decide), if_neg (by omega), decide_eq_false (by omega)]
  have ha : marigraphref1_abs.f n = some (n.natAbs : Int) := by
    unfold marigraphref1_abs.f
    by_cases h : n < 0
    · rw [if_pos h, wrap64_id ⟨by omega, by omega⟩]; congr 1; omega
    · rw [if_neg h]; congr 1; omega
  refine evEq (g := fun K => (marigraphref1_gcd.f K (n.natAbs : Int) 1).bind fun t218 => some (t218 == 1)) (fun K => ?_) ?_
  · simp only [marigraphref1_Right.j0, Bool.false_eq_true, if_false, ha, Option.bind_some]
  · suffices hg : Ev (fun K => marigraphref1_gcd.f K (n.natAbs : Int) 1) 1 from Ev.bind hg (evNow (fun _ => rfl))
    unfold marigraphref1_gcd.f
    refine Ev.step (f := fun K => marigraphref1_gcd.l0 K 1 0) (fun K => ?_) ?_
    · simp only [marigraphref1_gcd.l0]
      rw [if_neg (by decide), Int.tmod_one]
    · exact Ev.step (f := fun K => some 1) (fun K => by simp only [marigraphref1_gcd.l0, if_true]) (Ev.now _)
theorem rcmp1 {n m : Int} (n1 : -1000000 ≤ n) (n2 : n ≤ 1000000) (m1 : -1000000 ≤ m) (m2 : m ≤ 1000000) (h : n ≤ m) : ∃ r, Ev (fun K => marigraphref1_Cmp.f K n 1 m 1) r ∧ r ≤ 0 := by
  refine ⟨if n < m then -1 else 0, ?_, by split <;> omega⟩
  refine Ev.bind (rright1 (by omega) (by omega)) (Ev.bind (rright1 (by omega) (by omega)) ?_)
  simp only [if_true]
  refine Ev.step (f := fun K => some (if n < m then -1 else 0)) (fun K => ?_) (Ev.now _)
  simp only [marigraphref1_Cmp.j0, Bool.false_eq_true, if_false, if_true, Int.mul_one]
  rw [wrap64_id (x := n) ⟨by omega, by omega⟩, wrap64_id (x := m) ⟨by omega, by omega⟩]
  by_cases hl : n < m
  · rw [if_pos hl, if_pos hl]
  · rw [if_neg hl, if_neg hl, if_neg (by omega)]
theorem known22 : Ev (fun k => marigraphlaw22_known.f k) true := Ev.of (k := 60) marigraphlaw22_known.mono (by decide +kernel)
theorem le_mul_of {k x m : Int} (hk : 0 ≤ k) (h : x ≤ m) : k * x ≤ k * m := Int.mul_le_mul_of_nonneg_left h hk
theorem LerpLines : marigraphlaw22_LerpLines.Pure := by
  intro up start a b t hu hs ha hb ht
  obtain ⟨k, ek, k1, k2, _⟩ := within_ev (lo := -50) (hi := 50) (by omega) (by omega) (by omega) (by omega) (i64_of hu)
  obtain ⟨c, ec, c1, c2, _⟩ := within_ev (lo := -1000) (hi := 1000) (by omega) (by omega) (by omega) (by omega) (i64_of hs)
  obtain ⟨x, ex, x1, x2, _⟩ := within_ev (lo := 0) (hi := 1000) (by omega) (by omega) (by omega) (by omega) (i64_of ha)
  obtain ⟨d, ed, d1, d2, _⟩ := within_ev (lo := 1) (hi := 1000) (by omega) (by omega) (by omega) (by omega) (i64_of hb)
  obtain ⟨u, eu, u1, u2, _⟩ := within_ev (lo := 0) (hi := 1000) (by omega) (by omega) (by omega) (by omega) (i64_of ht)
  refine Ev.rounds (Ev.bind ek (Ev.bind ec (Ev.bind ex (Ev.bind ed (Ev.bind eu ?_)))))
  have w1 : wrap64 (x + d) = x + d := wrap64_id ⟨by omega, by omega⟩
  have w2 : wrap64 (x + d - x) = d := by unfold wrap64; omega
  have w3 : wrap64 (d + 1) = d + 1 := wrap64_id ⟨by omega, by omega⟩
  have hm0 : 0 ≤ Int.tmod u (d + 1) := Int.tmod_nonneg _ u1
  have hm1 : Int.tmod u (d + 1) < d + 1 := Int.tmod_lt_of_pos _ (by omega)
  obtain ⟨m, hm⟩ : ∃ m, m = x + Int.tmod u (d + 1) := ⟨_, rfl⟩
  have w4 : wrap64 (x + Int.tmod u (d + 1)) = m := by rw [hm]; exact wrap64_id ⟨by omega, by omega⟩
  obtain ⟨y, hy⟩ : ∃ y, y = x + d := ⟨_, rfl⟩
  have bb : ∀ t : Int, 0 ≤ t → t ≤ 2000 → -100000 ≤ k * t ∧ k * t ≤ 100000 := by
    intro t t0 t1
    have := prod_bnd (k := k) (t := t) (A := 50) (B := 2000) (by omega) (by omega) (by omega) (by omega)
    omega
  have bx := bb x x1 (by omega)
  have by_ := bb y (by omega) (by omega)
  have bm := bb m (by omega) (by omega)
  have vx : wrap64 (c + wrap64 (k * x)) = c + k * x := by rw [wrap64_id (x := k * x) ⟨by omega, by omega⟩, wrap64_id ⟨by omega, by omega⟩]
  have vy : wrap64 (c + wrap64 (k * y)) = c + k * y := by rw [wrap64_id (x := k * y) ⟨by omega, by omega⟩, wrap64_id ⟨by omega, by omega⟩]
  have vm : wrap64 (c + wrap64 (k * m)) = c + k * m := by rw [wrap64_id (x := k * m) ⟨by omega, by omega⟩, wrap64_id ⟨by omega, by omega⟩]
  simp only [w1, w2, w3, w4]
  simp only [← hy, vx, vy, vm]
  simp only [if_neg (show ¬ d + 1 = 0 by omega)]
  refine Ev.bind (between_tells ⟨k1, k2⟩ ⟨c1, c2⟩ ⟨x1, x2⟩ ⟨by omega, by omega⟩ ⟨by omega, by omega⟩) ?_
  refine Ev.bind (at_two ⟨k1, k2⟩ ⟨c1, c2⟩ ⟨x1, x2⟩ ⟨by omega, by omega⟩ ⟨by omega, by omega⟩) ?_
  simp only [if_true, beq_self_eq_true, Bool.not_true, Bool.or_self, Bool.false_eq_true, if_false]
  by_cases hk : k < 0
  · have l1 := le_mul_of (k := -k) (x := x) (m := m) (by omega) (by omega)
    have l2 := le_mul_of (k := -k) (x := m) (m := y) (by omega) (by omega)
    simp only [Int.neg_mul] at l1 l2
    obtain ⟨r1, e1, q1⟩ := rcmp1 (n := c + k * y) (m := c + k * m) (by omega) (by omega) (by omega) (by omega) (by omega)
    obtain ⟨r2, e2, q2⟩ := rcmp1 (n := c + k * m) (m := c + k * x) (by omega) (by omega) (by omega) (by omega) (by omega)
    refine Ev.step (f := fun K => (marigraphref1_Cmp.f K (c + k * y) 1 (c + k * m) 1).bind fun t244 => (if t244 ≤ 0 then ((marigraphref1_Cmp.f K (c + k * m) 1 (c + k * x) 1).bind fun t245 => (if t245 ≤ 0 then ((marigraphlaw22_known.f K).bind fun t246 => (some t246)) else (some false))) else (some false))) (fun K => ?_) ?_
    · simp only [marigraphlaw22_LerpLines.j0, Bool.false_eq_true, if_false]
      rw [if_pos hk]
    · refine Ev.bind e1 ?_
      simp only [if_pos q1]
      refine Ev.bind e2 ?_
      simp only [if_pos q2]
      exact Ev.bind known22 (Ev.now _)
  · have l1 := le_mul_of (k := k) (x := x) (m := m) (by omega) (by omega)
    have l2 := le_mul_of (k := k) (x := m) (m := y) (by omega) (by omega)
    obtain ⟨r1, e1, q1⟩ := rcmp1 (n := c + k * x) (m := c + k * m) (by omega) (by omega) (by omega) (by omega) (by omega)
    obtain ⟨r2, e2, q2⟩ := rcmp1 (n := c + k * m) (m := c + k * y) (by omega) (by omega) (by omega) (by omega) (by omega)
    refine Ev.step (f := fun K => (marigraphref1_Cmp.f K (c + k * x) 1 (c + k * m) 1).bind fun t244 => (if t244 ≤ 0 then ((marigraphref1_Cmp.f K (c + k * m) 1 (c + k * y) 1).bind fun t245 => (if t245 ≤ 0 then ((marigraphlaw22_known.f K).bind fun t246 => (some t246)) else (some false))) else (some false))) (fun K => ?_) ?_
    · simp only [marigraphlaw22_LerpLines.j0, Bool.false_eq_true, if_false]
      rw [if_neg hk]
    · refine Ev.bind e1 ?_
      simp only [if_pos q1]
      refine Ev.bind e2 ?_
      simp only [if_pos q2]
      exact Ev.bind known22 (Ev.now _)

end Go.Proofs.Ytdnialldicdnoaa.Pure

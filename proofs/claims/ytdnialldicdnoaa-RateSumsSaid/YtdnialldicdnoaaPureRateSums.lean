/- Changes of a line are the line's own step. -/
import Derived.Test.YtdnialldicdnoaaPRateSumsx10
namespace Go.Proofs.Ytdnialldicdnoaa.Pure
open Go.RowKit Go.Proofs.Ytdnialldicdnoaa.PRateSums Go.Proofs.YtdnialldicdnoaaW.PrintWords Go.Proofs.YtdnialldicdnoaaW.PrintLast
set_option linter.unusedVariables false
set_option linter.unusedSimpArgs false

theorem u64_of {a : Int} (h : (Lit.int .u64 a).wf = true) : 0 ≤ a ∧ a < 18446744073709551616 := by
  have h1 : IntKind.u64.min = 0 := rfl
  have h2 : IntKind.u64.max = 18446744073709551615 := rfl
  simp only [Lit.wf, Bool.and_eq_true, decide_eq_true_eq] at h
  omega
theorem i64_of {a : Int} (h : (Lit.int .i64 a).wf = true) : -9223372036854775808 ≤ a ∧ a ≤ 9223372036854775807 := by
  have h1 : IntKind.i64.min = -9223372036854775808 := rfl
  have h2 : IntKind.i64.max = 9223372036854775807 := rfl
  simp only [Lit.wf, Bool.and_eq_true, decide_eq_true_eq] at h
  omega
/-! ### rationals: New, Right -/
def Pure_ofQ (q : Rat) : Int × Int × Int := if q.num.natAbs > 2147483647 ∨ q.den > 2147483647 then (0, 0, 23) else (q.num, (q.den : Int), 0)
def newQ (n d : Int) : Int × Int × Int := if d = 0 then (0, 0, 1) else Pure_ofQ (Rat.divInt n d)
def I64 (n : Int) : Prop := -9223372036854775808 ≤ n ∧ n ≤ 9223372036854775807
theorem wrapU {x : Int} (h0 : 0 ≤ x) (h1 : x < 18446744073709551616) : IntKind.u64.wrap x = x := by
  have : IntKind.u64.wrap x = x % 18446744073709551616 := by simp [IntKind.wrap, IntKind.bits, IntKind.signed]
  rw [this]; exact Int.emod_eq_of_lt h0 h1
theorem wrapU_eq (x : Int) : IntKind.u64.wrap x = x % 18446744073709551616 := by simp [IntKind.wrap, IntKind.bits, IntKind.signed]
theorem wrap64_id {x : Int} (h : I64 x) : wrap64 x = x := by unfold I64 at h; unfold wrap64; omega
theorem size_tells {n : Int} (h : I64 n) : rat_size.f n = some (n.natAbs : Int) := by
  unfold I64 at h
  unfold rat_size.f
  by_cases hn : n < 0
  · rw [if_pos hn, wrapU_eq, wrapU_eq]
    congr 1
    omega
  · rw [if_neg hn, wrapU_eq]
    congr 1
    omega
theorem common_tells (b : Nat) : ∀ (a k : Nat), b < k → rat_common.l0 k (a : Int) (b : Int) = some ((Nat.gcd a b : Nat) : Int) := by
  induction b using Nat.strongRecOn with
  | _ b ih =>
    intro a k hk
    obtain ⟨k, rfl⟩ : ∃ m, k = m + 1 := ⟨k - 1, by omega⟩
    simp only [rat_common.l0]
    by_cases hb : b = 0
    · subst hb
      rw [if_neg (by omega), Nat.gcd_zero_right]
    · rw [if_pos (by omega), if_neg (by omega)]
      have e : Int.tmod (a : Int) (b : Int) = ((a % b : Nat) : Int) := by rw [Int.ofNat_tmod]
      have hl : a % b < b := Nat.mod_lt _ (by omega)
      rw [e, ih (a % b) hl b k (by omega), Nat.gcd_comm a b, Nat.gcd_rec b a, Nat.gcd_comm]
theorem new_parts (n d : Int) (hd : d ≠ 0) : (Rat.divInt n d).den = d.natAbs / Nat.gcd n.natAbs d.natAbs ∧ (Rat.divInt n d).num.natAbs = n.natAbs / Nat.gcd n.natAbs d.natAbs ∧
    (if (decide (n < 0)) != (decide (d < 0)) then (Rat.divInt n d).num = -((n.natAbs / Nat.gcd n.natAbs d.natAbs : Nat) : Int) else (Rat.divInt n d).num = ((n.natAbs / Nat.gcd n.natAbs d.natAbs : Nat) : Int)) := by
  have hg : Int.gcd d n = Nat.gcd n.natAbs d.natAbs := by unfold Int.gcd; exact Nat.gcd_comm _ _
  have hpos : 0 < Nat.gcd n.natAbs d.natAbs := Nat.gcd_pos_of_pos_right _ (by omega)
  refine ⟨by rw [Rat.den_divInt, if_neg hd, hg], ?_⟩
  rw [Rat.num_divInt, hg]
  obtain ⟨c, hc⟩ : ∃ c : Int, n = (Nat.gcd n.natAbs d.natAbs : Int) * c := by
    have : ((Nat.gcd n.natAbs d.natAbs : Nat) : Int) ∣ n := Int.natAbs_dvd_natAbs.1 (by rw [Int.natAbs_natCast]; exact Nat.gcd_dvd_left _ _)
    exact this
  generalize Nat.gcd n.natAbs d.natAbs = g at *
  have hA : n.natAbs / g = c.natAbs := by
    rw [hc, Int.natAbs_mul, Int.natAbs_natCast]
    exact Nat.mul_div_cancel_left _ hpos
  have hnc : (n < 0 ↔ c < 0) := by
    have hg0 : (0 : Int) < (g : Int) := by omega
    constructor
    · intro h
      by_cases h' : c < 0
      · exact h'
      · have := Int.mul_nonneg (Int.le_of_lt hg0) (Int.not_lt.1 h'); omega
    · intro h
      have := Int.mul_neg_of_pos_of_neg hg0 h; omega
  rw [hA]
  have hq : d.sign * n / (g : Int) = d.sign * c := by
    rw [hc, ← Int.mul_assoc, Int.mul_comm d.sign, Int.mul_assoc]
    exact Int.mul_ediv_cancel_left _ (by omega)
  rw [hq]
  rcases Int.lt_trichotomy d 0 with h | h | h
  · rw [Int.sign_eq_neg_one_of_neg h]
    have h1 : decide (d < 0) = true := decide_eq_true h
    rw [h1]
    by_cases hn : n < 0
    · have h2 := hnc.1 hn
      rw [decide_eq_true hn]
      simp only [bne_self_eq_false, Bool.false_eq_true, if_false]
      omega
    · have h2 : ¬ c < 0 := fun h => hn (hnc.2 h)
      rw [decide_eq_false hn]
      simp only [Bool.bne_true, Bool.not_false, if_true]
      omega
  · exact absurd h hd
  · rw [Int.sign_eq_one_of_pos h]
    have h1 : decide (d < 0) = false := decide_eq_false (by omega)
    rw [h1]
    by_cases hn : n < 0
    · have h2 := hnc.1 hn
      rw [decide_eq_true hn]
      simp only [Bool.bne_false, if_true]
      omega
    · have h2 : ¬ c < 0 := fun h => hn (hnc.2 h)
      rw [decide_eq_false hn]
      simp only [bne_self_eq_false, Bool.false_eq_true, if_false]
      omega
theorem new_at (n d : Int) (hn : I64 n) (hd : I64 d) (k : Nat) (hk : d.natAbs + 2 < k) : rat_New.f k n d = some (newQ n d) := by
  unfold rat_New.f newQ
  by_cases h0 : d = 0
  · rw [if_pos h0, if_pos h0]
  rw [if_neg h0, if_neg h0, size_tells hn, size_tells hd]
  simp only [Option.bind_some]
  unfold rat_common.f
  rw [common_tells d.natAbs n.natAbs k (by omega)]
  simp only [Option.bind_some]
  obtain ⟨e1, e2, e3⟩ := new_parts n d h0
  have hpos : 0 < Nat.gcd n.natAbs d.natAbs := Nat.gcd_pos_of_pos_right _ (by omega)
  generalize Nat.gcd n.natAbs d.natAbs = g at *
  have t1 : IntKind.u64.wrap (Int.tdiv (n.natAbs : Int) (g : Int)) = ((n.natAbs / g : Nat) : Int) := by
    rw [← Int.ofNat_tdiv]
    have := Nat.div_le_self n.natAbs g
    unfold I64 at hn
    exact wrapU (by omega) (by omega)
  have t2 : IntKind.u64.wrap (Int.tdiv (d.natAbs : Int) (g : Int)) = ((d.natAbs / g : Nat) : Int) := by
    rw [← Int.ofNat_tdiv]
    have := Nat.div_le_self d.natAbs g
    unfold I64 at hd
    exact wrapU (by omega) (by omega)
  rw [t1, t2, if_neg (by omega)]
  unfold Pure_ofQ
  rw [e1, e2]
  generalize n.natAbs / g = A at *
  generalize d.natAbs / g = B at *
  obtain ⟨k, rfl⟩ : ∃ m, k = m + 1 := ⟨k - 1, by omega⟩
  by_cases hA : (A : Int) > 2147483647
  · rw [if_pos hA, if_pos (Or.inl (by omega))]
    simp only [rat_New.j0, if_true]
  · rw [if_neg hA]
    by_cases hB : (B : Int) > 2147483647
    · rw [decide_eq_true hB, if_pos (Or.inr (by omega))]
      simp only [rat_New.j0, if_true]
    · rw [decide_eq_false hB, if_neg (by omega)]
      simp only [rat_New.j0, Bool.false_eq_true, if_false]
      have w1 : wrap64 (A : Int) = (A : Int) := wrap64_id (by unfold I64; omega)
      have w2 : wrap64 (B : Int) = (B : Int) := wrap64_id (by unfold I64; omega)
      have w3 : wrap64 (-(A : Int)) = -(A : Int) := wrap64_id (by unfold I64; omega)
      rw [w1, w2, w3]
      by_cases hs : ((decide (n < 0)) != (decide (d < 0))) = true
      · rw [if_pos hs] at e3 ⊢
        rw [e3]
      · rw [if_neg hs] at e3 ⊢
        rw [e3]
theorem new_tells {n d : Int} (hn : I64 n) (hd : I64 d) : Ev (fun k => rat_New.f k n d) (newQ n d) := ⟨d.natAbs + 3, fun k hk => new_at n d hn hd k (by omega)⟩
/-- A number that is right: in lowest terms, within the bounds. -/
structure Rt (n d : Int) : Prop where
  n1 : -2147483647 ≤ n
  n2 : n ≤ 2147483647
  d1 : 1 ≤ d
  d2 : d ≤ 2147483647
  num : (Rat.divInt n d).num = n
  den : ((Rat.divInt n d).den : Int) = d
def rightQ (n d : Int) : Bool := decide (d > 0) && decide (newQ n d = (n, d, 0))
theorem Rt.right {n d : Int} (h : Rt n d) : rightQ n d = true := by
  unfold rightQ newQ Pure_ofQ
  have h1 := h.n1
  have h2 := h.n2
  have h3 := h.d1
  have h4 := h.d2
  have h5 := h.num
  have h6 := h.den
  rw [if_neg (by omega), if_neg (by omega), h5, h6]
  simp only [decide_true, Bool.and_true, decide_eq_true_eq]
  omega
theorem Rt.of_right {n d : Int} (h : rightQ n d = true) : Rt n d := by
  unfold rightQ newQ Pure_ofQ at h
  rw [Bool.and_eq_true, decide_eq_true_eq, decide_eq_true_eq] at h
  obtain ⟨hd, h⟩ := h
  rw [if_neg (by omega)] at h
  by_cases hb : (Rat.divInt n d).num.natAbs > 2147483647 ∨ (Rat.divInt n d).den > 2147483647
  · rw [if_pos hb] at h
    simp only [Prod.mk.injEq] at h
    omega
  · rw [if_neg hb] at h
    simp only [Prod.mk.injEq, and_true] at h
    obtain ⟨h1, h2⟩ := h
    exact ⟨by omega, by omega, by omega, by omega, h1, h2⟩
theorem rightQ_iff {n d : Int} : rightQ n d = true ↔ Rt n d := ⟨Rt.of_right, Rt.right⟩
theorem right_tells {n d : Int} (hn : I64 n) (hd : I64 d) : Ev (fun k => rat_Right.f k n d) (rightQ n d) := by
  refine Ev.bind (new_tells hn hd) ?_
  unfold rightQ
  by_cases h0 : d > 0
  · simp only [if_pos h0, decide_eq_true h0, Bool.true_and]
    obtain ⟨a, b, c⟩ := newQ n d
    simp only [Prod.mk.injEq]
    by_cases hc : c = 0
    · simp only [if_pos hc]
      refine ⟨0, fun _ _ => ?_⟩
      show some _ = some _
      congr 1
      rw [Bool.eq_iff_iff]
      simp [hc]
    · simp only [if_neg hc]
      refine ⟨0, fun _ _ => ?_⟩
      show some _ = some _
      congr 1
      simp [hc]
  · simp only [if_neg h0, decide_eq_false h0, Bool.false_and]
    exact Ev.now _
theorem Rt.i64n {n d : Int} (h : Rt n d) : I64 n := ⟨by have := h.n1; omega, by have := h.n2; omega⟩
theorem Rt.i64d {n d : Int} (h : Rt n d) : I64 d := ⟨by have := h.d1; omega, by have := h.d2; omega⟩
theorem Rt.ofQ {q : Rat} {n d : Int} (h : Pure_ofQ q = (n, d, 0)) : Rt n d ∧ Rat.divInt n d = q := by
  unfold Pure_ofQ at h
  by_cases hb : q.num.natAbs > 2147483647 ∨ q.den > 2147483647
  · rw [if_pos hb] at h; simp at h
  · rw [if_neg hb] at h
    simp only [Prod.mk.injEq, and_true] at h
    obtain ⟨rfl, rfl⟩ := h
    have e := Rat.num_divInt_den q
    have hd := q.den_pos
    exact ⟨⟨by omega, by omega, by omega, by omega, by rw [e], by rw [e]⟩, e⟩
theorem ofQ_rt {q : Rat} (h1 : q.num.natAbs ≤ 2147483647) (h2 : q.den ≤ 2147483647) : Pure_ofQ q = (q.num, (q.den : Int), 0) ∧ Rt q.num q.den := by
  have e : Pure_ofQ q = (q.num, (q.den : Int), 0) := by unfold Pure_ofQ; rw [if_neg (by omega)]
  exact ⟨e, (Rt.ofQ e).1⟩
theorem Rt.same {a b c d : Int} (h : Rt a b) (k : Rt c d) (e : Rat.divInt a b = Rat.divInt c d) : a = c ∧ b = d := by
  have h1 := h.num; have h2 := h.den; have k1 := k.num; have k2 := k.den
  rw [e] at h1 h2
  omega
theorem mulM {x y : Int} (hx : -2147483647 ≤ x ∧ x ≤ 2147483647) (hy : -2147483647 ≤ y ∧ y ≤ 2147483647) : -4611686014132420609 ≤ x * y ∧ x * y ≤ 4611686014132420609 := by
  have h := Nat.mul_le_mul (show x.natAbs ≤ 2147483647 by omega) (show y.natAbs ≤ 2147483647 by omega)
  rw [← Int.natAbs_mul] at h
  omega
/-! ### marigraphkeep.Rat: a right number, small -/
theorem within_ev {n lo hi : Int} (h1 : 0 ≤ lo + 1000) (h2 : lo ≤ hi) (h3 : hi < 1000000) (h4 : -1000 ≤ lo) (hn : I64 n) : ∃ r, Ev (fun k => marigraphbook_Within.f k n lo hi) r ∧ lo ≤ r ∧ r ≤ hi ∧ (lo ≤ n → n ≤ hi → r = n) := by
  unfold I64 at hn
  have e1 : wrap64 (wrap64 (hi - lo) + 1) = hi - lo + 1 := by unfold wrap64; omega
  have hj : ∀ b : Bool, (b = true ↔ (lo ≤ n ∧ n ≤ hi)) → ∃ r, (∀ k, marigraphbook_Within.j0 (k + 1) n lo hi b = some r) ∧ lo ≤ r ∧ r ≤ hi ∧ (lo ≤ n → n ≤ hi → r = n) := by
    intro b hb
    simp only [marigraphbook_Within.j0, e1]
    cases b with
    | true =>
      have := hb.1 rfl
      exact ⟨n, fun _ => by rw [if_pos rfl], this.1, this.2, fun _ _ => rfl⟩
    | false =>
      have hno : ¬ (lo ≤ n ∧ n ≤ hi) := fun h => by have := hb.2 h; cases this
      simp only [Bool.false_eq_true, if_false]
      rw [if_neg (by omega)]
      have hm : (0 : Int) < hi - lo + 1 := by omega
      have t1 : Int.tmod n (hi - lo + 1) < hi - lo + 1 := Int.tmod_lt_of_pos _ hm
      have t2 : -(hi - lo + 1) < Int.tmod n (hi - lo + 1) := by
        have := Int.tmod_lt_of_pos (-n) hm
        rw [Int.neg_tmod] at this
        omega
      generalize Int.tmod n (hi - lo + 1) = t at *
      by_cases ht : t < 0
      · rw [if_pos ht]
        have e : wrap64 (lo + wrap64 (wrap64 (wrap64 (t + hi) - lo) + 1)) = t + hi + 1 := by unfold wrap64; omega
        rw [e]
        exact ⟨_, fun _ => rfl, by omega, by omega, fun a b => absurd ⟨a, b⟩ hno⟩
      · rw [if_neg ht]
        have e : wrap64 (lo + t) = lo + t := by unfold wrap64; omega
        rw [e]
        exact ⟨_, fun _ => rfl, by omega, by omega, fun a b => absurd ⟨a, b⟩ hno⟩
  have fin : ∀ b : Bool, (∀ k, marigraphbook_Within.f k n lo hi = marigraphbook_Within.j0 k n lo hi b) → (b = true ↔ (lo ≤ n ∧ n ≤ hi)) → ∃ r, Ev (fun k => marigraphbook_Within.f k n lo hi) r ∧ lo ≤ r ∧ r ≤ hi ∧ (lo ≤ n → n ≤ hi → r = n) := by
    intro b hf hb
    obtain ⟨r, h, hr⟩ := hj b hb
    refine ⟨r, ⟨1, fun k hk => ?_⟩, hr⟩
    obtain ⟨k, rfl⟩ : ∃ m, k = m + 1 := ⟨k - 1, by omega⟩
    show marigraphbook_Within.f (k + 1) n lo hi = some r
    rw [hf]
    exact h k
  by_cases hlo : n ≥ lo
  · refine fin (decide (n ≤ hi)) (fun k => by unfold marigraphbook_Within.f; rw [if_pos hlo]) ?_
    rw [decide_eq_true_iff]
    exact ⟨fun h => ⟨hlo, h⟩, fun h => h.2⟩
  · refine fin false (fun k => by unfold marigraphbook_Within.f; rw [if_neg hlo]) ?_
    constructor
    · intro h; cases h
    · intro h; omega
/-! ### Cmp, Add, Sub, Mul, Div of right numbers -/
def VQ (n d : Int) : Rat := Rat.divInt n d
theorem ratlt {n d m e : Int} (h : Rt n d) (k : Rt m e) : n * e < m * d ↔ VQ n d < VQ m e := by
  rw [Rat.lt_iff]
  unfold VQ
  rw [h.num, h.den, k.num, k.den]
theorem rateq {n d m e : Int} (h : Rt n d) (k : Rt m e) : (n = m ∧ d = e) ↔ VQ n d = VQ m e := ⟨fun he => by rw [he.1, he.2], fun he => h.same k he⟩
def cmpQ (a b : Rat) : Int := if a < b then -1 else if a = b then 0 else 1
theorem prodw {x y : Int} (hx : -2147483647 ≤ x ∧ x ≤ 2147483647) (hy : -2147483647 ≤ y ∧ y ≤ 2147483647) : wrap64 (x * y) = x * y := by
  have := mulM hx hy
  exact wrap64_id ⟨by omega, by omega⟩
theorem exactQ {f : Nat → Option (Int × Int × Int)} {n d : Int} {q : Rat} (hn : I64 n) (hd : I64 d) (h0 : d ≠ 0) (hq : Rat.divInt n d = q) (hf : ∀ k, f (k + 1) = (rat_New.f k n d).bind fun t => some (t.1, t.2.1, t.2.2)) : Ev f (Pure_ofQ q) := by
  refine Ev.step hf ?_
  have h := new_tells hn hd
  have e : newQ n d = Pure_ofQ q := by unfold newQ; rw [if_neg h0, hq]
  rw [e] at h
  exact Ev.bind h (Ev.now _)
theorem cmp_tells {n d m e : Int} (h : Rt n d) (k : Rt m e) : Ev (fun K => rat_Cmp.f K n d m e) (cmpQ (VQ n d) (VQ m e)) := by
  have r1 := right_tells h.i64n h.i64d
  have r2 := right_tells k.i64n k.i64d
  rw [h.right] at r1
  rw [k.right] at r2
  refine Ev.bind r1 (Ev.bind r2 ?_)
  simp only [if_true, Bool.not_true]
  refine ⟨1, fun K hK => ?_⟩
  obtain ⟨K, rfl⟩ : ∃ m, K = m + 1 := ⟨K - 1, by omega⟩
  simp only [rat_Cmp.j0, Bool.false_eq_true, if_false, if_true]
  have h1 := h.n1; have h2 := h.n2; have h3 := h.d1; have h4 := h.d2
  have k1 := k.n1; have k2 := k.n2; have k3 := k.d1; have k4 := k.d2
  rw [prodw (x := n) (y := e) ⟨by omega, by omega⟩ ⟨by omega, by omega⟩, prodw (x := m) (y := d) ⟨by omega, by omega⟩ ⟨by omega, by omega⟩]
  unfold cmpQ
  by_cases hlt : n * e < m * d
  · rw [if_pos hlt, if_pos ((ratlt h k).1 hlt)]
  · rw [if_neg hlt, if_neg (fun hh => hlt ((ratlt h k).2 hh))]
    by_cases he : VQ n d = VQ m e
    · obtain ⟨e1, e2⟩ := (rateq h k).2 he
      rw [if_pos (by rw [e1, e2]; simp), if_pos he]
    · rw [if_neg (fun hh => he ((rateq h k).1 (by simpa using hh))), if_neg he]
theorem Sub_tells {n d m e : Int} (h : Rt n d) (k : Rt m e) : Ev (fun K => rat_Sub.f K n d m e) (Pure_ofQ (VQ n d - VQ m e)) := by
  have r1 := right_tells h.i64n h.i64d
  have r2 := right_tells k.i64n k.i64d
  rw [h.right] at r1
  rw [k.right] at r2
  have h1 := h.n1; have h2 := h.n2; have h3 := h.d1; have h4 := h.d2
  have k1 := k.n1; have k2 := k.n2; have k3 := k.d1; have k4 := k.d2
  have hd0 : d ≠ 0 := by omega
  have he0 : e ≠ 0 := by omega
  have p1 := mulM (x := n) (y := e) ⟨by omega, by omega⟩ ⟨by omega, by omega⟩
  have p2 := mulM (x := m) (y := d) ⟨by omega, by omega⟩ ⟨by omega, by omega⟩
  have p3 := mulM (x := d) (y := e) ⟨by omega, by omega⟩ ⟨by omega, by omega⟩
  have p4 := mulM (x := n) (y := m) ⟨by omega, by omega⟩ ⟨by omega, by omega⟩
  have hde : d * e ≠ 0 := Int.mul_ne_zero hd0 he0
  refine Ev.bind (g := fun K => rat_exact_of_rat_Sub_1_rat_both.f K n d m e) (a := Pure_ofQ (VQ n d - VQ m e)) (f := fun _ b => some (b.1, b.2.1, b.2.2)) (Ev.bind r1 ?_) (Ev.now _)
  simp only [if_true]
  refine Ev.bind r2 ?_
  refine exactQ (n := n * e - m * d) (d := d * e) ⟨by omega, by omega⟩ ⟨by omega, by omega⟩ hde ?_ (fun K => ?_)
  · exact (Rat.divInt_sub_divInt _ _ hd0 he0).symm
  · simp only [rat_exact_of_rat_Sub_1_rat_both.j0, rat_Sub_1.f, rat_both.f, Bool.not_true, Bool.false_eq_true, if_false, Option.bind_some]
    rw [wrap64_id (x := d * e) ⟨by omega, by omega⟩]
    rw [wrap64_id (x := n * e) ⟨by omega, by omega⟩, wrap64_id (x := m * d) ⟨by omega, by omega⟩, wrap64_id (x := n * e - m * d) ⟨by omega, by omega⟩]
theorem Div_tells {n d m e : Int} (h : Rt n d) (k : Rt m e) : Ev (fun K => rat_Div.f K n d m e) (newQ (n * e) (d * m)) := by
  have r1 := right_tells h.i64n h.i64d
  have r2 := right_tells k.i64n k.i64d
  rw [h.right] at r1
  rw [k.right] at r2
  have h1 := h.n1; have h2 := h.n2; have h3 := h.d1; have h4 := h.d2
  have k1 := k.n1; have k2 := k.n2; have k3 := k.d1; have k4 := k.d2
  have p1 := mulM (x := n) (y := e) ⟨by omega, by omega⟩ ⟨by omega, by omega⟩
  have p2 := mulM (x := d) (y := m) ⟨by omega, by omega⟩ ⟨by omega, by omega⟩
  refine Ev.bind (g := fun K => rat_exact_of_rat_Div_1_rat_Div_2.f K n d m e) (a := newQ (n * e) (d * m)) (f := fun _ b => some (b.1, b.2.1, b.2.2)) (Ev.bind r1 ?_) (Ev.now _)
  simp only [if_true]
  refine Ev.bind r2 ?_
  refine Ev.step (f := fun K => (rat_New.f K (n * e) (d * m)).bind fun t => some (t.1, t.2.1, t.2.2)) (fun K => ?_) (Ev.bind (new_tells ⟨by omega, by omega⟩ ⟨by omega, by omega⟩) (Ev.now _))
  simp only [rat_exact_of_rat_Div_1_rat_Div_2.j0, rat_Div_1.f, rat_Div_2.f, Bool.not_true, Bool.false_eq_true, if_false, Option.bind_some]
  rw [wrap64_id (x := n * e) ⟨by omega, by omega⟩, wrap64_id (x := d * m) ⟨by omega, by omega⟩]
theorem div_divInt (n d m e : Int) : Rat.divInt (n * e) (d * m) = VQ n d / VQ m e := by
  unfold VQ
  rw [Rat.div_def, Rat.inv_divInt, Rat.divInt_mul_divInt]
/-- The i-th sample. -/
def at_ (l : List S30) (j : Nat) : S30 := l.getD j z30
theorem rd_at (l : List S30) (j : Nat) : rd_T30 l (j : Int) = at_ l j := rfl
/-- Samples that are right: times in the row, numbers right, each later than the one ahead. -/
def GoodL (l : List S30) : Prop := ∀ j : Nat, j < l.length → 0 ≤ (at_ l j).f0 ∧ (at_ l j).f0 ≤ 4294967295 ∧ Rt (at_ l j).f1.f0 (at_ l j).f1.f1 ∧ (0 < j → (at_ l (j - 1)).f0 < (at_ l j).f0)
theorem wrap_succ {j n : Nat} (h : j < n) (hn : n < 4611686014132420609) : wrap64 ((j : Int) + 1) = ((j + 1 : Nat) : Int) := by
  unfold wrap64; omega
theorem wrap_pred {j n : Nat} (h : j < n) (hn : n < 4611686014132420609) (h0 : 0 < j) : wrap64 ((j : Int) - 1) = ((j - 1 : Nat) : Int) := by
  unfold wrap64; omega
theorem down_right_at (l : List S30) (hl : GoodL l) (hn : l.length < 4611686014132420609) : ∀ n j : Nat, l.length - j = n → Ev (fun k => down_Right.l0 k l l (l.length : Int) (j : Int)) true := by
  intro n
  induction n with
  | zero =>
    intro j hj
    refine Ev.step (f := fun k => some true) (fun k => ?_) (Ev.now _)
    simp only [down_Right.l0]
    rw [if_neg (by omega)]
  | succ n ih =>
    intro j hj
    have hlt : j < l.length := by omega
    obtain ⟨g0, g1, g2, g3⟩ := hl j hlt
    have hr := right_tells g2.i64n g2.i64d
    rw [g2.right] at hr
    refine Ev.step (f := fun k => (rat_Right.f k (at_ l j).f1.f0 (at_ l j).f1.f1).bind fun t113 => (if t113 = true then (if (j : Int) > 0 then (if 0 ≤ (wrap64 ((j : Int) - 1)) then (if (wrap64 ((j : Int) - 1)) < (l.length : Int) then (if ((rd_T30 l (wrap64 ((j : Int) - 1))).f0) ≥ (at_ l j).f0 then (some false) else (down_Right.l0 k l l (l.length : Int) (wrap64 ((j : Int) + 1)))) else (none)) else (none)) else (down_Right.l0 k l l (l.length : Int) (wrap64 ((j : Int) + 1)))) else (some false))) (fun k => ?_) ?_
    · simp only [down_Right.l0]
      rw [if_pos (by omega), if_pos (by omega), if_pos (by omega), rd_at, if_neg (by omega), if_neg (by omega)]
    · refine Ev.bind hr ?_
      simp only [if_true, wrap_succ hlt hn]
      by_cases h0 : 0 < j
      · have := g3 h0
        simp only [wrap_pred hlt hn h0, rd_at]
        simp only [if_pos (show (j : Int) > 0 by omega), if_pos (show 0 ≤ ((j - 1 : Nat) : Int) by omega), if_pos (show ((j - 1 : Nat) : Int) < (l.length : Int) by omega), if_neg (show ¬ (at_ l (j - 1)).f0 ≥ (at_ l j).f0 by omega)]
        exact ih (j + 1) (by omega)
      · simp only [if_neg (show ¬ (j : Int) > 0 by omega)]
        exact ih (j + 1) (by omega)
theorem down_right_tells (l : List S30) (hl : GoodL l) (hn : l.length < 4611686014132420609) : Ev (fun k => down_Right.f k l) true := down_right_at l hl hn _ 0 rfl
theorem rt_one {n : Int} (h1 : -2147483647 ≤ n) (h2 : n ≤ 2147483647) : Rt n 1 := by
  obtain ⟨e1, e2, e3⟩ := new_parts n 1 (by decide)
  simp only [Int.natAbs_one, Nat.gcd_one_right, Nat.div_one] at e1 e2 e3
  refine ⟨h1, h2, by decide, by decide, ?_, by rw [e1]; rfl⟩
  by_cases hn : n < 0
  · simp [hn] at e3; omega
  · simp [hn] at e3; omega
theorem of_tells {n : Int} (h1 : -2147483647 ≤ n) (h2 : n ≤ 2147483647) : Ev (fun k => rat_Of.f k n) (n, 1, 0) := by
  have h := new_tells (n := n) (d := 1) ⟨by omega, by omega⟩ ⟨by decide, by decide⟩
  have r := rt_one h1 h2
  have e : newQ n 1 = (n, 1, 0) := by
    unfold newQ Pure_ofQ
    have := r.num; have := r.den
    rw [if_neg (by decide), if_neg (by omega), r.num, r.den]
  rw [e] at h
  exact Ev.bind h (Ev.now _)
theorem vq_one (n : Int) : VQ n 1 = (n : Rat) := by
  have h := Rat.num_divInt_den (n : Rat)
  rw [Rat.num_intCast, Rat.den_intCast] at h
  exact h
/-- A line's samples: each value is c + k * time. -/
structure Line (k c : Int) (l : List S30) : Prop where
  good : GoodL l
  val : ∀ j : Nat, j < l.length → (at_ l j).f1.f0 = c + k * (at_ l j).f0 ∧ (at_ l j).f1.f1 = 1
  top : ∀ j : Nat, j < l.length → (at_ l j).f0 ≤ 50 * j
theorem change_tells {x y : S30} {k c : Int} (hk : -50 ≤ k ∧ k ≤ 50) (hc : -1000 ≤ c ∧ c ≤ 1000) (vx : x.f1.f0 = c + k * x.f0 ∧ x.f1.f1 = 1) (vy : y.f1.f0 = c + k * y.f0 ∧ y.f1.f1 = 1) (h0 : 0 ≤ x.f0) (h1 : x.f0 < y.f0) (h2 : y.f0 ≤ 1000) (m : Int) :
    Ev (fun K => rate_change.f K x.f0 x.f1.f0 x.f1.f1 y.f0 y.f1.f0 y.f1.f1 false m) (k * (y.f0 - x.f0), 1, 0) := by
  have b1 : ∀ t : Int, 0 ≤ t → t ≤ 1000 → -50000 ≤ k * t ∧ k * t ≤ 50000 := by
    intro t t0 t1
    have := Nat.mul_le_mul (show k.natAbs ≤ 50 by omega) (show t.natAbs ≤ 1000 by omega)
    rw [← Int.natAbs_mul] at this
    omega
  have bx := b1 x.f0 h0 (by omega)
  have by_ := b1 y.f0 (by omega) h2
  have bd := b1 (y.f0 - x.f0) (by omega) (by omega)
  have rx : Rt x.f1.f0 x.f1.f1 := by rw [vx.1, vx.2]; exact rt_one (by omega) (by omega)
  have ry : Rt y.f1.f0 y.f1.f1 := by rw [vy.1, vy.2]; exact rt_one (by omega) (by omega)
  have rd : Rt (k * (y.f0 - x.f0)) 1 := rt_one (by omega) (by omega)
  have h := Sub_tells ry rx
  have e : VQ y.f1.f0 y.f1.f1 - VQ x.f1.f0 x.f1.f1 = VQ (k * (y.f0 - x.f0)) 1 := by
    rw [vx.1, vx.2, vy.1, vy.2, vq_one, vq_one, vq_one, ← Rat.intCast_sub]
    congr 1
    rw [Int.mul_sub]; omega
  have e2 : Pure_ofQ (VQ (k * (y.f0 - x.f0)) 1) = (k * (y.f0 - x.f0), 1, 0) := by
    unfold Pure_ofQ VQ
    have := rd.num; have := rd.den
    rw [if_neg (by omega), rd.num, rd.den]
  rw [e, e2] at h
  refine Ev.step (f := fun K => (rat_Sub.f K y.f1.f0 y.f1.f1 x.f1.f0 x.f1.f1).bind fun t => some (t.1, t.2.1, t.2.2)) (fun K => ?_) (Ev.bind h (Ev.now _))
  simp only [rate_change.f, rate_change.j0, Bool.false_eq_true, if_false, if_true]

/-- A sample of the answer. -/
def stepS (k : Int) (x : S30) : S30 := ⟨x.f0, ⟨k, 1⟩⟩
theorem take_step {l : List S30} {k : Int} {i : Nat} (h1 : 1 ≤ i) (h2 : i < l.length) : ((l.take i).drop 1).map (stepS k) ++ [stepS k (at_ l i)] = ((l.take (i + 1)).drop 1).map (stepS k) := by
  rw [List.take_succ_eq_append_getElem h2, List.drop_append_of_le_length (by rw [List.length_take]; omega), List.map_append]
  congr 1
  unfold at_
  rw [List.getD_eq_getElem?_getD, List.getElem?_eq_getElem h2]
  rfl
theorem do_at {k c m : Int} {l : List S30} (hk : -50 ≤ k ∧ k ≤ 50) (hc : -1000 ≤ c ∧ c ≤ 1000) (h : Line k c l) (hl : l.length ≤ 20) : ∀ n i : Nat, 1 ≤ i → l.length - i = n →
    Ev (fun K => rate_Do.l0 K l false m (((l.take i).drop 1).map (stepS k)) (i : Int)) ((l.drop 1).map (stepS k), 0) := by
  intro n
  induction n with
  | zero =>
    intro i hi hn
    rw [List.take_of_length_le (by omega)]
    refine Ev.step (f := fun K => some ((l.drop 1).map (stepS k), 0)) (fun K => ?_) (Ev.now _)
    simp only [rate_Do.l0]
    rw [if_neg (by omega)]
  | succ n ih =>
    intro i hi hn
    have hlt : i < l.length := by omega
    obtain ⟨g0, g1, g2, g3⟩ := h.good i hlt
    obtain ⟨p0, p1, p2, p3⟩ := h.good (i - 1) (by omega)
    have t := h.top i hlt
    have g3 := g3 (by omega)
    have s1 := change_tells hk hc (h.val (i - 1) (by omega)) (h.val i hlt) p0 g3 (by omega) m
    have hd : wrap64 ((at_ l i).f0 - (at_ l (i - 1)).f0) = (at_ l i).f0 - (at_ l (i - 1)).f0 := wrap64_id ⟨by omega, by omega⟩
    have s2 := of_tells (n := (at_ l i).f0 - (at_ l (i - 1)).f0) (by omega) (by omega)
    have bk : -50000 ≤ k * ((at_ l i).f0 - (at_ l (i - 1)).f0) ∧ k * ((at_ l i).f0 - (at_ l (i - 1)).f0) ≤ 50000 := by
      have := Nat.mul_le_mul (show k.natAbs ≤ 50 by omega) (show ((at_ l i).f0 - (at_ l (i - 1)).f0).natAbs ≤ 1000 by omega)
      rw [← Int.natAbs_mul] at this
      omega
    have r1 : Rt (k * ((at_ l i).f0 - (at_ l (i - 1)).f0)) 1 := rt_one (by omega) (by omega)
    have r2 : Rt ((at_ l i).f0 - (at_ l (i - 1)).f0) 1 := rt_one (by omega) (by omega)
    have s3 := Div_tells r1 r2
    have rk : Rt k 1 := rt_one (by omega) (by omega)
    have e3 : newQ (k * ((at_ l i).f0 - (at_ l (i - 1)).f0) * 1) (1 * ((at_ l i).f0 - (at_ l (i - 1)).f0)) = (k, 1, 0) := by
      unfold newQ
      rw [Int.mul_one, Int.one_mul, if_neg (by omega)]
      have e : Rat.divInt (k * ((at_ l i).f0 - (at_ l (i - 1)).f0)) ((at_ l i).f0 - (at_ l (i - 1)).f0) = Rat.divInt k 1 := by
        have := Rat.divInt_mul_right (n := k) (d := 1) (a := (at_ l i).f0 - (at_ l (i - 1)).f0) (by omega)
        rw [Int.one_mul] at this
        exact this
      rw [e]
      unfold Pure_ofQ
      have := rk.num; have := rk.den
      rw [if_neg (by omega), rk.num, rk.den]
    rw [e3] at s3
    refine Ev.step (f := fun K => (rate_change.f K (at_ l (i - 1)).f0 (at_ l (i - 1)).f1.f0 (at_ l (i - 1)).f1.f1 (at_ l i).f0 (at_ l i).f1.f0 (at_ l i).f1.f1 false m).bind fun bt202 => (if bt202.2.2 = 0 then ((rat_Of.f K ((at_ l i).f0 - (at_ l (i - 1)).f0)).bind fun bt208 => (if bt208.2.2 = 0 then ((rat_Div.f K bt202.1 bt202.2.1 bt208.1 bt208.2.1).bind fun bt212 => (if bt212.2.2 = 0 then (rate_Do.l0 K l false m ((((l.take i).drop 1).map (stepS k)) ++ [(⟨(at_ l i).f0, (⟨bt212.1, bt212.2.1⟩ : S28)⟩ : S30)]) ((i + 1 : Nat) : Int)) else (some (([] : List (S30)), bt212.2.2)))) else (some (([] : List (S30)), bt208.2.2)))) else (some (([] : List (S30)), bt202.2.2)))) (fun K => ?_) ?_
    · simp only [rate_Do.l0]
      rw [if_pos (by omega), wrap_pred hlt (by omega) hi, wrap_succ hlt (by omega), rd_at, rd_at, hd, if_pos (by omega), if_pos (by omega), if_pos (by omega)]
      have hz : ((((l.take i).drop 1).map (stepS k)).length < 5864062014805) := by simp only [List.length_map, List.length_drop, List.length_take]; omega
      simp only [if_pos hz]
    · refine Ev.bind s1 ?_
      simp only [if_true]
      refine Ev.bind s2 ?_
      simp only [if_true]
      refine Ev.bind s3 ?_
      simp only [if_true]
      have := ih (i + 1) (by omega) (by omega)
      rw [← take_step hi hlt] at this
      exact this
theorem do_tells {k c m : Int} {l : List S30} (hk : -50 ≤ k ∧ k ≤ 50) (hc : -1000 ≤ c ∧ c ≤ 1000) (h : Line k c l) (hl : l.length ≤ 20) : Ev (fun K => rate_Do.f K l false m) ((l.drop 1).map (stepS k), 0) := by
  have d := do_at (m := m) hk hc h hl _ 1 (Nat.le_refl 1) rfl
  have e0 : ((l.take 1).drop 1).map (stepS k) = [] := by cases l <;> rfl
  rw [e0] at d
  refine Ev.bind (down_right_tells l h.good (by omega)) ?_
  simp only [if_true, Bool.false_eq_true, if_false]
  refine Ev.step (f := fun K => rate_Do.l0 K l false m [] 1) (fun K => ?_) d
  simp only [rate_Do.j0, Bool.false_eq_true, if_false]
theorem known24 : Ev (fun k => marigraphlaw24_known.f k) true := Ev.of (k := 40) marigraphlaw24_known.mono (by decide +kernel)
theorem right1 : Ev (fun k => marigraphref1_Right.f k 0 1) true := Ev.of (k := 10) (fun k => marigraphref1_Right.mono 0 1 k) (by decide +kernel)
theorem l1_at {k : Int} {l : List S30} (hl : l.length ≤ 20) : ∀ n i : Nat, l.length - 1 - i = n → i ≤ l.length - 1 →
    Ev (fun K => marigraphlaw24_RateSums.l1 K k l ((l.drop 1).map (stepS k)) (i : Int)) true := by
  intro n
  have hlen : ((l.drop 1).map (stepS k)).length = l.length - 1 := by rw [List.length_map, List.length_drop]
  induction n with
  | zero =>
    intro i hn hi
    refine Ev.step (f := fun K => (marigraphref1_Right.f K 0 1).bind fun t252 => (if t252 = true then ((marigraphlaw24_known.f K).bind fun t253 => (some t253)) else (some false))) (fun K => ?_) ?_
    · simp only [marigraphlaw24_RateSums.l1, hlen]
      rw [if_neg (by omega)]
    · refine Ev.bind right1 ?_
      simp only [if_true]
      exact Ev.bind known24 (Ev.now _)
  | succ n ih =>
    intro i hn hi
    have hat : at_ ((l.drop 1).map (stepS k)) i = stepS k (at_ l (i + 1)) := by
      unfold at_
      rw [List.getD_eq_getElem?_getD, List.getD_eq_getElem?_getD, List.getElem?_map, List.getElem?_drop, Nat.add_comm 1 i, List.getElem?_eq_getElem (by omega)]
      rfl
    refine Ev.step (f := fun K => marigraphlaw24_RateSums.l1 K k l ((l.drop 1).map (stepS k)) ((i + 1 : Nat) : Int)) (fun K => ?_) (ih (i + 1) (by omega) (by omega))
    simp only [marigraphlaw24_RateSums.l1, hlen]
    rw [if_pos (by omega), wrap_succ (n := 20) (by omega) (by omega), rd_at, rd_at, hat, if_pos (by omega), if_pos (by omega), if_pos (by omega)]
    simp only [stepS, if_true, beq_self_eq_true, Bool.not_true, Bool.or_self, Bool.false_eq_true, if_false]
theorem j1_tells {k c : Int} {l : List S30} (hk : -50 ≤ k ∧ k ≤ 50) (hc : -1000 ≤ c ∧ c ≤ 1000) (h : Line k c l) (hl : l.length ≤ 20) : Ev (fun K => marigraphlaw24_RateSums.j1 K k l) true := by
  have hlen : ((l.drop 1).map (stepS k)).length = l.length - 1 := by rw [List.length_map, List.length_drop]
  refine Ev.step (f := fun K => (rate_Do.f K l false 0).bind fun bt245 => (if bt245.2 = 0 then (marigraphlaw24_RateSums.j2 K k l bt245.1 ((bt245.1.length : Int) != (mx 0 (wrap64 ((l.length : Int) - 1))))) else (marigraphlaw24_RateSums.j2 K k l bt245.1 true))) (fun K => ?_) (Ev.bind (do_tells hk hc h hl) ?_)
  · simp only [marigraphlaw24_RateSums.j1]
  · have e : ((((l.drop 1).map (stepS k)).length : Int) != (mx 0 (wrap64 ((l.length : Int) - 1)))) = false := by
      rw [hlen]
      have : mx 0 (wrap64 ((l.length : Int) - 1)) = ((l.length - 1 : Nat) : Int) := by
        unfold mx wrap64
        split <;> omega
      rw [this]
      simp
    simp only [if_true, e]
    refine Ev.step (f := fun K => marigraphlaw24_RateSums.l1 K k l ((l.drop 1).map (stepS k)) 0) (fun K => ?_) (l1_at hl _ 0 rfl (by omega))
    simp only [marigraphlaw24_RateSums.j2, Bool.false_eq_true, if_false]
theorem at_append_left {l : List S30} {x : S30} {j : Nat} (h : j < l.length) : at_ (l ++ [x]) j = at_ l j := by
  unfold at_; rw [List.getD_eq_getElem?_getD, List.getD_eq_getElem?_getD, List.getElem?_append_left h]
theorem at_append_right {l : List S30} {x : S30} : at_ (l ++ [x]) l.length = x := by
  unfold at_; rw [List.getD_eq_getElem?_getD, List.getElem?_append_right (Nat.le_refl _), Nat.sub_self]; rfl
theorem line_step {k c t : Int} {l : List S30} (hk : -50 ≤ k ∧ k ≤ 50) (hc : -1000 ≤ c ∧ c ≤ 1000) (h : Line k c l) (hl : l.length < 20) (t0 : 0 ≤ t) (t1 : t ≤ 50 * l.length) (t2 : ∀ j : Nat, j < l.length → (at_ l j).f0 < t) : Line k c (l ++ [(⟨t, (⟨c + k * t, 1⟩ : S28)⟩ : S30)]) := by
  have hlen : (l ++ [(⟨t, (⟨c + k * t, 1⟩ : S28)⟩ : S30)]).length = l.length + 1 := by rw [List.length_append]; rfl
  have bk : -50000 ≤ k * t ∧ k * t ≤ 50000 := by
    have := Nat.mul_le_mul (show k.natAbs ≤ 50 by omega) (show t.natAbs ≤ 1000 by omega)
    rw [← Int.natAbs_mul] at this
    omega
  refine ⟨fun j hj => ?_, fun j hj => ?_, fun j hj => ?_⟩
  · by_cases hlt : j < l.length
    · rw [at_append_left hlt]
      obtain ⟨g0, g1, g2, g3⟩ := h.good j hlt
      exact ⟨g0, g1, g2, fun h0 => by rw [at_append_left (by omega)]; exact g3 h0⟩
    · obtain rfl : j = l.length := by omega
      rw [at_append_right]
      exact ⟨t0, by show t ≤ 4294967295; omega, rt_one (n := c + k * t) (by omega) (by omega), fun h0 => by rw [at_append_left (by omega)]; exact t2 _ (by omega)⟩
  · by_cases hlt : j < l.length
    · rw [at_append_left hlt]; exact h.val j hlt
    · obtain rfl : j = l.length := by omega
      rw [at_append_right]; exact ⟨rfl, rfl⟩
  · by_cases hlt : j < l.length
    · rw [at_append_left hlt]; exact h.top j hlt
    · obtain rfl : j = l.length := by omega
      rw [at_append_right]; exact t1
theorem l0_at {k c : Int} {xs : List Int} (hk : -50 ≤ k ∧ k ≤ 50) (hc : -1000 ≤ c ∧ c ≤ 1000) (hx : ∀ x ∈ xs, I64 x) : ∀ (n i : Nat) (l : List S30) (t : Int), 20 - i = n → i ≤ 20 → l.length = i → i ≤ xs.length → Line k c l → 0 ≤ t → t ≤ 50 * i → (∀ j : Nat, j < l.length → (at_ l j).f0 < t) →
    Ev (fun K => marigraphlaw24_RateSums.l0 K xs k c l t (i : Int)) true := by
  intro n
  induction n with
  | zero =>
    intro i l t hn hi hl hxs h t0 t1 t2
    refine Ev.step (f := fun K => marigraphlaw24_RateSums.j1 K k l) (fun K => ?_) (j1_tells hk hc h (by omega))
    simp only [marigraphlaw24_RateSums.l0]
    by_cases h1 : (i : Int) < (xs.length : Int)
    · rw [if_pos h1, if_neg (by omega)]
    · rw [if_neg h1]
  | succ n ih =>
    intro i l t hn hi hl hxs h t0 t1 t2
    by_cases h1 : (i : Int) < (xs.length : Int)
    · have hm : rd xs (i : Int) ∈ xs := by
        unfold rd
        rw [List.getD_eq_getElem?_getD, Int.toNat_natCast, List.getElem?_eq_getElem (by omega)]
        exact List.getElem_mem _
      obtain ⟨r, hr, r1, r2, _⟩ := within_ev (lo := 1) (hi := 50) (by omega) (by omega) (by omega) (by omega) (hx _ hm)
      have bk : -50000 ≤ k * t ∧ k * t ≤ 50000 := by
        have := Nat.mul_le_mul (show k.natAbs ≤ 50 by omega) (show t.natAbs ≤ 1000 by omega)
        rw [← Int.natAbs_mul] at this
        omega
      have e1 : wrap64 (c + wrap64 (k * t)) = c + k * t := by rw [wrap64_id (x := k * t) ⟨by omega, by omega⟩, wrap64_id ⟨by omega, by omega⟩]
      have e2 : wrap64 (t + r) = t + r := wrap64_id ⟨by omega, by omega⟩
      refine Ev.step (f := fun K => (marigraphbook_Within.f K (rd xs (i : Int)) 1 50).bind fun t244 => (marigraphlaw24_RateSums.l0 K xs k c (l ++ [(⟨t, (⟨c + k * t, 1⟩ : S28)⟩ : S30)]) (wrap64 (t + t244)) ((i + 1 : Nat) : Int))) (fun K => ?_) ?_
      · simp only [marigraphlaw24_RateSums.l0]
        rw [if_pos h1, if_pos (by omega), if_pos (by omega), if_pos (by omega), wrap_succ (n := 20) (by omega) (by omega), e1]
      · refine Ev.bind hr ?_
        simp only [e2]
        have hlen : (l ++ [(⟨t, (⟨c + k * t, 1⟩ : S28)⟩ : S30)]).length = l.length + 1 := by rw [List.length_append]; rfl
        refine ih (i + 1) _ (t + r) (by omega) (by omega) (by omega) (by omega) (line_step hk hc h (by omega) t0 (by omega) t2) (by omega) (by omega) (fun j hj => ?_)
        by_cases hlt : j < l.length
        · rw [at_append_left hlt]; have := t2 j hlt; omega
        · obtain rfl : j = l.length := by omega
          rw [at_append_right]; show t < t + r; omega
    · refine Ev.step (f := fun K => marigraphlaw24_RateSums.j1 K k l) (fun K => ?_) (j1_tells hk hc h (by omega))
      simp only [marigraphlaw24_RateSums.l0]
      rw [if_neg h1]
theorem RateSums : marigraphlaw24_RateSums.Pure := by
  intro xs up start hl0 hl1 hx hu hs
  obtain ⟨k, hk, k1, k2, _⟩ := within_ev (lo := -50) (hi := 50) (by omega) (by omega) (by omega) (by omega) (i64_of hu)
  obtain ⟨c, hc, c1, c2, _⟩ := within_ev (lo := -1000) (hi := 1000) (by omega) (by omega) (by omega) (by omega) (i64_of hs)
  refine Ev.rounds (Ev.bind hk (Ev.bind hc ?_))
  exact l0_at ⟨k1, k2⟩ ⟨c1, c2⟩ (fun x hm => i64_of (hx x hm)) 20 0 [] 0 rfl (by omega) rfl (Nat.zero_le _) ⟨fun j hj => absurd hj (Nat.not_lt_zero _), fun j hj => absurd hj (Nat.not_lt_zero _), fun j hj => absurd hj (Nat.not_lt_zero _)⟩ (by omega) (by omega) (fun j hj => absurd hj (Nat.not_lt_zero _))

end Go.Proofs.Ytdnialldicdnoaa.Pure

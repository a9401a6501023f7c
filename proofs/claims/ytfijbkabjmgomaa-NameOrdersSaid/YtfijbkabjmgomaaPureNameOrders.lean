/- NameOrders: P12.1, without the document s own answer: tags are the same in whatever order they come; their keys rise. -/
import Derived.Test.YtfijbkabjmgomaaPNameOrdersx4
import Derived.Test.YtfijbkabjmgomaaPNameOrdersx6
import Derived.Test.YtfijbkabjmgomaaPNameOrdersx7
namespace Go.Proofs.Ytfijbkabjmgomaa.Pure
open Go.RowKit Go.Proofs.Ytfijbkabjmgomaa.PNameOrders Go.Proofs.YtfijbkabjmgomaaW.PrintWords Go.Proofs.YtfijbkabjmgomaaW.PrintLast
set_option linter.unusedVariables false
set_option linter.unusedSimpArgs false

theorem evNow {α : Type} {f : Nat → Option α} {r : α} (hf : ∀ k, f k = some r) : Ev f r := ⟨0, fun k _ => hf k⟩
theorem i64_of {a : Int} (h : (Lit.int .i64 a).wf = true) : -9223372036854775808 ≤ a ∧ a ≤ 9223372036854775807 := by
  have h1 : IntKind.i64.min = -9223372036854775808 := rfl
  have h2 : IntKind.i64.max = 9223372036854775807 := rfl
  simp only [Lit.wf, Bool.and_eq_true, decide_eq_true_eq] at h
  omega
/-! ### Within -/
theorem within_w {n lo hi : Int} (h1 : -2199023255552 ≤ lo) (h2 : lo ≤ hi) (h3 : hi ≤ 2199023255552) (hn : -9223372036854775808 ≤ n ∧ n ≤ 9223372036854775807) : ∃ r, Ev (fun k => marigraphbook_Within.f k n lo hi) r ∧ lo ≤ r ∧ r ≤ hi ∧ (lo ≤ n → n ≤ hi → r = n) := by
  have e1 : wrap64 (wrap64 (hi - lo) + 1) = hi - lo + 1 := by unfold wrap64; omega
  have hj : ∀ b : Bool, (b = true ↔ (lo ≤ n ∧ n ≤ hi)) → ∃ r, (∀ k, marigraphbook_Within.j0 (k + 1) n lo hi b = some r) ∧ lo ≤ r ∧ r ≤ hi ∧ (lo ≤ n → n ≤ hi → r = n) := by
    intro b hb
    simp only [marigraphbook_Within.j0, e1]
    cases b with
    | true =>
      have := hb.1 rfl
      exact ⟨n, fun _ => by rw [if_pos rfl], this.1, this.2, fun _ _ => rfl⟩
    | false =>
      have hno : ¬ (lo ≤ n ∧ n ≤ hi) := fun h => by have := hb.2 h; cases this
      simp only [Bool.false_eq_true, if_false]
      rw [if_neg (by omega)]
      have hm : (0 : Int) < hi - lo + 1 := by omega
      have t1 : Int.tmod n (hi - lo + 1) < hi - lo + 1 := Int.tmod_lt_of_pos _ hm
      have t2 : -(hi - lo + 1) < Int.tmod n (hi - lo + 1) := by
        have := Int.tmod_lt_of_pos (-n) hm
        rw [Int.neg_tmod] at this
        omega
      generalize Int.tmod n (hi - lo + 1) = t at *
      by_cases ht : t < 0
      · rw [if_pos ht]
        have e : wrap64 (lo + wrap64 (wrap64 (wrap64 (t + hi) - lo) + 1)) = t + hi + 1 := by unfold wrap64; omega
        rw [e]
        exact ⟨_, fun _ => rfl, by omega, by omega, fun a b => absurd ⟨a, b⟩ hno⟩
      · rw [if_neg ht]
        have e : wrap64 (lo + t) = lo + t := by unfold wrap64; omega
        rw [e]
        exact ⟨_, fun _ => rfl, by omega, by omega, fun a b => absurd ⟨a, b⟩ hno⟩
  have fin : ∀ b : Bool, (∀ k, marigraphbook_Within.f k n lo hi = marigraphbook_Within.j0 k n lo hi b) → (b = true ↔ (lo ≤ n ∧ n ≤ hi)) → ∃ r, Ev (fun k => marigraphbook_Within.f k n lo hi) r ∧ lo ≤ r ∧ r ≤ hi ∧ (lo ≤ n → n ≤ hi → r = n) := by
    intro b hf hb
    obtain ⟨r, h, hr⟩ := hj b hb
    refine ⟨r, ⟨1, fun k hk => ?_⟩, hr⟩
    obtain ⟨k, rfl⟩ : ∃ m, k = m + 1 := ⟨k - 1, by omega⟩
    show marigraphbook_Within.f (k + 1) n lo hi = some r
    rw [hf]
    exact h k
  by_cases hlo : n ≥ lo
  · refine fin (decide (n ≤ hi)) (fun k => by unfold marigraphbook_Within.f; rw [if_pos hlo]) ?_
    rw [decide_eq_true_iff]
    exact ⟨fun h => ⟨hlo, h⟩, fun h => h.2⟩
  · refine fin false (fun k => by unfold marigraphbook_Within.f; rw [if_neg hlo]) ?_
    constructor
    · intro h; cases h
    · intro h; omega
/-! ### names, filters: what the printed functions answer -/
theorem evDown {α : Type} {g : Nat → Option α} {r : α} (h : Ev (fun k => g (k + 1)) r) : Ev g r := let ⟨K, hK⟩ := h; ⟨K + 1, fun k hk => by
  obtain ⟨m, rfl⟩ : ∃ m, k = m + 1 := ⟨k - 1, by omega⟩
  exact hK m (by omega)⟩
theorem w1 {j : Nat} (h : j < 4611686018427387904) : wrap64 ((j : Int) + 1) = ((j + 1 : Nat) : Int) := by unfold wrap64; omega
def signI (a : Int) : Bool := (name_sign.f a).getD false
theorem sign_tells (a : Int) : name_sign.f a = some (signI a) := by
  unfold signI
  have h : (name_sign.f a).isSome = true := by
    unfold name_sign.f
    repeat' split
    all_goals rfl
  obtain ⟨r, hr⟩ := Option.isSome_iff_exists.mp h
  rw [hr]
  rfl
def nmFrom (s : ByteArray) : Nat → Nat → Bool
  | 0, _ => decide (0 < s.size ∧ s.size ≤ 32)
  | n + 1, j => signI (bt s (j : Int)) && nmFrom s n (j + 1)
def nameB (s : ByteArray) : Bool := nmFrom s s.size 0
theorem name_loop (s : ByteArray) (hs : s.size < 4611686018427387904) : ∀ n j : Nat, s.size - j = n → j ≤ s.size → Ev (fun k => name_Right.l0 k s (s.size : Int) (j : Int)) (nmFrom s n j) := by
  intro n
  induction n with
  | zero =>
    intro j hj hle
    refine evDown ?_
    simp only [name_Right.l0, if_neg (show ¬ (j : Int) < (s.size : Int) by omega)]
    unfold nmFrom
    by_cases h0 : (s.size : Int) > 0
    · simp only [if_pos h0]
      rw [show decide (0 < s.size ∧ s.size ≤ 32) = decide ((s.size : Int) ≤ 32) from by rw [decide_eq_decide]; omega]
      exact Ev.now _
    · simp only [if_neg h0]
      rw [decide_eq_false (by omega)]
      exact Ev.now _
  | succ n ih =>
    intro j hj hle
    refine evDown ?_
    simp only [name_Right.l0, if_pos (show (j : Int) < (s.size : Int) by omega), if_pos (show 0 ≤ (j : Int) by omega)]
    refine Ev.bind (evNow fun _ => sign_tells _) ?_
    unfold nmFrom
    by_cases h : signI (bt s (j : Int)) = true
    · simp only [h, if_true, Bool.true_and, w1 (show j < 4611686018427387904 by omega)]
      exact ih (j + 1) (by omega) (by omega)
    · rw [Bool.not_eq_true] at h
      simp only [h, Bool.false_and]
      exact Ev.now _
theorem name_tells {s : ByteArray} (hs : s.size < 4611686018427387904) : Ev (fun k => name_Right.f k s) (nameB s) := name_loop s hs s.size 0 rfl (Nat.zero_le _)
/-! ### marigraphkeep.Of: a point of a few names -/
theorem pick_tells (l : List ByteArray) (n : Int) (h0 : 0 < l.length) (h1 : l.length < 1000) (hn : -9223372036854775808 ≤ n ∧ n ≤ 9223372036854775807) : ∃ s ∈ l, Ev (fun k => marigraphkeep_pick.f k l n) s := by
  obtain ⟨r, hr, h2, h3, _⟩ := within_w (n := n) (lo := 0) (hi := 1048576) (by omega) (by omega) (by omega) hn
  have t1 : Int.tmod r (l.length : Int) < (l.length : Int) := Int.tmod_lt_of_pos _ (by omega)
  have t0 : 0 ≤ Int.tmod r (l.length : Int) := Int.tmod_nonneg _ h2
  refine ⟨rdOf ByteArray.empty l (Int.tmod r (l.length : Int)), ?_, ?_⟩
  · generalize Int.tmod r (l.length : Int) = t at t0 t1
    obtain ⟨j, rfl⟩ := Int.eq_ofNat_of_zero_le t0
    have hj : j < l.length := by omega
    unfold rdOf
    rw [Int.toNat_natCast, List.getD_eq_getElem?_getD, List.getElem?_eq_getElem hj]
    exact List.getElem_mem hj
  · unfold marigraphkeep_pick.f
    refine Ev.bind hr ?_
    simp only [if_neg (show ¬ (l.length : Int) = 0 by omega), if_pos t0, if_pos t1]
    exact Ev.now _
def ofKeys : List ByteArray := [(⟨#[104, 111, 115, 116]⟩ : ByteArray), (⟨#[100, 99]⟩ : ByteArray), (⟨#[105, 102]⟩ : ByteArray), (⟨#[120]⟩ : ByteArray)]
def ofValues : List ByteArray := [(⟨#[97]⟩ : ByteArray), (⟨#[98]⟩ : ByteArray), (⟨#[119, 101, 98, 49]⟩ : ByteArray), (⟨#[119, 101, 98, 50]⟩ : ByteArray), (⟨#[49]⟩ : ByteArray)]
def ofMetrics : List ByteArray := [(⟨#[99, 112, 117]⟩ : ByteArray), (⟨#[109, 101, 109]⟩ : ByteArray), (⟨#[110, 101, 116, 47, 105, 110]⟩ : ByteArray), (⟨#[97, 46, 98]⟩ : ByteArray)]
/-- One tag, or two of unlike keys; of the few names. -/
def OfTags (l : List S25) : Prop := (∃ a, l = [a] ∧ a.f0 ∈ ofKeys ∧ a.f1 ∈ ofValues) ∨ ∃ a b, l = [a, b] ∧ a.f0 ∈ ofKeys ∧ a.f1 ∈ ofValues ∧ b.f0 ∈ ofKeys ∧ b.f1 ∈ ofValues ∧ a.f0.toList ≠ b.f0.toList
theorem of_tells {p0 p1 p2 p3 p4 p6 p7 : Int} {p5 : Bool} (h0 : -9223372036854775808 ≤ p0 ∧ p0 ≤ 9223372036854775807) (h1 : -9223372036854775808 ≤ p1 ∧ p1 ≤ 9223372036854775807) (h2 : -9223372036854775808 ≤ p2 ∧ p2 ≤ 9223372036854775807) (h3 : -9223372036854775808 ≤ p3 ∧ p3 ≤ 9223372036854775807) (h4 : -9223372036854775808 ≤ p4 ∧ p4 ≤ 9223372036854775807) (h6 : -9223372036854775808 ≤ p6 ∧ p6 ≤ 9223372036854775807) (h7 : -9223372036854775808 ≤ p7 ∧ p7 ≤ 9223372036854775807) :
    ∃ met tags tm v, Ev (fun k => marigraphkeep_Of.f k p0 p1 p2 p3 p4 p5 p6 p7) (met, tags, tm, v) ∧ OfTags tags ∧ met ∈ ofMetrics ∧ 0 ≤ tm ∧ tm ≤ 9000 ∧ -2147483647 ≤ v ∧ v ≤ 2147483647 := by
  obtain ⟨met, hm, em⟩ := pick_tells ofMetrics p0 (by decide) (by decide) h0
  obtain ⟨k1, hk1, ek1⟩ := pick_tells ofKeys p1 (by decide) (by decide) h1
  obtain ⟨v1, hv1, ev1⟩ := pick_tells ofValues p2 (by decide) (by decide) h2
  obtain ⟨k2, hk2, ek2⟩ := pick_tells ofKeys p3 (by decide) (by decide) h3
  obtain ⟨v2, hv2, ev2⟩ := pick_tells ofValues p4 (by decide) (by decide) h4
  obtain ⟨tm, et, t0, t1, _⟩ := within_w (n := p6) (lo := 0) (hi := 9000) (by omega) (by omega) (by omega) h6
  obtain ⟨v, ev, g0, g1, _⟩ := within_w (n := p7) (lo := -2147483647) (hi := 2147483647) (by omega) (by omega) (by omega) h7
  have hj : ∀ b : Bool, (b = true → k1.toList ≠ k2.toList) → ∃ tags, OfTags tags ∧ Ev (fun k => marigraphkeep_Of.j0 k b p0 p1 p2 p3 p4 p5 p6 p7 met [⟨k1, v1⟩] tm v) (met, tags, tm, v) := by
    intro b hb
    cases b with
    | false =>
      refine ⟨[⟨k1, v1⟩], .inl ⟨_, rfl, hk1, hv1⟩, evDown ?_⟩
      simp only [marigraphkeep_Of.j0, Bool.false_eq_true, if_false]
      exact Ev.now _
    | true =>
      refine ⟨[⟨k1, v1⟩] ++ [⟨k2, v2⟩], .inr ⟨_, _, rfl, hk1, hv1, hk2, hv2, hb rfl⟩, evDown ?_⟩
      simp only [marigraphkeep_Of.j0, if_true]
      refine Ev.bind (a := ofKeys) (Ev.now _) (Ev.bind ek2 (Ev.bind (a := ofValues) (Ev.now _) (Ev.bind ev2 ?_)))
      simp only [List.length_singleton, if_pos (show 1 < 4398046511104 by omega)]
      exact Ev.now _
  obtain ⟨tags, ht, e⟩ : ∃ tags, OfTags tags ∧ Ev (fun k => if p5 = true then ((marigraphkeep_Keys.f).bind fun t132 => ((marigraphkeep_pick.f k t132 p1).bind fun t135 => ((marigraphkeep_Keys.f).bind fun t136 => ((marigraphkeep_pick.f k t136 p3).bind fun t139 => (marigraphkeep_Of.j0 k (t135.toList != t139.toList) p0 p1 p2 p3 p4 p5 p6 p7 met [⟨k1, v1⟩] tm v))))) else (marigraphkeep_Of.j0 k false p0 p1 p2 p3 p4 p5 p6 p7 met [⟨k1, v1⟩] tm v)) (met, tags, tm, v) := by
    by_cases h5 : p5 = true
    · obtain ⟨tags, ht, e⟩ := hj (k1.toList != k2.toList) (fun h => by simpa using h)
      refine ⟨tags, ht, ?_⟩
      simp only [if_pos h5]
      exact Ev.bind (a := ofKeys) (Ev.now _) (Ev.bind ek1 (Ev.bind (a := ofKeys) (Ev.now _) (Ev.bind ek2 e)))
    · obtain ⟨tags, ht, e⟩ := hj false (fun h => by cases h)
      refine ⟨tags, ht, ?_⟩
      simp only [if_neg h5]
      exact e
  refine ⟨met, tags, tm, v, ?_, ht, hm, t0, t1, g0, g1⟩
  unfold marigraphkeep_Of.f
  exact Ev.bind (a := ofMetrics) (Ev.now _) (Ev.bind em (Ev.bind (a := ofKeys) (Ev.now _) (Ev.bind ek1 (Ev.bind (a := ofValues) (Ev.now _) (Ev.bind ev1 (Ev.bind (a := [⟨k1, v1⟩]) (Ev.now _) (Ev.bind et (Ev.bind ev e))))))))
/-! ### name.Tags, name.Text over the tags of marigraphkeep.Of: reckoned by the kernel, one by one -/
theorem evMono {α : Type} {g : Nat → Option α} (hm : ∀ k, LeO (g k) (g (k + 1))) {K : Nat} {r : α} (h : g K = some r) : Ev g r := by
  refine ⟨K, fun k hk => ?_⟩
  induction k with
  | zero =>
    obtain rfl : K = 0 := by omega
    exact h
  | succ n ih =>
    rcases Nat.lt_or_ge n K with h1 | h1
    · obtain rfl : K = n + 1 := by omega
      exact h
    · exact hm n r (ih h1)
def raw (l : List S25) : List (List (List UInt8)) := l.map fun x => [x.f0.toList, x.f1.toList]
theorem known12 : Ev (fun k => marigraphlaw12_known.f k) true := evMono (fun k => marigraphlaw12_known.mono k) (K := 60) (by decide +kernel)
theorem rdT_at {l : List S25} {j : Nat} (h : j < l.length) : rd_T25 l (j : Int) = l[j] := by
  unfold rd_T25
  rw [Int.toNat_natCast, List.getD_eq_getElem?_getD, List.getElem?_eq_getElem h]
  rfl
theorem same_loop (a b : List S25) (hl : a.length = b.length) (hs : a.length < 4611686018427387904) : ∀ n j : Nat, a.length - j = n → j ≤ a.length → Ev (fun k => api_Tag_24.l0 k a b (a.length : Int) (j : Int)) (decide (raw (a.drop j) = raw (b.drop j))) := by
  intro n
  induction n with
  | zero =>
    intro j hj hle
    refine evDown ?_
    simp only [api_Tag_24.l0, if_neg (show ¬ (j : Int) < (a.length : Int) by omega)]
    rw [List.drop_of_length_le (show a.length ≤ j by omega), List.drop_of_length_le (show b.length ≤ j by omega), decide_eq_true rfl]
    exact Ev.now _
  | succ n ih =>
    intro j hj hle
    have hlt : j < a.length := by omega
    have hlt2 : j < b.length := by omega
    refine evDown ?_
    simp only [api_Tag_24.l0, if_pos (show (j : Int) < (a.length : Int) by omega), if_pos (show (j : Int) < (b.length : Int) by omega), if_pos (show 0 ≤ (j : Int) by omega), rdT_at hlt, rdT_at hlt2]
    rw [List.drop_eq_getElem_cons hlt, List.drop_eq_getElem_cons hlt2]
    by_cases h : (a[j].f0.toList = b[j].f0.toList) ∧ (a[j].f1.toList = b[j].f1.toList)
    · rw [h.1, h.2]
      simp only [beq_self_eq_true, Bool.not_true, Bool.or_self, Bool.false_eq_true, if_false, w1 (show j < 4611686018427387904 by omega)]
      have e : decide (raw (a[j] :: a.drop (j + 1)) = raw (b[j] :: b.drop (j + 1))) = decide (raw (a.drop (j + 1)) = raw (b.drop (j + 1))) := by
        rw [decide_eq_decide]
        simp only [raw, List.map_cons, h.1, h.2, List.cons.injEq, true_and]
      rw [e]
      exact ih (j + 1) (by omega) (by omega)
    · have e : decide (raw (a[j] :: a.drop (j + 1)) = raw (b[j] :: b.drop (j + 1))) = false := decide_eq_false (fun hq => h (by
        simp only [raw, List.map_cons, List.cons.injEq, and_true] at hq
        exact hq.1))
      have e2 : (!(a[j].f0.toList == b[j].f0.toList) || !(a[j].f1.toList == b[j].f1.toList)) = true := by
        cases h1 : (a[j].f0.toList == b[j].f0.toList) with
        | false => rfl
        | true =>
          cases h2 : (a[j].f1.toList == b[j].f1.toList) with
          | false => rfl
          | true => exact absurd ⟨beq_iff_eq.mp h1, beq_iff_eq.mp h2⟩ h
      rw [e]
      simp only [e2, if_true]
      exact Ev.now _
theorem same_tells (a b : List S25) (hs : a.length < 4611686018427387904) : Ev (fun k => name_Same.f k a b) (decide (raw a = raw b)) := by
  unfold name_Same.f
  refine Ev.bind (a := decide (raw a = raw b)) ?_ (Ev.now _)
  unfold api_Tag_24.f
  by_cases hl : a.length = b.length
  · simp only [if_pos (show (a.length : Int) = (b.length : Int) by omega)]
    exact same_loop a b hl hs a.length 0 (by omega) (by omega)
  · simp only [if_neg (show ¬ (a.length : Int) = (b.length : Int) by omega)]
    rw [decide_eq_false (fun h => hl (by have := congrArg List.length h; simpa [raw] using this))]
    exact Ev.now _
/-! ### the sort, as a function that sees the keys alone -/
theorem rdT_map (f : S25 → S25) (l : List S25) {i : Int} (h0 : 0 ≤ i) (h1 : i < l.length) : rd_T25 (l.map f) i = f (rd_T25 l i) := by
  obtain ⟨n, rfl⟩ := Int.eq_ofNat_of_zero_le h0
  have hn : n < l.length := by omega
  rw [rdT_at hn, rdT_at (show n < (l.map f).length by rw [List.length_map]; exact hn), List.getElem_map]
theorem sort_nat (f : S25 → S25) (hf : ∀ x, (f x).f0 = x.f0) : ∀ k, (∀ l x1 x2 x8, api_Tag_35_of_name_Tags_1.l0 k (l.map f) x1 x2 x8 = (api_Tag_35_of_name_Tags_1.l0 k l x1 x2 x8).map (List.map f)) ∧ (∀ l x1 x2 x8 x9, api_Tag_35_of_name_Tags_1.l1 k (l.map f) x1 x2 x8 x9 = (api_Tag_35_of_name_Tags_1.l1 k l x1 x2 x8 x9).map (List.map f)) := by
  intro k
  induction k with
  | zero => exact ⟨fun _ _ _ _ => rfl, fun _ _ _ _ _ => rfl⟩
  | succ k ih =>
    refine ⟨fun l x1 x2 x8 => ?_, fun l x1 x2 x8 x9 => ?_⟩
    · simp only [api_Tag_35_of_name_Tags_1.l0]
      split
      · exact ih.2 ..
      · rfl
    · simp only [api_Tag_35_of_name_Tags_1.l1, List.length_map]
      by_cases h1 : x9 > x1
      · simp only [if_pos h1]
        by_cases h2 : 0 ≤ x9
        · simp only [if_pos h2]
          by_cases h3 : x9 < (l.length : Int)
          · simp only [if_pos h3]
            by_cases h4 : 0 ≤ wrap64 (x9 - 1)
            · simp only [if_pos h4]
              by_cases h5 : wrap64 (x9 - 1) < (l.length : Int)
              · simp only [if_pos h5, rdT_map f l h2 h3, rdT_map f l h4 h5]
                have e : name_Tags_1.f (f (rd_T25 l x9)).f0 (f (rd_T25 l x9)).f1 (f (rd_T25 l (wrap64 (x9 - 1)))).f0 (f (rd_T25 l (wrap64 (x9 - 1)))).f1 = name_Tags_1.f (rd_T25 l x9).f0 (rd_T25 l x9).f1 (rd_T25 l (wrap64 (x9 - 1))).f0 (rd_T25 l (wrap64 (x9 - 1))).f1 := by rw [hf, hf]; rfl
                rw [e]
                cases name_Tags_1.f (rd_T25 l x9).f0 (rd_T25 l x9).f1 (rd_T25 l (wrap64 (x9 - 1))).f0 (rd_T25 l (wrap64 (x9 - 1))).f1 with
                | none => rfl
                | some t =>
                  simp only [Option.bind_some]
                  by_cases h6 : t < 0
                  · simp only [if_pos h6]
                    rw [← ih.2, List.map_set, List.map_set]
                  · simp only [if_neg h6]
                    exact ih.1 ..
              · simp only [if_neg h5]; rfl
            · simp only [if_neg h4]; rfl
          · simp only [if_neg h3]; rfl
        · simp only [if_neg h2]; rfl
      · simp only [if_neg h1]
        exact ih.1 ..
theorem srt_nat (f : S25 → S25) (hf : ∀ x, (f x).f0 = x.f0) (k : Nat) (l : List S25) : api_Tag_26_of_name_Tags_1.f k (l.map f) = (api_Tag_26_of_name_Tags_1.f k l).map (List.map f) := by
  simp only [api_Tag_26_of_name_Tags_1.f, api_Tag_30_of_name_Tags_1.f, api_Tag_35_of_name_Tags_1.f, List.length_map, (sort_nat f hf k).1]
  by_cases h : (l.length : Int) < 20
  · simp only [if_pos h]
    cases api_Tag_35_of_name_Tags_1.l0 k l 0 (l.length : Int) (wrap64 (0 + 1)) with
    | none => rfl
    | some t => rfl
  · simp only [if_neg h]; rfl
def mapB (f : S25 → S25) (p : List S25 × Int) : List S25 × Int := (p.1.map f, p.2)
theorem dup_nat (f : S25 → S25) (hf : ∀ x, (f x).f0 = x.f0) : ∀ k l x7, name_Tags.l1 k (l.map f) x7 = (name_Tags.l1 k l x7).map (mapB f) := by
  intro k
  induction k with
  | zero => intro _ _; rfl
  | succ k ih =>
    intro l x7
    simp only [name_Tags.l1, List.length_map]
    by_cases h1 : x7 < (l.length : Int)
    · simp only [if_pos h1]
      by_cases h2 : 0 ≤ x7
      · simp only [if_pos h2]
        by_cases h4 : 0 ≤ wrap64 (x7 - 1)
        · simp only [if_pos h4]
          by_cases h5 : wrap64 (x7 - 1) < (l.length : Int)
          · simp only [if_pos h5, rdT_map f l h2 h1, rdT_map f l h4 h5, hf]
            split
            · rfl
            · exact ih ..
          · simp only [if_neg h5]; rfl
        · simp only [if_neg h4]; rfl
      · simp only [if_neg h2]; rfl
    · simp only [if_neg h1]; rfl
/-- Tags, behind the look at the names. -/
def core (k : Nat) (l : List S25) : Option (List S25 × Int) := (api_Tag_25.f l).bind fun t => (api_Tag_26_of_name_Tags_1.f k t).bind fun t2 => name_Tags.l1 k t2 1
theorem core_nat (f : S25 → S25) (hf : ∀ x, (f x).f0 = x.f0) (k : Nat) (l : List S25) : core k (l.map f) = (core k l).map (mapB f) := by
  unfold core api_Tag_25.f
  rw [List.length_map]
  by_cases h : l.length < 4398046511104
  · simp only [if_pos h, Option.bind_some, srt_nat f hf]
    cases api_Tag_26_of_name_Tags_1.f k l with
    | none => rfl
    | some t => simp only [Option.map_some, Option.bind_some]; exact dup_nat f hf ..
  · simp only [if_neg h]; rfl
theorem core_ev {l : List S25} {r : List S25 × Int} (h : core 60 l = some r) : Ev (fun k => core k l) r := by
  refine evMono (fun k => ?_) h
  unfold core
  exact LeO.bind (LeO.refl _) (fun t => LeO.bind (api_Tag_26_of_name_Tags_1.mono _ _) (fun t2 => (name_Tags.mono_l k).2.2 _ _))
/-- Names of the few. -/
def Few (l : List S25) : Prop := ∀ x ∈ l, x.f0 ∈ ofKeys ∧ x.f1 ∈ ofValues
theorem key_right : ∀ s ∈ ofKeys, nameB s = true ∧ s.size < 100 := by decide +kernel
theorem value_right : ∀ s ∈ ofValues, nameB s = true ∧ s.size < 100 := by decide +kernel
theorem names_loop (l : List S25) (hl : Few l) (hs : l.length ≤ 4) {r : List S25 × Int} (hc : Ev (fun k => core k l) r) : ∀ n j : Nat, l.length - j = n → j ≤ l.length → Ev (fun k => name_Tags.l0 k l l (l.length : Int) (j : Int)) r := by
  intro n
  induction n with
  | zero =>
    intro j hj hle
    refine evDown ?_
    simp only [name_Tags.l0, if_neg (show ¬ (j : Int) < (l.length : Int) by omega)]
    exact hc
  | succ n ih =>
    intro j hj hle
    have hlt : j < l.length := by omega
    obtain ⟨h0, h1⟩ := hl _ (List.getElem_mem hlt)
    refine evDown ?_
    simp only [name_Tags.l0, if_pos (show (j : Int) < (l.length : Int) by omega), if_pos (show 0 ≤ (j : Int) by omega), rdT_at hlt]
    refine Ev.bind (name_tells (by have := (key_right _ h0).2; omega)) ?_
    simp only [(key_right _ h0).1, if_true]
    refine Ev.bind (name_tells (by have := (value_right _ h1).2; omega)) ?_
    simp only [(value_right _ h1).1, if_true, w1 (show j < 4611686018427387904 by omega)]
    exact ih (j + 1) (by omega) (by omega)
theorem tags_core {l : List S25} (hl : Few l) (h1 : 1 ≤ l.length) (hs : l.length ≤ 4) {r : List S25 × Int} (hc : Ev (fun k => core k l) r) : Ev (fun k => name_Tags.f k l) r := by
  unfold name_Tags.f
  simp only [if_neg (show ¬ (l.length : Int) < 1 by omega)]
  rw [decide_eq_false (show ¬ (l.length : Int) > 4 by omega)]
  refine evDown ?_
  simp only [name_Tags.j0, Bool.false_eq_true, if_false]
  exact names_loop l hl hs hc l.length 0 rfl (Nat.zero_le _)
theorem tags_long {l : List S25} (hs : 4 < l.length) : Ev (fun k => name_Tags.f k l) ([], 1) := by
  unfold name_Tags.f
  simp only [if_neg (show ¬ (l.length : Int) < 1 by omega)]
  rw [decide_eq_true (show (l.length : Int) > 4 by omega)]
  refine evDown ?_
  simp only [name_Tags.j0, if_true]
  exact Ev.now _
def rises : List S25 → Bool
  | a :: b :: r => Op.bytesLess a.f0.toList b.f0.toList && rises (b :: r)
  | _ => true
theorem rises_map (f : S25 → S25) (hf : ∀ x, (f x).f0 = x.f0) : ∀ l, rises (l.map f) = rises l
  | [] => rfl
  | [_] => rfl
  | a :: b :: r => by
    have ih := rises_map f hf (b :: r)
    simp only [List.map_cons] at ih
    simp only [List.map_cons, rises, hf, ih]
theorem rises_at : ∀ (l : List S25) (i : Nat) (h : i + 1 < l.length), rises l = true → Op.bytesLess l[i].f0.toList l[i + 1].f0.toList = true
  | [], _, h, _ => absurd h (by simp)
  | [_], _, h, _ => absurd h (by simp)
  | a :: b :: r, 0, _, hr => by simp only [rises, Bool.and_eq_true] at hr; exact hr.1
  | a :: b :: r, i + 1, h, hr => by
    simp only [rises, Bool.and_eq_true] at hr
    exact rises_at (b :: r) i (by simpa using h) hr.2
def pl (l : List S25) : List (List UInt8 × List UInt8) := l.map fun x => (x.f0.data.toList, x.f1.data.toList)
theorem pl_inj : ∀ {a b : List S25}, pl a = pl b → a = b
  | [], [], _ => rfl
  | [], _ :: _, h => by simp [pl] at h
  | _ :: _, [], h => by simp [pl] at h
  | ⟨⟨⟨x⟩⟩, ⟨⟨y⟩⟩⟩ :: a, ⟨⟨⟨u⟩⟩, ⟨⟨v⟩⟩⟩ :: b, h => by
    simp only [pl, List.map_cons, List.cons.injEq, Prod.mk.injEq] at h
    obtain ⟨⟨rfl, rfl⟩, h2⟩ := h
    rw [pl_inj (a := a) (b := b) h2]
def nth (i : Nat) : ByteArray := ⟨(List.replicate i 0).toArray⟩
def places : List ByteArray → Nat → List S25
  | [], _ => []
  | k :: r, i => ⟨k, nth i⟩ :: places r (i + 1)
def both (ks : List ByteArray) : Bool := match core 60 (places ks 0), core 60 (places ks 0).reverse with
  | some (a, e), some (b, e2) => e == e2 && pl a == pl b && rises a && (e != 0 || a.length == ks.length) && decide (a.length ≤ 5)
  | _, _ => false
theorem both1 : ∀ k1 ∈ ofKeys, both [k1] = true := by decide +kernel
theorem both2 : ∀ k1 ∈ ofKeys, ∀ k2 ∈ ofKeys, both [k1, k2] = true := by decide +kernel
theorem both3 : ∀ k1 ∈ ofKeys, ∀ k2 ∈ ofKeys, ∀ k3 ∈ ofKeys, both [k1, k2, k3] = true := by decide +kernel
theorem both4 : ∀ k1 ∈ ofKeys, ∀ k2 ∈ ofKeys, ∀ k3 ∈ ofKeys, ∀ k4 ∈ ofKeys, both [k1, k2, k3, k4] = true := by decide +kernel
theorem both_few {l : List S25} (hl : Few l) (h1 : 1 ≤ l.length) (h4 : l.length ≤ 4) : both (l.map (·.f0)) = true := by
  match l, h1, h4 with
  | [a], _, _ => exact both1 _ (hl a (by simp)).1
  | [a, b], _, _ => exact both2 _ (hl a (by simp)).1 _ (hl b (by simp)).1
  | [a, b, c], _, _ => exact both3 _ (hl a (by simp)).1 _ (hl b (by simp)).1 _ (hl c (by simp)).1
  | [a, b, c, d], _, _ => exact both4 _ (hl a (by simp)).1 _ (hl b (by simp)).1 _ (hl c (by simp)).1 _ (hl d (by simp)).1
  | _ :: _ :: _ :: _ :: _ :: _, _, h => exact absurd h (by simp)
def giveV (l : List S25) (x : S25) : S25 := ⟨x.f0, (l.getD x.f1.data.toList.length z25).f1⟩
theorem places_give {l : List S25} (h1 : 1 ≤ l.length) (h4 : l.length ≤ 4) : (places (l.map (·.f0)) 0).map (giveV l) = l := by
  match l, h1, h4 with
  | [a], _, _ => rfl
  | [a, b], _, _ => rfl
  | [a, b, c], _, _ => rfl
  | [a, b, c, d], _, _ => rfl
  | _ :: _ :: _ :: _ :: _ :: _, _, h => exact absurd h (by simp)
theorem few_rev {l : List S25} (h : Few l) : Few l.reverse := fun x hx => h x (List.mem_reverse.1 hx)
/-- Tags in whatever order. -/
theorem tags_any {l : List S25} (hl : Few l) (h1 : 1 ≤ l.length) : ∃ a e, Ev (fun k => name_Tags.f k l) (a, e) ∧ Ev (fun k => name_Tags.f k l.reverse) (a, e) ∧ rises a = true ∧ (e ≠ 0 ∨ a.length = l.length) ∧ a.length ≤ 5 := by
  by_cases h4 : l.length ≤ 4
  · have hb := both_few hl h1 h4
    unfold both at hb
    cases hA : core 60 (places (l.map (·.f0)) 0) with
    | none => simp [hA] at hb
    | some p =>
      cases hB : core 60 (places (l.map (·.f0)) 0).reverse with
      | none => simp [hA, hB] at hb
      | some q =>
        obtain ⟨a, e⟩ := p
        obtain ⟨b, e2⟩ := q
        simp only [hA, hB, Bool.and_eq_true, beq_iff_eq, decide_eq_true_eq, Bool.or_eq_true, bne_iff_ne] at hb
        obtain ⟨⟨⟨⟨rfl, hp⟩, hr⟩, hn⟩, h5⟩ := hb
        obtain rfl := pl_inj hp
        have c1 := core_nat (giveV l) (fun _ => rfl) 60 (places (l.map (·.f0)) 0)
        rw [places_give h1 h4, hA] at c1
        have c2 := core_nat (giveV l) (fun _ => rfl) 60 (places (l.map (·.f0)) 0).reverse
        rw [List.map_reverse, places_give h1 h4, hB] at c2
        refine ⟨a.map (giveV l), e, tags_core hl h1 h4 (core_ev c1), tags_core (few_rev hl) (by rw [List.length_reverse]; exact h1) (by rw [List.length_reverse]; exact h4) (core_ev c2), by rw [rises_map (giveV l) (fun _ => rfl)]; exact hr, ?_, by rw [List.length_map]; exact h5⟩
        rw [List.length_map]
        rw [List.length_map] at hn
        exact hn
  · exact ⟨[], 1, tags_long (by omega), tags_long (by rw [List.length_reverse]; omega), rfl, .inl (by decide), by simp⟩
def wfP (x : S34) : Prop := (Lit.int .i64 x.f0).wf = true ∧ (Lit.int .i64 x.f1).wf = true ∧ (Lit.int .i64 x.f2).wf = true ∧ (Lit.int .i64 x.f3).wf = true ∧ (Lit.int .i64 x.f4).wf = true ∧ (Lit.int .i64 x.f6).wf = true ∧ (Lit.int .i64 x.f7).wf = true
/-- The law's plain form. -/
def NameOrdersPure : Prop := ∀ (p0 p1 p2 p3 p4 : Int) (p5 : Bool) (p6 p7 : Int) (lM : List S34), (Lit.int .i64 p0).wf = true → (Lit.int .i64 p1).wf = true → (Lit.int .i64 p2).wf = true → (Lit.int .i64 p3).wf = true → (Lit.int .i64 p4).wf = true → (Lit.int .i64 p6).wf = true → (Lit.int .i64 p7).wf = true → (∀ x ∈ lM, wfP x) →
  ∃ (k : Nat) (met : ByteArray) (tags : List S25) (pt pv : Int) (fT : S34 → S25) (a : List S25) (er : Int), marigraphkeep_Of.f k p0 p1 p2 p3 p4 p5 p6 p7 = some (met, tags, pt, pv) ∧ tags.length ≤ 2 ∧ (∀ x ∈ lM, ∃ m ts tm v, marigraphkeep_Of.f k x.f0 x.f1 x.f2 x.f3 x.f4 x.f5 x.f6 x.f7 = some (m, fT x :: ts, tm, v)) ∧ name_Tags.f k (tags ++ (lM.take 3).map fT) = some (a, er) ∧ name_Tags.f k (tags ++ (lM.take 3).map fT).reverse = some (a, er) ∧ name_Same.f k a a = some true ∧ a.length ≤ 5 ∧ (∀ x : Int, 1 ≤ x → x < a.length → Op.bytesLess (rd_T25 a (x - 1)).f0.toList (rd_T25 a x).f0.toList = true) ∧ (er ≠ 0 ∨ a.length = (tags ++ (lM.take 3).map fT).length) ∧ marigraphlaw12_known.f k = some true
def OfX (x : S34) (r : ByteArray × List S25 × Int × Int) : Prop := Ev (fun k => marigraphkeep_Of.f k x.f0 x.f1 x.f2 x.f3 x.f4 x.f5 x.f6 x.f7) r
theorem of_first {x : S34} (h : wfP x) : ∃ t : S25, (t.f0 ∈ ofKeys ∧ t.f1 ∈ ofValues) ∧ ∃ m ts tm v, OfX x (m, t :: ts, tm, v) := by
  obtain ⟨h0, h1, h2, h3, h4, h6, h7⟩ := h
  obtain ⟨m, tg, tm, v, eo, ho, _⟩ := of_tells (p5 := x.f5) (i64_of h0) (i64_of h1) (i64_of h2) (i64_of h3) (i64_of h4) (i64_of h6) (i64_of h7)
  rcases ho with ⟨a, rfl, ha, hb⟩ | ⟨a, b, rfl, ha, hb, _⟩
  · exact ⟨a, ⟨ha, hb⟩, m, [], tm, v, eo⟩
  · exact ⟨a, ⟨ha, hb⟩, m, [b], tm, v, eo⟩
open Classical in
noncomputable def fstT (x : S34) : S25 := if h : wfP x then Classical.choose (of_first h) else z25
theorem fstT_tells {x : S34} (h : wfP x) : ((fstT x).f0 ∈ ofKeys ∧ (fstT x).f1 ∈ ofValues) ∧ ∃ m ts tm v, OfX x (m, fstT x :: ts, tm, v) := by
  unfold fstT
  rw [dif_pos h]
  exact Classical.choose_spec (of_first h)
theorem ofs_all (l : List S34) (hl : ∀ x ∈ l, wfP x) : ∃ K, ∀ k, K ≤ k → ∀ x ∈ l, ∃ m ts tm v, marigraphkeep_Of.f k x.f0 x.f1 x.f2 x.f3 x.f4 x.f5 x.f6 x.f7 = some (m, fstT x :: ts, tm, v) := by
  induction l with
  | nil => exact ⟨0, fun _ _ x hx => by cases hx⟩
  | cons y l ih =>
    obtain ⟨K1, h1⟩ := ih (fun x hx => hl x (List.mem_cons_of_mem _ hx))
    obtain ⟨-, m, ts, tm, v, K2, h2⟩ := fstT_tells (hl y (List.mem_cons_self ..))
    refine ⟨K1 + K2, fun k hk x hx => ?_⟩
    rcases List.mem_cons.1 hx with rfl | hx
    · exact ⟨m, ts, tm, v, h2 k (by omega)⟩
    · exact h1 k (by omega) x hx
theorem NameOrders : NameOrdersPure := by
  intro p0 p1 p2 p3 p4 p5 p6 p7 lM h0 h1 h2 h3 h4 h6 h7 hM
  obtain ⟨m, tg, tm, v, ⟨K1, eo⟩, ho, _⟩ := of_tells (p5 := p5) (i64_of h0) (i64_of h1) (i64_of h2) (i64_of h3) (i64_of h4) (i64_of h6) (i64_of h7)
  have ht : Few tg ∧ 1 ≤ tg.length ∧ tg.length ≤ 2 := by
    rcases ho with ⟨a, rfl, ha, hb⟩ | ⟨a, b, rfl, ha, hb, hc, hd, _⟩
    · exact ⟨fun x hx => by obtain rfl := List.mem_singleton.1 hx; exact ⟨ha, hb⟩, by simp, by simp⟩
    · refine ⟨fun x hx => ?_, by simp, by simp⟩
      rcases List.mem_cons.1 hx with rfl | hx
      · exact ⟨ha, hb⟩
      · obtain rfl := List.mem_singleton.1 hx
        exact ⟨hc, hd⟩
  have hf : Few (tg ++ (lM.take 3).map fstT) := by
    intro x hx
    rcases List.mem_append.1 hx with hx | hx
    · exact ht.1 x hx
    · obtain ⟨y, hy, rfl⟩ := List.mem_map.1 hx
      exact (fstT_tells (hM y (List.mem_of_mem_take hy))).1
  obtain ⟨a, e, ⟨K2, e2⟩, ⟨K3, e3⟩, hr, he, hl⟩ := tags_any hf (by rw [List.length_append]; omega)
  obtain ⟨K4, e4⟩ := same_tells a a (by omega)
  obtain ⟨K5, e5⟩ := ofs_all lM hM
  obtain ⟨K6, e6⟩ := known12
  refine ⟨K1 + K2 + K3 + K4 + K5 + K6, m, tg, tm, v, fstT, a, e, eo _ (by omega), ht.2.2, e5 _ (by omega), e2 _ (by omega), e3 _ (by omega), (e4 _ (by omega)).trans (by rw [decide_eq_true rfl]), hl, ?_, he, e6 _ (by omega)⟩
  intro x hx1 hx2
  obtain ⟨n, rfl⟩ : ∃ n : Nat, x = ((n + 1 : Nat) : Int) := ⟨(x - 1).toNat, by omega⟩
  have hn : n + 1 < a.length := by omega
  rw [show (((n + 1 : Nat) : Int) - 1) = (n : Int) by omega, rdT_at hn, rdT_at (show n < a.length by omega)]
  exact rises_at a n hn hr

end Go.Proofs.Ytfijbkabjmgomaa.Pure

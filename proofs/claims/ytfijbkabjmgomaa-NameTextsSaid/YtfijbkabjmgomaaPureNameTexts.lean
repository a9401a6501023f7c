/- NameTexts: P12.1, without the document s own answer: tags that may be have one text just if they are the same. -/
import Derived.Test.YtfijbkabjmgomaaPNameTextsx4
import Derived.Test.YtfijbkabjmgomaaPNameTextsx7
namespace Go.Proofs.Ytfijbkabjmgomaa.Pure
open Go.RowKit Go.Proofs.Ytfijbkabjmgomaa.PNameTexts Go.Proofs.YtfijbkabjmgomaaW.PrintWords Go.Proofs.YtfijbkabjmgomaaW.PrintLast
set_option linter.unusedVariables false
set_option linter.unusedSimpArgs false

theorem i64_of {a : Int} (h : (Lit.int .i64 a).wf = true) : -9223372036854775808 ≤ a ∧ a ≤ 9223372036854775807 := by
  have h1 : IntKind.i64.min = -9223372036854775808 := rfl
  have h2 : IntKind.i64.max = 9223372036854775807 := rfl
  simp only [Lit.wf, Bool.and_eq_true, decide_eq_true_eq] at h
  omega
/-! ### Within -/
theorem within_w {n lo hi : Int} (h1 : -2199023255552 ≤ lo) (h2 : lo ≤ hi) (h3 : hi ≤ 2199023255552) (hn : -9223372036854775808 ≤ n ∧ n ≤ 9223372036854775807) : ∃ r, Ev (fun k => marigraphbook_Within.f k n lo hi) r ∧ lo ≤ r ∧ r ≤ hi ∧ (lo ≤ n → n ≤ hi → r = n) := by
  have e1 : wrap64 (wrap64 (hi - lo) + 1) = hi - lo + 1 := by unfold wrap64; omega
  have hj : ∀ b : Bool, (b = true ↔ (lo ≤ n ∧ n ≤ hi)) → ∃ r, (∀ k, marigraphbook_Within.j0 (k + 1) n lo hi b = some r) ∧ lo ≤ r ∧ r ≤ hi ∧ (lo ≤ n → n ≤ hi → r = n) := by
    intro b hb
    simp only [marigraphbook_Within.j0, e1]
    cases b with
    | true =>
      have := hb.1 rfl
      exact ⟨n, fun _ => by rw [if_pos rfl], this.1, this.2, fun _ _ => rfl⟩
    | false =>
      have hno : ¬ (lo ≤ n ∧ n ≤ hi) := fun h => by have := hb.2 h; cases this
      simp only [Bool.false_eq_true, if_false]
      rw [if_neg (by omega)]
      have hm : (0 : Int) < hi - lo + 1 := by omega
      have t1 : Int.tmod n (hi - lo + 1) < hi - lo + 1 := Int.tmod_lt_of_pos _ hm
      have t2 : -(hi - lo + 1) < Int.tmod n (hi - lo + 1) := by
        have := Int.tmod_lt_of_pos (-n) hm
        rw [Int.neg_tmod] at this
        omega
      generalize Int.tmod n (hi - lo + 1) = t at *
      by_cases ht : t < 0
      · rw [if_pos ht]
        have e : wrap64 (lo + wrap64 (wrap64 (wrap64 (t + hi) - lo) + 1)) = t + hi + 1 := by unfold wrap64; omega
        rw [e]
        exact ⟨_, fun _ => rfl, by omega, by omega, fun a b => absurd ⟨a, b⟩ hno⟩
      · rw [if_neg ht]
        have e : wrap64 (lo + t) = lo + t := by unfold wrap64; omega
        rw [e]
        exact ⟨_, fun _ => rfl, by omega, by omega, fun a b => absurd ⟨a, b⟩ hno⟩
  have fin : ∀ b : Bool, (∀ k, marigraphbook_Within.f k n lo hi = marigraphbook_Within.j0 k n lo hi b) → (b = true ↔ (lo ≤ n ∧ n ≤ hi)) → ∃ r, Ev (fun k => marigraphbook_Within.f k n lo hi) r ∧ lo ≤ r ∧ r ≤ hi ∧ (lo ≤ n → n ≤ hi → r = n) := by
    intro b hf hb
    obtain ⟨r, h, hr⟩ := hj b hb
    refine ⟨r, ⟨1, fun k hk => ?_⟩, hr⟩
    obtain ⟨k, rfl⟩ : ∃ m, k = m + 1 := ⟨k - 1, by omega⟩
    show marigraphbook_Within.f (k + 1) n lo hi = some r
    rw [hf]
    exact h k
  by_cases hlo : n ≥ lo
  · refine fin (decide (n ≤ hi)) (fun k => by unfold marigraphbook_Within.f; rw [if_pos hlo]) ?_
    rw [decide_eq_true_iff]
    exact ⟨fun h => ⟨hlo, h⟩, fun h => h.2⟩
  · refine fin false (fun k => by unfold marigraphbook_Within.f; rw [if_neg hlo]) ?_
    constructor
    · intro h; cases h
    · intro h; omega
/-! ### names, filters: what the printed functions answer -/
theorem evDown {α : Type} {g : Nat → Option α} {r : α} (h : Ev (fun k => g (k + 1)) r) : Ev g r := let ⟨K, hK⟩ := h; ⟨K + 1, fun k hk => by
  obtain ⟨m, rfl⟩ : ∃ m, k = m + 1 := ⟨k - 1, by omega⟩
  exact hK m (by omega)⟩
theorem w1 {j : Nat} (h : j < 4611686018427387904) : wrap64 ((j : Int) + 1) = ((j + 1 : Nat) : Int) := by unfold wrap64; omega
/-! ### marigraphkeep.Of: a point of a few names -/
theorem pick_tells (l : List ByteArray) (n : Int) (h0 : 0 < l.length) (h1 : l.length < 1000) (hn : -9223372036854775808 ≤ n ∧ n ≤ 9223372036854775807) : ∃ s ∈ l, Ev (fun k => marigraphkeep_pick.f k l n) s := by
  obtain ⟨r, hr, h2, h3, _⟩ := within_w (n := n) (lo := 0) (hi := 1048576) (by omega) (by omega) (by omega) hn
  have t1 : Int.tmod r (l.length : Int) < (l.length : Int) := Int.tmod_lt_of_pos _ (by omega)
  have t0 : 0 ≤ Int.tmod r (l.length : Int) := Int.tmod_nonneg _ h2
  refine ⟨rdOf ByteArray.empty l (Int.tmod r (l.length : Int)), ?_, ?_⟩
  · generalize Int.tmod r (l.length : Int) = t at t0 t1
    obtain ⟨j, rfl⟩ := Int.eq_ofNat_of_zero_le t0
    have hj : j < l.length := by omega
    unfold rdOf
    rw [Int.toNat_natCast, List.getD_eq_getElem?_getD, List.getElem?_eq_getElem hj]
    exact List.getElem_mem hj
  · unfold marigraphkeep_pick.f
    refine Ev.bind hr ?_
    simp only [if_neg (show ¬ (l.length : Int) = 0 by omega), if_pos t0, if_pos t1]
    exact Ev.now _
def ofKeys : List ByteArray := [(⟨#[104, 111, 115, 116]⟩ : ByteArray), (⟨#[100, 99]⟩ : ByteArray), (⟨#[105, 102]⟩ : ByteArray), (⟨#[120]⟩ : ByteArray)]
def ofValues : List ByteArray := [(⟨#[97]⟩ : ByteArray), (⟨#[98]⟩ : ByteArray), (⟨#[119, 101, 98, 49]⟩ : ByteArray), (⟨#[119, 101, 98, 50]⟩ : ByteArray), (⟨#[49]⟩ : ByteArray)]
def ofMetrics : List ByteArray := [(⟨#[99, 112, 117]⟩ : ByteArray), (⟨#[109, 101, 109]⟩ : ByteArray), (⟨#[110, 101, 116, 47, 105, 110]⟩ : ByteArray), (⟨#[97, 46, 98]⟩ : ByteArray)]
/-- One tag, or two of unlike keys; of the few names. -/
def OfTags (l : List S25) : Prop := (∃ a, l = [a] ∧ a.f0 ∈ ofKeys ∧ a.f1 ∈ ofValues) ∨ ∃ a b, l = [a, b] ∧ a.f0 ∈ ofKeys ∧ a.f1 ∈ ofValues ∧ b.f0 ∈ ofKeys ∧ b.f1 ∈ ofValues ∧ a.f0.toList ≠ b.f0.toList
theorem of_tells {p0 p1 p2 p3 p4 p6 p7 : Int} {p5 : Bool} (h0 : -9223372036854775808 ≤ p0 ∧ p0 ≤ 9223372036854775807) (h1 : -9223372036854775808 ≤ p1 ∧ p1 ≤ 9223372036854775807) (h2 : -9223372036854775808 ≤ p2 ∧ p2 ≤ 9223372036854775807) (h3 : -9223372036854775808 ≤ p3 ∧ p3 ≤ 9223372036854775807) (h4 : -9223372036854775808 ≤ p4 ∧ p4 ≤ 9223372036854775807) (h6 : -9223372036854775808 ≤ p6 ∧ p6 ≤ 9223372036854775807) (h7 : -9223372036854775808 ≤ p7 ∧ p7 ≤ 9223372036854775807) :
    ∃ met tags tm v, Ev (fun k => marigraphkeep_Of.f k p0 p1 p2 p3 p4 p5 p6 p7) (met, tags, tm, v) ∧ OfTags tags ∧ met ∈ ofMetrics ∧ 0 ≤ tm ∧ tm ≤ 9000 ∧ -2147483647 ≤ v ∧ v ≤ 2147483647 := by
  obtain ⟨met, hm, em⟩ := pick_tells ofMetrics p0 (by decide) (by decide) h0
  obtain ⟨k1, hk1, ek1⟩ := pick_tells ofKeys p1 (by decide) (by decide) h1
  obtain ⟨v1, hv1, ev1⟩ := pick_tells ofValues p2 (by decide) (by decide) h2
  obtain ⟨k2, hk2, ek2⟩ := pick_tells ofKeys p3 (by decide) (by decide) h3
  obtain ⟨v2, hv2, ev2⟩ := pick_tells ofValues p4 (by decide) (by decide) h4
  obtain ⟨tm, et, t0, t1, _⟩ := within_w (n := p6) (lo := 0) (hi := 9000) (by omega) (by omega) (by omega) h6
  obtain ⟨v, ev, g0, g1, _⟩ := within_w (n := p7) (lo := -2147483647) (hi := 2147483647) (by omega) (by omega) (by omega) h7
  have hj : ∀ b : Bool, (b = true → k1.toList ≠ k2.toList) → ∃ tags, OfTags tags ∧ Ev (fun k => marigraphkeep_Of.j0 k b p0 p1 p2 p3 p4 p5 p6 p7 met [⟨k1, v1⟩] tm v) (met, tags, tm, v) := by
    intro b hb
    cases b with
    | false =>
      refine ⟨[⟨k1, v1⟩], .inl ⟨_, rfl, hk1, hv1⟩, evDown ?_⟩
      simp only [marigraphkeep_Of.j0, Bool.false_eq_true, if_false]
      exact Ev.now _
    | true =>
      refine ⟨[⟨k1, v1⟩] ++ [⟨k2, v2⟩], .inr ⟨_, _, rfl, hk1, hv1, hk2, hv2, hb rfl⟩, evDown ?_⟩
      simp only [marigraphkeep_Of.j0, if_true]
      refine Ev.bind (a := ofKeys) (Ev.now _) (Ev.bind ek2 (Ev.bind (a := ofValues) (Ev.now _) (Ev.bind ev2 ?_)))
      simp only [List.length_singleton, if_pos (show 1 < 4398046511104 by omega)]
      exact Ev.now _
  obtain ⟨tags, ht, e⟩ : ∃ tags, OfTags tags ∧ Ev (fun k => if p5 = true then ((marigraphkeep_Keys.f).bind fun t132 => ((marigraphkeep_pick.f k t132 p1).bind fun t135 => ((marigraphkeep_Keys.f).bind fun t136 => ((marigraphkeep_pick.f k t136 p3).bind fun t139 => (marigraphkeep_Of.j0 k (t135.toList != t139.toList) p0 p1 p2 p3 p4 p5 p6 p7 met [⟨k1, v1⟩] tm v))))) else (marigraphkeep_Of.j0 k false p0 p1 p2 p3 p4 p5 p6 p7 met [⟨k1, v1⟩] tm v)) (met, tags, tm, v) := by
    by_cases h5 : p5 = true
    · obtain ⟨tags, ht, e⟩ := hj (k1.toList != k2.toList) (fun h => by simpa using h)
      refine ⟨tags, ht, ?_⟩
      simp only [if_pos h5]
      exact Ev.bind (a := ofKeys) (Ev.now _) (Ev.bind ek1 (Ev.bind (a := ofKeys) (Ev.now _) (Ev.bind ek2 e)))
    · obtain ⟨tags, ht, e⟩ := hj false (fun h => by cases h)
      refine ⟨tags, ht, ?_⟩
      simp only [if_neg h5]
      exact e
  refine ⟨met, tags, tm, v, ?_, ht, hm, t0, t1, g0, g1⟩
  unfold marigraphkeep_Of.f
  exact Ev.bind (a := ofMetrics) (Ev.now _) (Ev.bind em (Ev.bind (a := ofKeys) (Ev.now _) (Ev.bind ek1 (Ev.bind (a := ofValues) (Ev.now _) (Ev.bind ev1 (Ev.bind (a := [⟨k1, v1⟩]) (Ev.now _) (Ev.bind et (Ev.bind ev e))))))))
/-! ### name.Tags, name.Text over the tags of marigraphkeep.Of: reckoned by the kernel, one by one -/
theorem evMono {α : Type} {g : Nat → Option α} (hm : ∀ k, LeO (g k) (g (k + 1))) {K : Nat} {r : α} (h : g K = some r) : Ev g r := by
  refine ⟨K, fun k hk => ?_⟩
  induction k with
  | zero =>
    obtain rfl : K = 0 := by omega
    exact h
  | succ n ih =>
    rcases Nat.lt_or_ge n K with h1 | h1
    · obtain rfl : K = n + 1 := by omega
      exact h
    · exact hm n r (ih h1)
def raw (l : List S25) : List (List (List UInt8)) := l.map fun x => [x.f0.toList, x.f1.toList]
def encP : List (List UInt8) → List UInt8
  | [a, b] => a ++ 61 :: b
  | _ => []
def encT : List (List (List UInt8)) → List UInt8
  | [] => []
  | [p] => encP p
  | p :: q :: r => encP p ++ 44 :: encT (q :: r)
def splt (c : UInt8) : List UInt8 → List (List UInt8)
  | [] => [[]]
  | x :: r => if x = c then [] :: splt c r else match splt c r with
    | [] => [[x]]
    | h :: t => (x :: h) :: t
def decT (l : List UInt8) : List (List (List UInt8)) := (splt 44 l).map (splt 61)
def goodT (l : List S25) : Bool := match name_Tags.f 60 l with
  | some (a, e) => e == 0 && (match name_Text.f 60 a with
    | some t => t.toList == encT (raw a) && decT (encT (raw a)) == raw a && decide (3 ≤ t.size) && decide (a.length ≤ 2)
    | none => false)
  | none => false
theorem good1 : ∀ k ∈ ofKeys, ∀ v ∈ ofValues, goodT [⟨k, v⟩] = true := by decide +kernel
theorem good2 : ∀ k ∈ ofKeys, ∀ v ∈ ofValues, ∀ k2 ∈ ofKeys, k.toList ≠ k2.toList → ∀ v2 ∈ ofValues, goodT [⟨k, v⟩, ⟨k2, v2⟩] = true := by decide +kernel
theorem ofTags_good {l : List S25} (h : OfTags l) : ∃ a t, Ev (fun k => name_Tags.f k l) (a, 0) ∧ Ev (fun k => name_Text.f k a) t ∧ t.toList = encT (raw a) ∧ decT (encT (raw a)) = raw a ∧ 3 ≤ t.size ∧ a.length ≤ 2 := by
  have hg : goodT l = true := by
    rcases h with ⟨a, rfl, h0, h1⟩ | ⟨a, b, rfl, h0, h1, h2, h3, h4⟩
    · exact good1 _ h0 _ h1
    · exact good2 _ h0 _ h1 _ h2 h4 _ h3
  unfold goodT at hg
  cases hT : name_Tags.f 60 l with
  | none => rw [hT] at hg; cases hg
  | some p =>
    obtain ⟨a, e⟩ := p
    rw [hT] at hg
    cases hX : name_Text.f 60 a with
    | none => simp [hX] at hg
    | some t =>
      simp only [hX, Bool.and_eq_true, beq_iff_eq, decide_eq_true_eq] at hg
      obtain ⟨rfl, ⟨⟨⟨h1, h2⟩, h3⟩, h4⟩⟩ := hg
      exact ⟨a, t, evMono (fun k => name_Tags.mono l k) hT, evMono (fun k => name_Text.mono a k) hX, h1, h2, h3, h4⟩
theorem known12 : Ev (fun k => marigraphlaw12_known.f k) true := evMono (fun k => marigraphlaw12_known.mono k) (K := 60) (by decide +kernel)
theorem rdT_at {l : List S25} {j : Nat} (h : j < l.length) : rd_T25 l (j : Int) = l[j] := by
  unfold rd_T25
  rw [Int.toNat_natCast, List.getD_eq_getElem?_getD, List.getElem?_eq_getElem h]
  rfl
theorem same_loop (a b : List S25) (hl : a.length = b.length) (hs : a.length < 4611686018427387904) : ∀ n j : Nat, a.length - j = n → j ≤ a.length → Ev (fun k => api_Tag_24.l0 k a b (a.length : Int) (j : Int)) (decide (raw (a.drop j) = raw (b.drop j))) := by
  intro n
  induction n with
  | zero =>
    intro j hj hle
    refine evDown ?_
    simp only [api_Tag_24.l0, if_neg (show ¬ (j : Int) < (a.length : Int) by omega)]
    rw [List.drop_of_length_le (show a.length ≤ j by omega), List.drop_of_length_le (show b.length ≤ j by omega), decide_eq_true rfl]
    exact Ev.now _
  | succ n ih =>
    intro j hj hle
    have hlt : j < a.length := by omega
    have hlt2 : j < b.length := by omega
    refine evDown ?_
    simp only [api_Tag_24.l0, if_pos (show (j : Int) < (a.length : Int) by omega), if_pos (show (j : Int) < (b.length : Int) by omega), if_pos (show 0 ≤ (j : Int) by omega), rdT_at hlt, rdT_at hlt2]
    rw [List.drop_eq_getElem_cons hlt, List.drop_eq_getElem_cons hlt2]
    by_cases h : (a[j].f0.toList = b[j].f0.toList) ∧ (a[j].f1.toList = b[j].f1.toList)
    · rw [h.1, h.2]
      simp only [beq_self_eq_true, Bool.not_true, Bool.or_self, Bool.false_eq_true, if_false, w1 (show j < 4611686018427387904 by omega)]
      have e : decide (raw (a[j] :: a.drop (j + 1)) = raw (b[j] :: b.drop (j + 1))) = decide (raw (a.drop (j + 1)) = raw (b.drop (j + 1))) := by
        rw [decide_eq_decide]
        simp only [raw, List.map_cons, h.1, h.2, List.cons.injEq, true_and]
      rw [e]
      exact ih (j + 1) (by omega) (by omega)
    · have e : decide (raw (a[j] :: a.drop (j + 1)) = raw (b[j] :: b.drop (j + 1))) = false := decide_eq_false (fun hq => h (by
        simp only [raw, List.map_cons, List.cons.injEq, and_true] at hq
        exact hq.1))
      have e2 : (!(a[j].f0.toList == b[j].f0.toList) || !(a[j].f1.toList == b[j].f1.toList)) = true := by
        cases h1 : (a[j].f0.toList == b[j].f0.toList) with
        | false => rfl
        | true =>
          cases h2 : (a[j].f1.toList == b[j].f1.toList) with
          | false => rfl
          | true => exact absurd ⟨beq_iff_eq.mp h1, beq_iff_eq.mp h2⟩ h
      rw [e]
      simp only [e2, if_true]
      exact Ev.now _
theorem same_tells (a b : List S25) (hs : a.length < 4611686018427387904) : Ev (fun k => name_Same.f k a b) (decide (raw a = raw b)) := by
  unfold name_Same.f
  refine Ev.bind (a := decide (raw a = raw b)) ?_ (Ev.now _)
  unfold api_Tag_24.f
  by_cases hl : a.length = b.length
  · simp only [if_pos (show (a.length : Int) = (b.length : Int) by omega)]
    exact same_loop a b hl hs a.length 0 (by omega) (by omega)
  · simp only [if_neg (show ¬ (a.length : Int) = (b.length : Int) by omega)]
    rw [decide_eq_false (fun h => hl (by have := congrArg List.length h; simpa [raw] using this))]
    exact Ev.now _
/-- The law's plain form. -/
def NameTextsPure : Prop := ∀ (p0 p1 p2 p3 p4 : Int) (p5 : Bool) (p6 p7 : Int) (q0 q1 q2 q3 q4 : Int) (q5 : Bool) (q6 q7 : Int), (Lit.int .i64 p0).wf = true → (Lit.int .i64 p1).wf = true → (Lit.int .i64 p2).wf = true → (Lit.int .i64 p3).wf = true → (Lit.int .i64 p4).wf = true → (Lit.int .i64 p6).wf = true → (Lit.int .i64 p7).wf = true → (Lit.int .i64 q0).wf = true → (Lit.int .i64 q1).wf = true → (Lit.int .i64 q2).wf = true → (Lit.int .i64 q3).wf = true → (Lit.int .i64 q4).wf = true → (Lit.int .i64 q6).wf = true → (Lit.int .i64 q7).wf = true →
    ∃ k, marigraphlaw12_NameTexts.f k p0 p1 p2 p3 p4 p5 p6 p7 q0 q1 q2 q3 q4 q5 q6 q7 = some true
theorem NameTexts : NameTextsPure := by
  intro p0 p1 p2 p3 p4 p5 p6 p7 q0 q1 q2 q3 q4 q5 q6 q7 h0 h1 h2 h3 h4 h6 h7 g0 g1 g2 g3 g4 g6 g7
  obtain ⟨m, tg, tm, v, eo, ho, _⟩ := of_tells (p5 := p5) (i64_of h0) (i64_of h1) (i64_of h2) (i64_of h3) (i64_of h4) (i64_of h6) (i64_of h7)
  obtain ⟨m2, tg2, tm2, v2, eo2, ho2, _⟩ := of_tells (p5 := q5) (i64_of g0) (i64_of g1) (i64_of g2) (i64_of g3) (i64_of g4) (i64_of g6) (i64_of g7)
  obtain ⟨a, t, ea, et, e1, e2, e3, e4⟩ := ofTags_good ho
  obtain ⟨b, u, eb, eu, f1, f2, f3, f4⟩ := ofTags_good ho2
  have es := same_tells a b (by omega)
  have hE : (t.toList == u.toList) = decide (raw a = raw b) := by
    by_cases h : raw a = raw b
    · rw [decide_eq_true h, e1, f1, h]
      exact beq_self_eq_true _
    · rw [decide_eq_false h]
      exact beq_eq_false_iff_ne.mpr (fun hq => h (by rw [← e2, ← f2, ← e1, ← f1, hq]))
  have e0 : Ev (fun k => name_Text.f k ([] : List S25)) (⟨#[]⟩ : ByteArray) := evMono (fun k => name_Text.mono _ k) (K := 60) (by decide +kernel)
  obtain ⟨K, hK⟩ : Ev (fun k => marigraphlaw12_NameTexts.f k p0 p1 p2 p3 p4 p5 p6 p7 q0 q1 q2 q3 q4 q5 q6 q7) true := by
    unfold marigraphlaw12_NameTexts.f
    refine Ev.bind eo (Ev.bind ea (Ev.bind eo2 (Ev.bind eb ?_)))
    simp only [if_true]
    refine Ev.bind et (Ev.bind eu (Ev.bind es ?_))
    simp only [hE, beq_self_eq_true, if_true]
    refine Ev.bind et ?_
    simp only [if_pos (show (t.size : Int) ≥ 3 by omega)]
    refine Ev.bind e0 ?_
    simp only [if_pos (show (⟨#[]⟩ : ByteArray).toList = ([] : List UInt8) by decide +kernel)]
    exact Ev.bind known12 (Ev.now _)
  exact ⟨K, hK K (Nat.le_refl _)⟩

end Go.Proofs.Ytfijbkabjmgomaa.Pure

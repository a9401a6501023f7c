/- NameTells: names and tags are taken as the document says, for any, of small bulk. -/
import Derived.Test.YtfijbkabjmgomaaPNameTellsx2
import Derived.Test.YtfijbkabjmgomaaPNameTellsx3
import Derived.Test.YtfijbkabjmgomaaPNameTellsx4
import Derived.Test.YtfijbkabjmgomaaPNameTellsx5
import Derived.Test.YtfijbkabjmgomaaPNameTellsx6
import Derived.Test.YtfijbkabjmgomaaPNameTellsx7
import Derived.Test.YtfijbkabjmgomaaPNameTellsx8
import Derived.Test.YtfijbkabjmgomaaPNameTellsx9
namespace Go.Proofs.Ytfijbkabjmgomaa.Pure
open Go.RowKit Go.Proofs.Ytfijbkabjmgomaa.PNameTells Go.Proofs.YtfijbkabjmgomaaW.PrintWords Go.Proofs.YtfijbkabjmgomaaW.PrintLast
set_option linter.unusedVariables false
set_option linter.unusedSimpArgs false

theorem evNow {α : Type} {f : Nat → Option α} {r : α} (hf : ∀ k, f k = some r) : Ev f r := ⟨0, fun k _ => hf k⟩
theorem i64_of {a : Int} (h : (Lit.int .i64 a).wf = true) : -9223372036854775808 ≤ a ∧ a ≤ 9223372036854775807 := by
  have h1 : IntKind.i64.min = -9223372036854775808 := rfl
  have h2 : IntKind.i64.max = 9223372036854775807 := rfl
  simp only [Lit.wf, Bool.and_eq_true, decide_eq_true_eq] at h
  omega
/-! ### Within -/
theorem within_w {n lo hi : Int} (h1 : -2199023255552 ≤ lo) (h2 : lo ≤ hi) (h3 : hi ≤ 2199023255552) (hn : -9223372036854775808 ≤ n ∧ n ≤ 9223372036854775807) : ∃ r, Ev (fun k => marigraphbook_Within.f k n lo hi) r ∧ lo ≤ r ∧ r ≤ hi ∧ (lo ≤ n → n ≤ hi → r = n) := by
  have e1 : wrap64 (wrap64 (hi - lo) + 1) = hi - lo + 1 := by unfold wrap64; omega
  have hj : ∀ b : Bool, (b = true ↔ (lo ≤ n ∧ n ≤ hi)) → ∃ r, (∀ k, marigraphbook_Within.j0 (k + 1) n lo hi b = some r) ∧ lo ≤ r ∧ r ≤ hi ∧ (lo ≤ n → n ≤ hi → r = n) := by
    intro b hb
    simp only [marigraphbook_Within.j0, e1]
    cases b with
    | true =>
      have := hb.1 rfl
      exact ⟨n, fun _ => by rw [if_pos rfl], this.1, this.2, fun _ _ => rfl⟩
    | false =>
      have hno : ¬ (lo ≤ n ∧ n ≤ hi) := fun h => by have := hb.2 h; cases this
      simp only [Bool.false_eq_true, if_false]
      rw [if_neg (by omega)]
      have hm : (0 : Int) < hi - lo + 1 := by omega
      have t1 : Int.tmod n (hi - lo + 1) < hi - lo + 1 := Int.tmod_lt_of_pos _ hm
      have t2 : -(hi - lo + 1) < Int.tmod n (hi - lo + 1) := by
        have := Int.tmod_lt_of_pos (-n) hm
        rw [Int.neg_tmod] at this
        omega
      generalize Int.tmod n (hi - lo + 1) = t at *
      by_cases ht : t < 0
      · rw [if_pos ht]
        have e : wrap64 (lo + wrap64 (wrap64 (wrap64 (t + hi) - lo) + 1)) = t + hi + 1 := by unfold wrap64; omega
        rw [e]
        exact ⟨_, fun _ => rfl, by omega, by omega, fun a b => absurd ⟨a, b⟩ hno⟩
      · rw [if_neg ht]
        have e : wrap64 (lo + t) = lo + t := by unfold wrap64; omega
        rw [e]
        exact ⟨_, fun _ => rfl, by omega, by omega, fun a b => absurd ⟨a, b⟩ hno⟩
  have fin : ∀ b : Bool, (∀ k, marigraphbook_Within.f k n lo hi = marigraphbook_Within.j0 k n lo hi b) → (b = true ↔ (lo ≤ n ∧ n ≤ hi)) → ∃ r, Ev (fun k => marigraphbook_Within.f k n lo hi) r ∧ lo ≤ r ∧ r ≤ hi ∧ (lo ≤ n → n ≤ hi → r = n) := by
    intro b hf hb
    obtain ⟨r, h, hr⟩ := hj b hb
    refine ⟨r, ⟨1, fun k hk => ?_⟩, hr⟩
    obtain ⟨k, rfl⟩ : ∃ m, k = m + 1 := ⟨k - 1, by omega⟩
    show marigraphbook_Within.f (k + 1) n lo hi = some r
    rw [hf]
    exact h k
  by_cases hlo : n ≥ lo
  · refine fin (decide (n ≤ hi)) (fun k => by unfold marigraphbook_Within.f; rw [if_pos hlo]) ?_
    rw [decide_eq_true_iff]
    exact ⟨fun h => ⟨hlo, h⟩, fun h => h.2⟩
  · refine fin false (fun k => by unfold marigraphbook_Within.f; rw [if_neg hlo]) ?_
    constructor
    · intro h; cases h
    · intro h; omega
/-! ### names, filters: what the printed functions answer -/
theorem evDown {α : Type} {g : Nat → Option α} {r : α} (h : Ev (fun k => g (k + 1)) r) : Ev g r := let ⟨K, hK⟩ := h; ⟨K + 1, fun k hk => by
  obtain ⟨m, rfl⟩ : ∃ m, k = m + 1 := ⟨k - 1, by omega⟩
  exact hK m (by omega)⟩
theorem w1 {j : Nat} (h : j < 4611686018427387904) : wrap64 ((j : Int) + 1) = ((j + 1 : Nat) : Int) := by unfold wrap64; omega
def signI (a : Int) : Bool := (name_sign.f a).getD false
theorem sign_tells (a : Int) : name_sign.f a = some (signI a) := by
  unfold signI
  have h : (name_sign.f a).isSome = true := by
    unfold name_sign.f
    repeat' split
    all_goals rfl
  obtain ⟨r, hr⟩ := Option.isSome_iff_exists.mp h
  rw [hr]
  rfl
def nmFrom (s : ByteArray) : Nat → Nat → Bool
  | 0, _ => decide (0 < s.size ∧ s.size ≤ 32)
  | n + 1, j => signI (bt s (j : Int)) && nmFrom s n (j + 1)
def nameB (s : ByteArray) : Bool := nmFrom s s.size 0
theorem name_loop (s : ByteArray) (hs : s.size < 4611686018427387904) : ∀ n j : Nat, s.size - j = n → j ≤ s.size → Ev (fun k => name_Right.l0 k s (s.size : Int) (j : Int)) (nmFrom s n j) := by
  intro n
  induction n with
  | zero =>
    intro j hj hle
    refine evDown ?_
    simp only [name_Right.l0, if_neg (show ¬ (j : Int) < (s.size : Int) by omega)]
    unfold nmFrom
    by_cases h0 : (s.size : Int) > 0
    · simp only [if_pos h0]
      rw [show decide (0 < s.size ∧ s.size ≤ 32) = decide ((s.size : Int) ≤ 32) from by rw [decide_eq_decide]; omega]
      exact Ev.now _
    · simp only [if_neg h0]
      rw [decide_eq_false (by omega)]
      exact Ev.now _
  | succ n ih =>
    intro j hj hle
    refine evDown ?_
    simp only [name_Right.l0, if_pos (show (j : Int) < (s.size : Int) by omega), if_pos (show 0 ≤ (j : Int) by omega)]
    refine Ev.bind (evNow fun _ => sign_tells _) ?_
    unfold nmFrom
    by_cases h : signI (bt s (j : Int)) = true
    · simp only [h, if_true, Bool.true_and, w1 (show j < 4611686018427387904 by omega)]
      exact ih (j + 1) (by omega) (by omega)
    · rw [Bool.not_eq_true] at h
      simp only [h, Bool.false_and]
      exact Ev.now _
theorem name_tells {s : ByteArray} (hs : s.size < 4611686018427387904) : Ev (fun k => name_Right.f k s) (nameB s) := name_loop s hs s.size 0 rfl (Nat.zero_le _)
/-! ### marigraphkeep.Of: a point of a few names -/
theorem pick_tells (l : List ByteArray) (n : Int) (h0 : 0 < l.length) (h1 : l.length < 1000) (hn : -9223372036854775808 ≤ n ∧ n ≤ 9223372036854775807) : ∃ s ∈ l, Ev (fun k => marigraphkeep_pick.f k l n) s := by
  obtain ⟨r, hr, h2, h3, _⟩ := within_w (n := n) (lo := 0) (hi := 1048576) (by omega) (by omega) (by omega) hn
  have t1 : Int.tmod r (l.length : Int) < (l.length : Int) := Int.tmod_lt_of_pos _ (by omega)
  have t0 : 0 ≤ Int.tmod r (l.length : Int) := Int.tmod_nonneg _ h2
  refine ⟨rdOf ByteArray.empty l (Int.tmod r (l.length : Int)), ?_, ?_⟩
  · generalize Int.tmod r (l.length : Int) = t at t0 t1
    obtain ⟨j, rfl⟩ := Int.eq_ofNat_of_zero_le t0
    have hj : j < l.length := by omega
    unfold rdOf
    rw [Int.toNat_natCast, List.getD_eq_getElem?_getD, List.getElem?_eq_getElem hj]
    exact List.getElem_mem hj
  · unfold marigraphkeep_pick.f
    refine Ev.bind hr ?_
    simp only [if_neg (show ¬ (l.length : Int) = 0 by omega), if_pos t0, if_pos t1]
    exact Ev.now _
def ofKeys : List ByteArray := [(⟨#[104, 111, 115, 116]⟩ : ByteArray), (⟨#[100, 99]⟩ : ByteArray), (⟨#[105, 102]⟩ : ByteArray), (⟨#[120]⟩ : ByteArray)]
def ofValues : List ByteArray := [(⟨#[97]⟩ : ByteArray), (⟨#[98]⟩ : ByteArray), (⟨#[119, 101, 98, 49]⟩ : ByteArray), (⟨#[119, 101, 98, 50]⟩ : ByteArray), (⟨#[49]⟩ : ByteArray)]
def ofMetrics : List ByteArray := [(⟨#[99, 112, 117]⟩ : ByteArray), (⟨#[109, 101, 109]⟩ : ByteArray), (⟨#[110, 101, 116, 47, 105, 110]⟩ : ByteArray), (⟨#[97, 46, 98]⟩ : ByteArray)]
/-- One tag, or two of unlike keys; of the few names. -/
def OfTags (l : List S25) : Prop := (∃ a, l = [a] ∧ a.f0 ∈ ofKeys ∧ a.f1 ∈ ofValues) ∨ ∃ a b, l = [a, b] ∧ a.f0 ∈ ofKeys ∧ a.f1 ∈ ofValues ∧ b.f0 ∈ ofKeys ∧ b.f1 ∈ ofValues ∧ a.f0.toList ≠ b.f0.toList
theorem of_tells {p0 p1 p2 p3 p4 p6 p7 : Int} {p5 : Bool} (h0 : -9223372036854775808 ≤ p0 ∧ p0 ≤ 9223372036854775807) (h1 : -9223372036854775808 ≤ p1 ∧ p1 ≤ 9223372036854775807) (h2 : -9223372036854775808 ≤ p2 ∧ p2 ≤ 9223372036854775807) (h3 : -9223372036854775808 ≤ p3 ∧ p3 ≤ 9223372036854775807) (h4 : -9223372036854775808 ≤ p4 ∧ p4 ≤ 9223372036854775807) (h6 : -9223372036854775808 ≤ p6 ∧ p6 ≤ 9223372036854775807) (h7 : -9223372036854775808 ≤ p7 ∧ p7 ≤ 9223372036854775807) :
    ∃ met tags tm v, Ev (fun k => marigraphkeep_Of.f k p0 p1 p2 p3 p4 p5 p6 p7) (met, tags, tm, v) ∧ OfTags tags ∧ met ∈ ofMetrics ∧ 0 ≤ tm ∧ tm ≤ 9000 ∧ -2147483647 ≤ v ∧ v ≤ 2147483647 := by
  obtain ⟨met, hm, em⟩ := pick_tells ofMetrics p0 (by decide) (by decide) h0
  obtain ⟨k1, hk1, ek1⟩ := pick_tells ofKeys p1 (by decide) (by decide) h1
  obtain ⟨v1, hv1, ev1⟩ := pick_tells ofValues p2 (by decide) (by decide) h2
  obtain ⟨k2, hk2, ek2⟩ := pick_tells ofKeys p3 (by decide) (by decide) h3
  obtain ⟨v2, hv2, ev2⟩ := pick_tells ofValues p4 (by decide) (by decide) h4
  obtain ⟨tm, et, t0, t1, _⟩ := within_w (n := p6) (lo := 0) (hi := 9000) (by omega) (by omega) (by omega) h6
  obtain ⟨v, ev, g0, g1, _⟩ := within_w (n := p7) (lo := -2147483647) (hi := 2147483647) (by omega) (by omega) (by omega) h7
  have hj : ∀ b : Bool, (b = true → k1.toList ≠ k2.toList) → ∃ tags, OfTags tags ∧ Ev (fun k => marigraphkeep_Of.j0 k b p0 p1 p2 p3 p4 p5 p6 p7 met [⟨k1, v1⟩] tm v) (met, tags, tm, v) := by
    intro b hb
    cases b with
    | false =>
      refine ⟨[⟨k1, v1⟩], .inl ⟨_, rfl, hk1, hv1⟩, evDown ?_⟩
      simp only [marigraphkeep_Of.j0, Bool.false_eq_true, if_false]
      exact Ev.now _
    | true =>
      refine ⟨[⟨k1, v1⟩] ++ [⟨k2, v2⟩], .inr ⟨_, _, rfl, hk1, hv1, hk2, hv2, hb rfl⟩, evDown ?_⟩
      simp only [marigraphkeep_Of.j0, if_true]
      refine Ev.bind (a := ofKeys) (Ev.now _) (Ev.bind ek2 (Ev.bind (a := ofValues) (Ev.now _) (Ev.bind ev2 ?_)))
      simp only [List.length_singleton, if_pos (show 1 < 4398046511104 by omega)]
      exact Ev.now _
  obtain ⟨tags, ht, e⟩ : ∃ tags, OfTags tags ∧ Ev (fun k => if p5 = true then ((marigraphkeep_Keys.f).bind fun t132 => ((marigraphkeep_pick.f k t132 p1).bind fun t135 => ((marigraphkeep_Keys.f).bind fun t136 => ((marigraphkeep_pick.f k t136 p3).bind fun t139 => (marigraphkeep_Of.j0 k (t135.toList != t139.toList) p0 p1 p2 p3 p4 p5 p6 p7 met [⟨k1, v1⟩] tm v))))) else (marigraphkeep_Of.j0 k false p0 p1 p2 p3 p4 p5 p6 p7 met [⟨k1, v1⟩] tm v)) (met, tags, tm, v) := by
    by_cases h5 : p5 = true
    · obtain ⟨tags, ht, e⟩ := hj (k1.toList != k2.toList) (fun h => by simpa using h)
      refine ⟨tags, ht, ?_⟩
      simp only [if_pos h5]
      exact Ev.bind (a := ofKeys) (Ev.now _) (Ev.bind ek1 (Ev.bind (a := ofKeys) (Ev.now _) (Ev.bind ek2 e)))
    · obtain ⟨tags, ht, e⟩ := hj false (fun h => by cases h)
      refine ⟨tags, ht, ?_⟩
      simp only [if_neg h5]
      exact e
  refine ⟨met, tags, tm, v, ?_, ht, hm, t0, t1, g0, g1⟩
  unfold marigraphkeep_Of.f
  exact Ev.bind (a := ofMetrics) (Ev.now _) (Ev.bind em (Ev.bind (a := ofKeys) (Ev.now _) (Ev.bind ek1 (Ev.bind (a := ofValues) (Ev.now _) (Ev.bind ev1 (Ev.bind (a := [⟨k1, v1⟩]) (Ev.now _) (Ev.bind et (Ev.bind ev e))))))))
def raw (l : List S25) : List (List (List UInt8)) := l.map fun x => [x.f0.toList, x.f1.toList]
theorem rdT_at {l : List S25} {j : Nat} (h : j < l.length) : rd_T25 l (j : Int) = l[j] := by
  unfold rd_T25
  rw [Int.toNat_natCast, List.getD_eq_getElem?_getD, List.getElem?_eq_getElem h]
  rfl
theorem same_loop (a b : List S25) (hl : a.length = b.length) (hs : a.length < 4611686018427387904) : ∀ n j : Nat, a.length - j = n → j ≤ a.length → Ev (fun k => api_Tag_24.l0 k a b (a.length : Int) (j : Int)) (decide (raw (a.drop j) = raw (b.drop j))) := by
  intro n
  induction n with
  | zero =>
    intro j hj hle
    refine evDown ?_
    simp only [api_Tag_24.l0, if_neg (show ¬ (j : Int) < (a.length : Int) by omega)]
    rw [List.drop_of_length_le (show a.length ≤ j by omega), List.drop_of_length_le (show b.length ≤ j by omega), decide_eq_true rfl]
    exact Ev.now _
  | succ n ih =>
    intro j hj hle
    have hlt : j < a.length := by omega
    have hlt2 : j < b.length := by omega
    refine evDown ?_
    simp only [api_Tag_24.l0, if_pos (show (j : Int) < (a.length : Int) by omega), if_pos (show (j : Int) < (b.length : Int) by omega), if_pos (show 0 ≤ (j : Int) by omega), rdT_at hlt, rdT_at hlt2]
    rw [List.drop_eq_getElem_cons hlt, List.drop_eq_getElem_cons hlt2]
    by_cases h : (a[j].f0.toList = b[j].f0.toList) ∧ (a[j].f1.toList = b[j].f1.toList)
    · rw [h.1, h.2]
      simp only [beq_self_eq_true, Bool.not_true, Bool.or_self, Bool.false_eq_true, if_false, w1 (show j < 4611686018427387904 by omega)]
      have e : decide (raw (a[j] :: a.drop (j + 1)) = raw (b[j] :: b.drop (j + 1))) = decide (raw (a.drop (j + 1)) = raw (b.drop (j + 1))) := by
        rw [decide_eq_decide]
        simp only [raw, List.map_cons, h.1, h.2, List.cons.injEq, true_and]
      rw [e]
      exact ih (j + 1) (by omega) (by omega)
    · have e : decide (raw (a[j] :: a.drop (j + 1)) = raw (b[j] :: b.drop (j + 1))) = false := decide_eq_false (fun hq => h (by
        simp only [raw, List.map_cons, List.cons.injEq, and_true] at hq
        exact hq.1))
      have e2 : (!(a[j].f0.toList == b[j].f0.toList) || !(a[j].f1.toList == b[j].f1.toList)) = true := by
        cases h1 : (a[j].f0.toList == b[j].f0.toList) with
        | false => rfl
        | true =>
          cases h2 : (a[j].f1.toList == b[j].f1.toList) with
          | false => rfl
          | true => exact absurd ⟨beq_iff_eq.mp h1, beq_iff_eq.mp h2⟩ h
      rw [e]
      simp only [e2, if_true]
      exact Ev.now _
theorem same_tells (a b : List S25) (hs : a.length < 4611686018427387904) : Ev (fun k => name_Same.f k a b) (decide (raw a = raw b)) := by
  unfold name_Same.f
  refine Ev.bind (a := decide (raw a = raw b)) ?_ (Ev.now _)
  unfold api_Tag_24.f
  by_cases hl : a.length = b.length
  · simp only [if_pos (show (a.length : Int) = (b.length : Int) by omega)]
    exact same_loop a b hl hs a.length 0 (by omega) (by omega)
  · simp only [if_neg (show ¬ (a.length : Int) = (b.length : Int) by omega)]
    rw [decide_eq_false (fun h => hl (by have := congrArg List.length h; simpa [raw] using this))]
    exact Ev.now _
/-! ### names by the document's own looks -/
theorem rdTb_at {l : List S25} {j : Nat} (h : j < l.length) : rd_T25 l (j : Int) = l[j] := by
  unfold rd_T25
  rw [Int.toNat_natCast, List.getD_eq_getElem?_getD, List.getElem?_eq_getElem h]
  rfl
theorem sign_iff (b : Int) : signI b = true ↔ (97 ≤ b ∧ b ≤ 122) ∨ (65 ≤ b ∧ b ≤ 90) ∨ (48 ≤ b ∧ b ≤ 57) ∨ b = 45 ∨ b = 95 ∨ b = 46 ∨ b = 47 := by
  unfold signI name_sign.f
  repeat' split
  all_goals (simp only [Option.getD_some, true_iff, beq_iff_eq]; omega)
def sgFrom (s : ByteArray) : Nat → Nat → Bool
  | 0, _ => true
  | n + 1, j => signI (bt s (j : Int)) && sgFrom s n (j + 1)
theorem nm_sg (s : ByteArray) : ∀ n j, nmFrom s n j = (sgFrom s n j && decide (0 < s.size ∧ s.size ≤ 32))
  | 0, _ => by simp [nmFrom, sgFrom]
  | n + 1, j => by rw [nmFrom, sgFrom, nm_sg s n (j + 1), Bool.and_assoc]
set_option maxHeartbeats 4000000 in
theorem rref_loop (s : ByteArray) (hs : s.size < 4611686018427387904) : ∀ n j : Nat, s.size - j = n → j ≤ s.size → Ev (fun k => marigraphref12_Right.l0 k s (j : Int)) (sgFrom s n j) := by
  intro n
  induction n with
  | zero =>
    intro j hj hle
    refine evDown ?_
    simp only [marigraphref12_Right.l0, if_neg (show ¬ (j : Int) < (s.size : Int) by omega)]
    exact Ev.now _
  | succ n ih =>
    intro j hj hle
    refine evDown ?_
    simp only [marigraphref12_Right.l0, if_pos (show (j : Int) < (s.size : Int) by omega), if_pos (show 0 ≤ (j : Int) by omega), w1 (show j < 4611686018427387904 by omega)]
    have hI := sign_iff (bt s (j : Int))
    have hn := ih (j + 1) (by omega) (by omega)
    unfold sgFrom
    generalize bt s (j : Int) = b at hI ⊢
    by_cases h : signI b = true
    · have hc := hI.1 h
      rw [h, Bool.true_and]
      clear hI h
      repeat' split
      all_goals first
        | exact hn
        | (exfalso; omega)
    · have hc : ¬ ((97 ≤ b ∧ b ≤ 122) ∨ (65 ≤ b ∧ b ≤ 90) ∨ (48 ≤ b ∧ b ≤ 57) ∨ b = 45 ∨ b = 95 ∨ b = 46 ∨ b = 47) := fun hq => h (hI.2 hq)
      rw [Bool.not_eq_true] at h
      rw [h, Bool.false_and]
      clear hI h hn
      repeat' split
      all_goals first
        | exact Ev.now _
        | (exfalso; omega)
theorem rref_tells {s : ByteArray} (hs : s.size < 4611686018427387904) : Ev (fun k => marigraphref12_Right.f k s) (nameB s) := by
  unfold nameB
  rw [nm_sg]
  unfold marigraphref12_Right.f
  by_cases h1 : (s.size : Int) < 1
  · simp only [if_pos h1]
    refine evDown ?_
    simp only [marigraphref12_Right.j0, if_true]
    rw [decide_eq_false (show ¬ (0 < s.size ∧ s.size ≤ 32) by omega), Bool.and_false]
    exact Ev.now _
  · simp only [if_neg h1]
    refine evDown ?_
    simp only [marigraphref12_Right.j0, decide_eq_true_eq]
    by_cases h2 : (s.size : Int) > 32
    · simp only [if_pos h2]
      rw [decide_eq_false (show ¬ (0 < s.size ∧ s.size ≤ 32) by omega), Bool.and_false]
      exact Ev.now _
    · simp only [if_neg h2]
      rw [decide_eq_true (show (0 < s.size ∧ s.size ≤ 32) by omega), Bool.and_true]
      exact rref_loop s hs s.size 0 rfl (Nat.zero_le _)
/-! ### texts in order -/
theorem less_irr : ∀ a : List UInt8, Op.bytesLess a a = false
  | [] => rfl
  | x :: a => by simp [Op.bytesLess, less_irr a]
theorem less_trans : ∀ {a b c : List UInt8}, Op.bytesLess a b = true → Op.bytesLess b c = true → Op.bytesLess a c = true
  | _, [], _, h, _ => by cases ‹List UInt8› <;> simp [Op.bytesLess] at h
  | _, _ :: _, [], _, h => by simp [Op.bytesLess] at h
  | [], _ :: _, _ :: _, _, _ => by simp [Op.bytesLess]
  | x :: a, y :: b, z :: c, h, g => by
    simp only [Op.bytesLess, Bool.or_eq_true, Bool.and_eq_true, decide_eq_true_eq, beq_iff_eq] at h g ⊢
    rcases h with h | ⟨rfl, h⟩
    · rcases g with g | ⟨rfl, g⟩
      · exact .inl (UInt8.lt_trans h g)
      · exact .inl h
    · rcases g with g | ⟨rfl, g⟩
      · exact .inl g
      · exact .inr ⟨rfl, less_trans h g⟩
theorem less_total : ∀ {a b : List UInt8}, Op.bytesLess a b = false → Op.bytesLess b a = false → a = b
  | [], [], _, _ => rfl
  | [], _ :: _, h, _ => by simp [Op.bytesLess] at h
  | _ :: _, [], _, h => by simp [Op.bytesLess] at h
  | x :: a, y :: b, h, g => by
    simp only [Op.bytesLess, Bool.or_eq_false_iff, Bool.and_eq_false_iff, decide_eq_false_iff_not, beq_eq_false_iff_ne] at h g
    have e : x = y := UInt8.le_antisymm (UInt8.not_lt.1 g.1) (UInt8.not_lt.1 h.1)
    subst e
    rw [less_total (a := a) (b := b) (by simpa using h.2) (by simpa using g.2)]
/-! ### the sort and the document's insertion, as functions that see the order of the keys alone -/
def Pres (D : List S25) (f : S25 → S25) : Prop := ∀ x ∈ D, ∀ y ∈ D, Op.bytesLess (f x).f0.toList (f y).f0.toList = Op.bytesLess x.f0.toList y.f0.toList ∧ ((f x).f0.toList = (f y).f0.toList ↔ x.f0.toList = y.f0.toList)
theorem cmp_pres {D : List S25} {f : S25 → S25} (hf : Pres D f) {x y : S25} (hx : x ∈ D) (hy : y ∈ D) : name_Tags_1.f (f x).f0 (f x).f1 (f y).f0 (f y).f1 = name_Tags_1.f x.f0 x.f1 y.f0 y.f1 := by
  have e1 := (hf x hx y hy).1
  have e2 := (hf y hy x hx).1
  have nn : ∀ s : ByteArray, (s.toList != s.toList) = false := fun s => by simp
  simp only [name_Tags_1.f, cmp_Compare_string.f, cmp_isNaN_string.f, nn, e1, e2]
theorem rdT_mem {l : List S25} {i : Int} (h0 : 0 ≤ i) (h1 : i < l.length) : rd_T25 l i ∈ l := by
  obtain ⟨n, rfl⟩ := Int.eq_ofNat_of_zero_le h0
  have hn : n < l.length := by omega
  rw [rdTb_at hn]
  exact List.getElem_mem hn
theorem rdTb_map (f : S25 → S25) (l : List S25) {i : Int} (h0 : 0 ≤ i) (h1 : i < l.length) : rd_T25 (l.map f) i = f (rd_T25 l i) := by
  obtain ⟨n, rfl⟩ := Int.eq_ofNat_of_zero_le h0
  have hn : n < l.length := by omega
  rw [rdTb_at hn, rdTb_at (show n < (l.map f).length by rw [List.length_map]; exact hn), List.getElem_map]
theorem set_sub {D l : List S25} {x : S25} (i : Nat) (h : ∀ z ∈ l, z ∈ D) (hx : x ∈ D) : ∀ z ∈ l.set i x, z ∈ D := fun z hz => by
  rcases List.mem_or_eq_of_mem_set hz with h1 | rfl
  · exact h z h1
  · exact hx
theorem sort_pres {D : List S25} {f : S25 → S25} (hf : Pres D f) : ∀ k, (∀ l x1 x2 x8, (∀ z ∈ l, z ∈ D) → api_Tag_35_of_name_Tags_1.l0 k (l.map f) x1 x2 x8 = (api_Tag_35_of_name_Tags_1.l0 k l x1 x2 x8).map (List.map f) ∧ ∀ r, api_Tag_35_of_name_Tags_1.l0 k l x1 x2 x8 = some r → ∀ z ∈ r, z ∈ D) ∧ (∀ l x1 x2 x8 x9, (∀ z ∈ l, z ∈ D) → api_Tag_35_of_name_Tags_1.l1 k (l.map f) x1 x2 x8 x9 = (api_Tag_35_of_name_Tags_1.l1 k l x1 x2 x8 x9).map (List.map f) ∧ ∀ r, api_Tag_35_of_name_Tags_1.l1 k l x1 x2 x8 x9 = some r → ∀ z ∈ r, z ∈ D) := by
  intro k
  induction k with
  | zero => exact ⟨fun _ _ _ _ _ => ⟨rfl, fun _ h => by cases h⟩, fun _ _ _ _ _ _ => ⟨rfl, fun _ h => by cases h⟩⟩
  | succ k ih =>
    refine ⟨fun l x1 x2 x8 hl => ?_, fun l x1 x2 x8 x9 hl => ?_⟩
    · simp only [api_Tag_35_of_name_Tags_1.l0]
      split
      · exact ih.2 _ _ _ _ _ hl
      · exact ⟨rfl, fun r hr => by obtain rfl := Option.some.inj hr; exact hl⟩
    · simp only [api_Tag_35_of_name_Tags_1.l1, List.length_map]
      by_cases h1 : x9 > x1
      · simp only [if_pos h1]
        by_cases h2 : 0 ≤ x9
        · simp only [if_pos h2]
          by_cases h3 : x9 < (l.length : Int)
          · simp only [if_pos h3]
            by_cases h4 : 0 ≤ wrap64 (x9 - 1)
            · simp only [if_pos h4]
              by_cases h5 : wrap64 (x9 - 1) < (l.length : Int)
              · simp only [if_pos h5, rdTb_map f l h2 h3, rdTb_map f l h4 h5]
                rw [cmp_pres hf (hl _ (rdT_mem h2 h3)) (hl _ (rdT_mem h4 h5))]
                cases name_Tags_1.f (rd_T25 l x9).f0 (rd_T25 l x9).f1 (rd_T25 l (wrap64 (x9 - 1))).f0 (rd_T25 l (wrap64 (x9 - 1))).f1 with
                | none => exact ⟨rfl, fun _ h => by cases h⟩
                | some t =>
                  simp only [Option.bind_some]
                  by_cases h6 : t < 0
                  · simp only [if_pos h6]
                    have := ih.2 ((l.set x9.toNat (rd_T25 l (wrap64 (x9 - 1)))).set (wrap64 (x9 - 1)).toNat (rd_T25 l x9)) x1 x2 x8 (wrap64 (x9 - 1)) (set_sub _ (set_sub _ hl (hl _ (rdT_mem h4 h5))) (hl _ (rdT_mem h2 h3)))
                    rw [List.map_set, List.map_set] at this
                    exact this
                  · simp only [if_neg h6]
                    exact ih.1 _ _ _ _ hl
              · simp only [if_neg h5]; exact ⟨rfl, fun _ h => by cases h⟩
            · simp only [if_neg h4]; exact ⟨rfl, fun _ h => by cases h⟩
          · simp only [if_neg h3]; exact ⟨rfl, fun _ h => by cases h⟩
        · simp only [if_neg h2]; exact ⟨rfl, fun _ h => by cases h⟩
      · simp only [if_neg h1]
        exact ih.1 _ _ _ _ hl
def mapT (f : S25 → S25) (p : List S25 × Int) : List S25 × Int := (p.1.map f, p.2)
theorem dup_pres {D : List S25} {f : S25 → S25} (hf : Pres D f) : ∀ k l x7, (∀ z ∈ l, z ∈ D) → name_Tags.l1 k (l.map f) x7 = (name_Tags.l1 k l x7).map (mapT f) := by
  intro k
  induction k with
  | zero => intro _ _ _; rfl
  | succ k ih =>
    intro l x7 hl
    simp only [name_Tags.l1, List.length_map]
    by_cases h1 : x7 < (l.length : Int)
    · simp only [if_pos h1]
      by_cases h2 : 0 ≤ x7
      · simp only [if_pos h2]
        by_cases h4 : 0 ≤ wrap64 (x7 - 1)
        · simp only [if_pos h4]
          by_cases h5 : wrap64 (x7 - 1) < (l.length : Int)
          · simp only [if_pos h5, rdTb_map f l h2 h1, rdTb_map f l h4 h5, (hf _ (hl _ (rdT_mem h2 h1)) _ (hl _ (rdT_mem h4 h5))).2]
            split
            · rfl
            · exact ih _ _ hl
          · simp only [if_neg h5]; rfl
        · simp only [if_neg h4]; rfl
      · simp only [if_neg h2]; rfl
    · simp only [if_neg h1]; rfl
/-- Tags, behind the look at the names. -/
def coreT (k : Nat) (l : List S25) : Option (List S25 × Int) := (api_Tag_25.f l).bind fun t => (api_Tag_26_of_name_Tags_1.f k t).bind fun t2 => name_Tags.l1 k t2 1
theorem core_pres {l : List S25} {f : S25 → S25} (hf : Pres l f) (k : Nat) : coreT k (l.map f) = (coreT k l).map (mapT f) := by
  have hs := (sort_pres hf k).1 l 0 (l.length : Int) (wrap64 (0 + 1)) (fun _ h => h)
  unfold coreT api_Tag_25.f
  rw [List.length_map]
  by_cases h : l.length < 4398046511104
  · simp only [if_pos h, Option.bind_some, api_Tag_26_of_name_Tags_1.f, api_Tag_30_of_name_Tags_1.f, api_Tag_35_of_name_Tags_1.f, List.length_map, hs.1]
    by_cases h2 : (l.length : Int) < 20
    · simp only [if_pos h2]
      cases hq : api_Tag_35_of_name_Tags_1.l0 k l 0 (l.length : Int) (wrap64 (0 + 1)) with
      | none => rfl
      | some t => exact dup_pres hf k t 1 (hs.2 t hq)
    · simp only [if_neg h2]; rfl
  · simp only [if_neg h]; rfl
theorem evMonoT {α : Type} {g : Nat → Option α} (hm : ∀ k, LeO (g k) (g (k + 1))) {K : Nat} {r : α} (h : g K = some r) : Ev g r := by
  refine ⟨K, fun k hk => ?_⟩
  induction k with
  | zero =>
    obtain rfl : K = 0 := by omega
    exact h
  | succ n ih =>
    rcases Nat.lt_or_ge n K with h1 | h1
    · obtain rfl : K = n + 1 := by omega
      exact h
    · exact hm n r (ih h1)
theorem coreT_ev {l : List S25} {r : List S25 × Int} (h : coreT 60 l = some r) : Ev (fun k => coreT k l) r := by
  refine evMonoT (fun k => ?_) h
  unfold coreT
  exact LeO.bind (LeO.refl _) (fun t => LeO.bind (api_Tag_26_of_name_Tags_1.mono _ _) (fun t2 => (name_Tags.mono_l k).2.2 _ _))
theorem pos_pres {D : List S25} {f : S25 → S25} (hf : Pres D f) {x : S25} (hx : x ∈ D) {out : List S25} (ho : ∀ z ∈ out, z ∈ D) : ∀ n, n ≤ out.length → refPos (f x).f0 (out.map f) n = refPos x.f0 out n := by
  intro n
  induction n with
  | zero => intro _; rfl
  | succ n ih =>
    intro hn
    have hm := hf _ (ho _ (rdT_mem (l := out) (i := (n : Int)) (by omega) (by omega))) _ hx
    simp only [refPos, rdTb_map f out (i := (n : Int)) (by omega) (by omega), hm.1, hm.2, ih (by omega)]
theorem ins_pres {D : List S25} {f : S25 → S25} (hf : Pres D f) : ∀ (l out : List S25), (∀ z ∈ l, z ∈ D) → (∀ z ∈ out, z ∈ D) → refIns (out.map f) (l.map f) = (refIns out l).map (List.map f)
  | [], out, _, _ => rfl
  | x :: r, out, hl, ho => by
    have hx := hl x (List.mem_cons_self ..)
    simp only [List.map_cons, refIns, List.length_map, pos_pres hf hx ho _ (Nat.le_refl _)]
    cases refPos x.f0 out out.length with
    | none => rfl
    | some n =>
      have := ins_pres hf r (out.take n ++ [x] ++ out.drop n) (fun z hz => hl z (List.mem_cons_of_mem _ hz)) (fun z hz => by
        simp only [List.mem_append, List.mem_singleton] at hz
        rcases hz with (hz | rfl) | hz
        · exact ho z (List.mem_of_mem_take hz)
        · exact hx
        · exact ho z (List.mem_of_mem_drop hz))
      simp only [List.map_append, List.map_take, List.map_drop, List.map_cons, List.map_nil] at this
      exact this
theorem ins_all : ∀ (l out o : List S25), refIns out l = some o → o.length = out.length + l.length ∧ ∀ z ∈ o, z ∈ out ∨ z ∈ l
  | [], out, o, h => by
    obtain rfl := Option.some.inj h
    exact ⟨rfl, fun z hz => .inl hz⟩
  | x :: r, out, o, h => by
    simp only [refIns] at h
    cases hp : refPos x.f0 out out.length with
    | none => rw [hp] at h; cases h
    | some n =>
      rw [hp] at h
      obtain ⟨h1, h2⟩ := ins_all r _ o h
      have hln : (out.take n).length + (out.drop n).length = out.length := by rw [← List.length_append, List.take_append_drop]
      refine ⟨by simp only [List.length_append, List.length_cons, List.length_nil] at h1 ⊢; omega, fun z hz => ?_⟩
      rcases h2 z hz with h3 | h3
      · simp only [List.mem_append, List.mem_singleton] at h3
        rcases h3 with (h3 | rfl) | h3
        · exact .inl (List.mem_of_mem_take h3)
        · exact .inr (List.mem_cons_self ..)
        · exact .inl (List.mem_of_mem_drop h3)
      · exact .inr (List.mem_cons_of_mem _ h3)
/-! ### ranks -/
def cnt (l : List S25) (s : ByteArray) : Nat := (l.filter fun y => Op.bytesLess y.f0.toList s.toList).length
theorem filter_lt {α : Type} {p q : α → Bool} {x : α} : ∀ {l : List α}, (∀ z, p z = true → q z = true) → x ∈ l → p x = false → q x = true → (l.filter p).length < (l.filter q).length
  | [], _, h, _, _ => by cases h
  | y :: l, hpq, h, h1, h2 => by
    have hle : (l.filter p).length ≤ (l.filter q).length := by
      clear h
      induction l with
      | nil => exact Nat.le_refl _
      | cons z l ih =>
        by_cases hz : p z = true
        · rw [List.filter_cons_of_pos hz, List.filter_cons_of_pos (hpq z hz)]
          exact Nat.succ_le_succ ih
        · rw [List.filter_cons_of_neg hz]
          by_cases hq : q z = true
          · rw [List.filter_cons_of_pos hq]; exact Nat.le_succ_of_le ih
          · rw [List.filter_cons_of_neg hq]; exact ih
    by_cases hy : p y = true
    · have hxl : x ∈ l := by
        rcases List.mem_cons.1 h with rfl | h
        · rw [h1] at hy; cases hy
        · exact h
      rw [List.filter_cons_of_pos hy, List.filter_cons_of_pos (hpq y hy)]
      exact Nat.succ_lt_succ (filter_lt hpq hxl h1 h2)
    · rw [List.filter_cons_of_neg hy]
      rcases List.mem_cons.1 h with rfl | h
      · rw [List.filter_cons_of_pos h2]
        exact Nat.lt_succ_of_le hle
      · by_cases hq : q y = true
        · rw [List.filter_cons_of_pos hq]
          exact Nat.lt_succ_of_lt (filter_lt hpq h h1 h2)
        · rw [List.filter_cons_of_neg hq]
          exact filter_lt hpq h h1 h2
theorem cnt_lt {l : List S25} {x : S25} (hx : x ∈ l) : cnt l x.f0 < l.length := by
  have := filter_lt (p := fun y : S25 => Op.bytesLess y.f0.toList x.f0.toList) (q := fun _ => true) (fun _ _ => rfl) hx (less_irr _) rfl
  rwa [List.filter_eq_self.2 (fun _ _ => rfl)] at this
theorem cnt_mono {l : List S25} {x : S25} {s : ByteArray} (hx : x ∈ l) (h : Op.bytesLess x.f0.toList s.toList = true) : cnt l x.f0 < cnt l s :=
  filter_lt (fun _ hz => less_trans hz h) hx (less_irr _) h
def rks : List ByteArray := [⟨#[0]⟩, ⟨#[1]⟩, ⟨#[2]⟩, ⟨#[3]⟩]
def rkOf (n : Nat) : ByteArray := rks.getD n ⟨#[]⟩
theorem rk_mem {n : Nat} (h : n < 4) : rkOf n ∈ rks := by
  match n, h with
  | 0, _ => simp [rkOf, rks]
  | 1, _ => simp [rkOf, rks]
  | 2, _ => simp [rkOf, rks]
  | 3, _ => simp [rkOf, rks]
theorem rk_less : ∀ m < 4, ∀ n < 4, Op.bytesLess (rkOf m).toList (rkOf n).toList = decide (m < n) ∧ ((rkOf m).toList = (rkOf n).toList ↔ m = n) := by decide +kernel
def nthT (i : Nat) : ByteArray := ⟨(List.replicate i 0).toArray⟩
def placesT : List ByteArray → Nat → List S25
  | [], _ => []
  | k :: r, i => ⟨k, nthT i⟩ :: placesT r (i + 1)
def plT (l : List S25) : List (List UInt8 × List UInt8) := l.map fun x => (x.f0.data.toList, x.f1.data.toList)
theorem plT_inj : ∀ {a b : List S25}, plT a = plT b → a = b
  | [], [], _ => rfl
  | [], _ :: _, h => by simp [plT] at h
  | _ :: _, [], h => by simp [plT] at h
  | ⟨⟨⟨x⟩⟩, ⟨⟨y⟩⟩⟩ :: a, ⟨⟨⟨u⟩⟩, ⟨⟨v⟩⟩⟩ :: b, h => by
    simp only [plT, List.map_cons, List.cons.injEq, Prod.mk.injEq] at h
    obtain ⟨⟨rfl, rfl⟩, h2⟩ := h
    rw [plT_inj (a := a) (b := b) h2]
def likeT (ks : List ByteArray) : Bool := match coreT 60 (placesT ks 0) with
  | some (a, e) => e == (refRes (refIns [] (placesT ks 0))).2 && plT a == plT (refRes (refIns [] (placesT ks 0))).1
  | none => false
theorem like1 : ∀ k1 ∈ rks, likeT [k1] = true := by decide +kernel
theorem like2 : ∀ k1 ∈ rks, ∀ k2 ∈ rks, likeT [k1, k2] = true := by decide +kernel
theorem like3 : ∀ k1 ∈ rks, ∀ k2 ∈ rks, ∀ k3 ∈ rks, likeT [k1, k2, k3] = true := by decide +kernel
theorem like4 : ∀ k1 ∈ rks, ∀ k2 ∈ rks, ∀ k3 ∈ rks, ∀ k4 ∈ rks, likeT [k1, k2, k3, k4] = true := by decide +kernel
def ranks (l : List S25) : List ByteArray := l.map fun x => rkOf (cnt l x.f0)
theorem like_ranks {l : List S25} (h1 : 1 ≤ l.length) (h4 : l.length ≤ 4) : likeT (ranks l) = true := by
  have hm : ∀ x ∈ l, rkOf (cnt l x.f0) ∈ rks := fun x hx => rk_mem (by have := cnt_lt hx; omega)
  unfold ranks
  generalize hg : (fun x : S25 => rkOf (cnt l x.f0)) = g
  replace hm : ∀ x ∈ l, g x ∈ rks := by rw [← hg]; exact hm
  clear hg
  match l, h1, h4 with
  | [a], _, _ => exact like1 _ (hm a (by simp))
  | [a, b], _, _ => exact like2 _ (hm a (by simp)) _ (hm b (by simp))
  | [a, b, c], _, _ => exact like3 _ (hm a (by simp)) _ (hm b (by simp)) _ (hm c (by simp))
  | [a, b, c, d], _, _ => exact like4 _ (hm a (by simp)) _ (hm b (by simp)) _ (hm c (by simp)) _ (hm d (by simp))
  | _ :: _ :: _ :: _ :: _ :: _, _, h => exact absurd h (by simp)
def giveT (l : List S25) (x : S25) : S25 := l.getD x.f1.data.toList.length z25
theorem places_giveT {l : List S25} (h1 : 1 ≤ l.length) (h4 : l.length ≤ 4) (ks : List ByteArray) (hk : ks.length = l.length) : (placesT ks 0).map (giveT l) = l := by
  match l, ks, h1, h4, hk with
  | [a], [_], _, _, _ => rfl
  | [a, b], [_, _], _, _, _ => rfl
  | [a, b, c], [_, _, _], _, _, _ => rfl
  | [a, b, c, d], [_, _, _, _], _, _, _ => rfl
  | _ :: _ :: _ :: _ :: _ :: _, _, _, h, _ => exact absurd h (by simp)
theorem places_mem {l : List S25} (h4 : l.length ≤ 4) (g : S25 → ByteArray) : ∀ x ∈ placesT (l.map g) 0, giveT l x ∈ l ∧ x.f0 = g (giveT l x) := by
  match l, h4 with
  | [], _ => intro x hx; cases hx
  | [a], _ => intro x hx; simp only [List.map, placesT, List.mem_cons, List.not_mem_nil, or_false] at hx; rcases hx with rfl; exact ⟨List.mem_cons_self .., rfl⟩
  | [a, b], _ =>
    intro x hx; simp only [List.map, placesT, List.mem_cons, List.not_mem_nil, or_false] at hx
    rcases hx with rfl | rfl
    · exact ⟨List.mem_cons_self .., rfl⟩
    · exact ⟨List.mem_cons_of_mem _ (List.mem_cons_self ..), rfl⟩
  | [a, b, c], _ =>
    intro x hx; simp only [List.map, placesT, List.mem_cons, List.not_mem_nil, or_false] at hx
    rcases hx with rfl | rfl | rfl
    · exact ⟨List.mem_cons_self .., rfl⟩
    · exact ⟨List.mem_cons_of_mem _ (List.mem_cons_self ..), rfl⟩
    · exact ⟨List.mem_cons_of_mem _ (List.mem_cons_of_mem _ (List.mem_cons_self ..)), rfl⟩
  | [a, b, c, d], _ =>
    intro x hx; simp only [List.map, placesT, List.mem_cons, List.not_mem_nil, or_false] at hx
    rcases hx with rfl | rfl | rfl | rfl
    · exact ⟨List.mem_cons_self .., rfl⟩
    · exact ⟨List.mem_cons_of_mem _ (List.mem_cons_self ..), rfl⟩
    · exact ⟨List.mem_cons_of_mem _ (List.mem_cons_of_mem _ (List.mem_cons_self ..)), rfl⟩
    · exact ⟨List.mem_cons_of_mem _ (List.mem_cons_of_mem _ (List.mem_cons_of_mem _ (List.mem_cons_self ..))), rfl⟩
  | _ :: _ :: _ :: _ :: _ :: _, h => exact absurd h (by simp)
theorem ranks_pres {l : List S25} (h4 : l.length ≤ 4) : Pres (placesT (ranks l) 0) (giveT l) := by
  intro x hx y hy
  obtain ⟨m1, e1⟩ := places_mem h4 _ x hx
  obtain ⟨m2, e2⟩ := places_mem h4 _ y hy
  have b1 := cnt_lt m1
  have b2 := cnt_lt m2
  have e1 : x.f0 = rkOf (cnt l (giveT l x).f0) := e1
  have e2 : y.f0 = rkOf (cnt l (giveT l y).f0) := e2
  rw [e1, e2]
  generalize giveT l x = u at *
  generalize giveT l y = v at *
  obtain ⟨r1, r2⟩ := rk_less _ (show cnt l u.f0 < 4 by omega) _ (show cnt l v.f0 < 4 by omega)
  rw [r1, r2]
  cases h : Op.bytesLess u.f0.toList v.f0.toList with
  | true =>
    have := cnt_mono m1 h
    refine ⟨(decide_eq_true this).symm, ⟨fun hq => ?_, fun hq => ?_⟩⟩
    · rw [hq, less_irr] at h; cases h
    · omega
  | false =>
    cases g : Op.bytesLess v.f0.toList u.f0.toList with
    | true =>
      have := cnt_mono m2 g
      refine ⟨(decide_eq_false (by omega)).symm, ⟨fun hq => ?_, fun hq => ?_⟩⟩
      · rw [hq, less_irr] at g; cases g
      · omega
    | false =>
      have e := less_total h g
      have ec : cnt l u.f0 = cnt l v.f0 := by unfold cnt; rw [e]
      exact ⟨(decide_eq_false (by omega)).symm, ⟨fun _ => ec, fun _ => e⟩⟩
/-- The sort and the look for like keys tell what the document's insertion tells. -/
theorem core_like {l : List S25} (h1 : 1 ≤ l.length) (h4 : l.length ≤ 4) : coreT 60 l = some (refRes (refIns [] l)) := by
  have hb := like_ranks h1 h4
  have hp := ranks_pres h4
  have hg := places_giveT h1 h4 (ranks l) (by unfold ranks; rw [List.length_map])
  have c1 := core_pres hp 60
  have c2 := ins_pres hp (placesT (ranks l) 0) [] (fun _ h => h) (fun _ h => by cases h)
  rw [hg] at c1
  rw [hg, List.map_nil] at c2
  unfold likeT at hb
  cases hA : coreT 60 (placesT (ranks l) 0) with
  | none => simp [hA] at hb
  | some p =>
    obtain ⟨a, e⟩ := p
    simp only [hA, Bool.and_eq_true, beq_iff_eq] at hb
    obtain ⟨rfl, hq⟩ := hb
    obtain rfl := plT_inj hq
    rw [c1, hA, c2]
    cases refIns [] (placesT (ranks l) 0) with
    | none => rfl
    | some o => rfl
/-! ### names, as both look at them -/
def namesOk (l : List S25) : Bool := l.all fun x => nameB x.f0 && nameB x.f1
/-- At most seven tags, none of them longer than a reading of small bulk. -/
def SmT (l : List S25) : Prop := l.length ≤ 7 ∧ ∀ x ∈ l, x.f0.size ≤ 1048576 ∧ x.f1.size ≤ 1048576
theorem namesT_loop (l : List S25) (hl : SmT l) {r : List S25 × Int} (hc : Ev (fun k => coreT k l) r) : ∀ n j : Nat, l.length - j = n → j ≤ l.length → Ev (fun k => name_Tags.l0 k l l (l.length : Int) (j : Int)) (if namesOk (l.drop j) = true then r else ([], 26)) := by
  intro n
  induction n with
  | zero =>
    intro j hj hle
    refine evDown ?_
    simp only [name_Tags.l0, if_neg (show ¬ (j : Int) < (l.length : Int) by omega)]
    rw [List.drop_of_length_le (show l.length ≤ j by omega), if_pos (show namesOk [] = true from rfl)]
    exact hc
  | succ n ih =>
    intro j hj hle
    have hlt : j < l.length := by omega
    obtain ⟨h0, h1⟩ := hl.2 _ (List.getElem_mem hlt)
    have h7 := hl.1
    refine evDown ?_
    simp only [name_Tags.l0, if_pos (show (j : Int) < (l.length : Int) by omega), if_pos (show 0 ≤ (j : Int) by omega), rdTb_at hlt]
    rw [List.drop_eq_getElem_cons hlt, show namesOk (l[j] :: l.drop (j + 1)) = ((nameB l[j].f0 && nameB l[j].f1) && namesOk (l.drop (j + 1))) from rfl]
    refine Ev.bind (name_tells (by omega)) ?_
    by_cases ha : nameB l[j].f0 = true
    · simp only [ha, if_true, Bool.true_and]
      refine Ev.bind (name_tells (by omega)) ?_
      by_cases hb : nameB l[j].f1 = true
      · simp only [hb, if_true, Bool.true_and, w1 (show j < 4611686018427387904 by omega)]
        exact ih (j + 1) (by omega) (by omega)
      · rw [Bool.not_eq_true] at hb
        simp only [hb, Bool.false_and, Bool.false_eq_true, if_false]
        exact Ev.now _
    · rw [Bool.not_eq_true] at ha
      simp only [ha, Bool.false_and, Bool.false_eq_true, if_false]
      exact Ev.now _
theorem refNames_tells : ∀ (l : List S25), (∀ x ∈ l, x.f0.size ≤ 1048576 ∧ x.f1.size ≤ 1048576) → Ev (fun k => refNames k l) (namesOk l)
  | [], _ => Ev.now _
  | x :: r, hl => by
    obtain ⟨h0, h1⟩ := hl x (List.mem_cons_self ..)
    have ih := refNames_tells r (fun y hy => hl y (List.mem_cons_of_mem _ hy))
    unfold refNames
    rw [show namesOk (x :: r) = ((nameB x.f0 && nameB x.f1) && namesOk r) from rfl]
    refine Ev.bind (rref_tells (by omega)) ?_
    by_cases ha : nameB x.f0 = true
    · simp only [ha, if_true, Bool.true_and]
      refine Ev.bind (rref_tells (by omega)) ?_
      by_cases hb : nameB x.f1 = true
      · simp only [hb, if_true, Bool.true_and]
        exact ih
      · rw [Bool.not_eq_true] at hb
        simp only [hb, Bool.false_and, Bool.false_eq_true, if_false]
        exact Ev.now _
    · rw [Bool.not_eq_true] at ha
      simp only [ha, Bool.false_and, Bool.false_eq_true, if_false]
      exact Ev.now _
/-- What tags are told to be. -/
def tagsT (l : List S25) : List S25 × Int := if l.length < 1 ∨ 4 < l.length then ([], 1) else if namesOk l = true then refRes (refIns [] l) else ([], 26)
theorem tags_mine {l : List S25} (hl : SmT l) : Ev (fun k => name_Tags.f k l) (tagsT l) := by
  unfold name_Tags.f tagsT
  by_cases h1 : (l.length : Int) < 1
  · simp only [if_pos h1]
    rw [if_pos (show l.length < 1 ∨ 4 < l.length by omega)]
    refine evDown ?_
    simp only [name_Tags.j0, if_true]
    exact Ev.now _
  · simp only [if_neg h1]
    by_cases h4 : (l.length : Int) > 4
    · rw [decide_eq_true h4, if_pos (show l.length < 1 ∨ 4 < l.length by omega)]
      refine evDown ?_
      simp only [name_Tags.j0, if_true]
      exact Ev.now _
    · rw [decide_eq_false h4, if_neg (show ¬ (l.length < 1 ∨ 4 < l.length) by omega)]
      refine evDown ?_
      simp only [name_Tags.j0, Bool.false_eq_true, if_false]
      have := namesT_loop l hl (coreT_ev (core_like (l := l) (by omega) (by omega))) l.length 0 rfl (Nat.zero_le _)
      rw [List.drop_zero] at this
      exact this
theorem tags_ref {l : List S25} (hl : SmT l) : Ev (fun k => marigraphref12_Tags.f k l) (tagsT l) := by
  unfold marigraphref12_Tags.f tagsT
  by_cases h : l.length < 1 ∨ 4 < l.length
  · simp only [if_pos h]
    exact Ev.now _
  · simp only [if_neg h]
    exact Ev.bind (refNames_tells l hl.2) (Ev.now _)
theorem tags_small {l : List S25} (hl : SmT l) : SmT (tagsT l).1 := by
  unfold tagsT
  split
  · exact ⟨by simp, fun _ h => by cases h⟩
  · split
    · cases h : refIns [] l with
      | none => exact ⟨by simp [refRes], fun _ h => by cases h⟩
      | some o =>
        obtain ⟨h1, h2⟩ := ins_all l [] o h
        refine ⟨by have := hl.1; simp only [refRes, List.length_nil] at h1 ⊢; omega, fun x hx => ?_⟩
        rcases h2 x hx with h3 | h3
        · cases h3
        · exact hl.2 x h3
    · exact ⟨by simp, fun _ h => by cases h⟩
/-! ### the same tags -/
theorem rsame_loop (a : List S25) (hs : a.length < 4611686018427387904) : ∀ n j : Nat, a.length - j = n → j ≤ a.length → Ev (fun k => marigraphref12_Same.l0 k a a (j : Int)) true := by
  intro n
  induction n with
  | zero =>
    intro j hj hle
    refine evDown ?_
    simp only [marigraphref12_Same.l0, if_neg (show ¬ (j : Int) < (a.length : Int) by omega)]
    exact Ev.now _
  | succ n ih =>
    intro j hj hle
    refine evDown ?_
    simp only [marigraphref12_Same.l0, if_pos (show (j : Int) < (a.length : Int) by omega), if_pos (show 0 ≤ (j : Int) by omega), beq_self_eq_true, Bool.not_true, Bool.or_self, Bool.false_eq_true, if_false, w1 (show j < 4611686018427387904 by omega)]
    exact ih (j + 1) (by omega) (by omega)
theorem rsame_tells {a : List S25} (hs : a.length < 4611686018427387904) : Ev (fun k => marigraphref12_Same.f k a a) true := by
  unfold marigraphref12_Same.f
  simp only [if_true]
  exact rsame_loop a hs a.length 0 rfl (Nat.zero_le _)
/-! ### tags as a text -/
def encX (x : S25) : List UInt8 := x.f0.data.toList ++ 61 :: x.f1.data.toList
def textT (l : List S25) : List UInt8 := Lib.join (l.map encX) [44]
theorem ba_ext {a b : ByteArray} (h : a.data.toList = b.data.toList) : a = b := by
  obtain ⟨⟨x⟩⟩ := a
  obtain ⟨⟨y⟩⟩ := b
  obtain rfl : x = y := h
  rfl
theorem data_append (a b : ByteArray) : (a ++ b).data.toList = a.data.toList ++ b.data.toList := by
  rw [ByteArray.data_append, Array.toList_append]
theorem size_data (a : ByteArray) : a.size = a.data.toList.length := rfl
theorem encX_len {x : S25} (h : x.f0.size ≤ 1048576 ∧ x.f1.size ≤ 1048576) : (encX x).length ≤ 2097153 := by
  unfold encX
  rw [List.length_append, List.length_cons, ← size_data, ← size_data]
  omega
theorem tail_len : ∀ (l : List S25), (∀ x ∈ l, x.f0.size ≤ 1048576 ∧ x.f1.size ≤ 1048576) → (Lib.joinTail [44] (l.map encX)).length ≤ l.length * 2097154
  | [], _ => by simp [Lib.joinTail]
  | x :: r, h => by
    have ih := tail_len r (fun y hy => h y (List.mem_cons_of_mem _ hy))
    have := encX_len (h x (List.mem_cons_self ..))
    unfold Lib.joinTail at ih ⊢
    simp only [List.map_cons, List.flatten_cons, List.length_append, List.length_cons, List.length_nil] at ih ⊢
    omega
theorem text_len {l : List S25} (hl : SmT l) : (textT l).length ≤ 7 * 2097154 := by
  obtain ⟨h7, h⟩ := hl
  cases l with
  | nil => exact Nat.zero_le _
  | cons x r =>
    have := tail_len r (fun y hy => h y (List.mem_cons_of_mem _ hy))
    have := encX_len (h x (List.mem_cons_self ..))
    unfold textT
    rw [List.map_cons, Lib.join_cons, List.length_append]
    rw [List.length_cons] at h7
    omega
theorem text_mine_loop (l : List S25) (hl : SmT l) : ∀ (n j : Nat) (ps : List ByteArray), l.length - j = n → j ≤ l.length → ps.length = j → ps.map (·.data.toList) = (l.take j).map encX → Ev (fun k => name_Text.l0 k ps l (l.length : Int) (j : Int)) ⟨(textT l).toArray⟩ := by
  have h7 := hl.1
  intro n
  induction n with
  | zero =>
    intro j ps hj hle hps hpe
    refine evDown ?_
    simp only [name_Text.l0, if_neg (show ¬ (j : Int) < (l.length : Int) by omega)]
    rw [List.take_of_length_le (by omega)] at hpe
    have hlen := text_len hl
    have e : Lib.join (ps.map (·.data.toList)) ((⟨#[44]⟩ : ByteArray)).data.toList = textT l := by rw [hpe]; rfl
    simp only [strings_Join.f, e, if_pos (show ps.length < 140737488355328 by omega), if_pos (show (textT l).length < 140737488355328 by omega)]
    exact Ev.bind (Ev.now _) (Ev.now _)
  | succ n ih =>
    intro j ps hj hle hps hpe
    have hlt : j < l.length := by omega
    obtain ⟨h0, h1⟩ := hl.2 _ (List.getElem_mem hlt)
    have s1 : (⟨#[61]⟩ : ByteArray).size = 1 := rfl
    refine evDown ?_
    simp only [name_Text.l0, if_pos (show (j : Int) < (l.length : Int) by omega), if_pos (show 0 ≤ (j : Int) by omega), rdTb_at hlt]
    simp only [if_pos (show l[j].f0.size + 1 ≤ 9223372036854775807 by omega), if_pos (show (l[j].f0 ++ (⟨#[61]⟩ : ByteArray)).size + l[j].f1.size ≤ 9223372036854775807 by rw [ByteArray.size_append, s1]; omega), if_pos (show ps.length < 8796093022208 by omega)]
    simp only [w1 (show j < 4611686018427387904 by omega)]
    refine ih (j + 1) _ (by omega) (by omega) (by rw [List.length_append, hps]; rfl) ?_
    rw [List.map_append, hpe, List.take_succ_eq_append_getElem hlt, List.map_append]
    congr 1
    simp only [List.map_cons, List.map_nil, data_append, encX, List.append_assoc]
    rfl
theorem text_mine {l : List S25} (hl : SmT l) : Ev (fun k => name_Text.f k l) ⟨(textT l).toArray⟩ :=
  text_mine_loop l hl l.length 0 [] rfl (Nat.zero_le _) rfl (by simp)
theorem text_ref_loop (l : List S25) (hl : SmT l) : ∀ (n j : Nat) (s : ByteArray), l.length - j = n → j ≤ l.length → 1 ≤ j → s.size ≤ j * 2097154 → Ev (fun k => marigraphref12_Text.l0 k l s (j : Int)) ⟨(s.data.toList ++ Lib.joinTail [44] ((l.drop j).map encX)).toArray⟩ := by
  have h7 := hl.1
  intro n
  induction n with
  | zero =>
    intro j s hj hle h1j hs
    refine evDown ?_
    simp only [marigraphref12_Text.l0, if_neg (show ¬ (j : Int) < (l.length : Int) by omega)]
    rw [List.drop_of_length_le (by omega)]
    have e : (⟨(s.data.toList ++ Lib.joinTail [44] (([] : List S25).map encX)).toArray⟩ : ByteArray) = s := ba_ext (by simp [Lib.joinTail])
    rw [e]
    exact Ev.now _
  | succ n ih =>
    intro j s hj hle h1j hs
    have hlt : j < l.length := by omega
    obtain ⟨h0, h1⟩ := hl.2 _ (List.getElem_mem hlt)
    have s1 : (⟨#[61]⟩ : ByteArray).size = 1 := rfl
    have s2 : (⟨#[44]⟩ : ByteArray).size = 1 := rfl
    refine evDown ?_
    simp only [marigraphref12_Text.l0, if_pos (show (j : Int) < (l.length : Int) by omega), if_pos (show (j : Int) > 0 by omega), if_pos (show 0 ≤ (j : Int) by omega), rdTb_at hlt]
    have hs' : s.size ≤ 7 * 2097154 := Nat.le_trans hs (Nat.mul_le_mul_right _ (by omega))
    simp only [if_pos (show s.size + 1 ≤ 9223372036854775807 by omega), if_pos (show (s ++ (⟨#[44]⟩ : ByteArray)).size + l[j].f0.size ≤ 9223372036854775807 by rw [ByteArray.size_append, s2]; omega),
      if_pos (show ((s ++ (⟨#[44]⟩ : ByteArray)) ++ l[j].f0).size + 1 ≤ 9223372036854775807 by rw [ByteArray.size_append, ByteArray.size_append, s2]; omega),
      if_pos (show (((s ++ (⟨#[44]⟩ : ByteArray)) ++ l[j].f0) ++ (⟨#[61]⟩ : ByteArray)).size + l[j].f1.size ≤ 9223372036854775807 by rw [ByteArray.size_append, ByteArray.size_append, ByteArray.size_append, s1, s2]; omega)]
    simp only [w1 (show j < 4611686018427387904 by omega)]
    have h := ih (j + 1) ((((s ++ (⟨#[44]⟩ : ByteArray)) ++ l[j].f0) ++ (⟨#[61]⟩ : ByteArray)) ++ l[j].f1) (by omega) (by omega) (by omega) (by rw [ByteArray.size_append, ByteArray.size_append, ByteArray.size_append, ByteArray.size_append, s1, s2]; omega)
    have e : ((((s ++ (⟨#[44]⟩ : ByteArray)) ++ l[j].f0) ++ (⟨#[61]⟩ : ByteArray)) ++ l[j].f1).data.toList ++ Lib.joinTail [44] ((l.drop (j + 1)).map encX) = s.data.toList ++ Lib.joinTail [44] ((l.drop j).map encX) := by
      rw [List.drop_eq_getElem_cons hlt]
      simp only [data_append, Lib.joinTail, List.map_cons, List.flatten_cons, encX, List.append_assoc, List.cons_append, List.nil_append]
    rw [e] at h
    exact h
theorem text_ref {l : List S25} (hl : SmT l) : Ev (fun k => marigraphref12_Text.f k l) ⟨(textT l).toArray⟩ := by
  unfold marigraphref12_Text.f
  refine evDown ?_
  by_cases h0 : l.length = 0
  · obtain rfl := List.length_eq_zero_iff.1 h0
    simp only [marigraphref12_Text.l0, List.length_nil]
    exact Ev.now _
  · have hlt : 0 < l.length := by omega
    have h7 := hl.1
    obtain ⟨g0, g1⟩ := hl.2 _ (List.getElem_mem hlt)
    have s1 : (⟨#[61]⟩ : ByteArray).size = 1 := rfl
    have s0 : (⟨#[]⟩ : ByteArray).size = 0 := rfl
    simp only [marigraphref12_Text.l0, if_pos (show (0 : Int) < (l.length : Int) by omega), if_neg (show ¬ (0 : Int) > 0 by omega), if_pos (show 0 ≤ (0 : Int) by omega), show rd_T25 l 0 = l[0] from rdTb_at hlt]
    simp only [if_pos (show (⟨#[]⟩ : ByteArray).size + l[0].f0.size ≤ 9223372036854775807 by omega),
      if_pos (show ((⟨#[]⟩ : ByteArray) ++ l[0].f0).size + 1 ≤ 9223372036854775807 by rw [ByteArray.size_append]; omega),
      if_pos (show (((⟨#[]⟩ : ByteArray) ++ l[0].f0) ++ (⟨#[61]⟩ : ByteArray)).size + l[0].f1.size ≤ 9223372036854775807 by rw [ByteArray.size_append, ByteArray.size_append, s1]; omega)]
    have h := text_ref_loop l hl (l.length - 1) 1 ((((⟨#[]⟩ : ByteArray) ++ l[0].f0) ++ (⟨#[61]⟩ : ByteArray)) ++ l[0].f1) rfl (by omega) (Nat.le_refl _) (by rw [ByteArray.size_append, ByteArray.size_append, ByteArray.size_append, s1]; omega)
    have e : ((((⟨#[]⟩ : ByteArray) ++ l[0].f0) ++ (⟨#[61]⟩ : ByteArray)) ++ l[0].f1).data.toList ++ Lib.joinTail [44] ((l.drop 1).map encX) = textT l := by
      have e0 : l = l[0] :: l.drop 1 := by
        have := List.drop_eq_getElem_cons hlt
        rwa [List.drop_zero] at this
      unfold textT
      conv => rhs; rw [e0]
      rw [List.map_cons, Lib.join_cons]
      simp only [data_append, encX, List.append_assoc, List.cons_append, List.nil_append]
    rw [e] at h
    have e1 : (((1 : Nat) : Int)) = wrap64 (0 + 1) := by unfold wrap64; omega
    simp only [e1] at h
    exact h
/-- What is held against the document's answer. -/
theorem takes_tells {l : List S25} (hl : SmT l) : Ev (fun k => marigraphlaw12_takes.f k l) true := by
  have hT := tags_small hl
  unfold marigraphlaw12_takes.f
  refine Ev.bind (tags_mine hl) (Ev.bind (tags_ref hl) ?_)
  simp only [if_true]
  refine Ev.bind (rsame_tells (by have := hT.1; omega)) ?_
  simp only [if_true]
  refine Ev.bind (text_mine hl) (Ev.bind (text_ref hl) ?_)
  simp only [if_true]
  by_cases h : (tagsT l).2 = 0
  · simp only [if_pos h]
    refine Ev.bind (text_mine hT) (Ev.bind (text_ref hT) ?_)
    simp only [beq_self_eq_true]
    exact Ev.now _
  · simp only [if_neg h]
    exact Ev.now _
def wfP (x : S34) : Prop := (Lit.int .i64 x.f0).wf = true ∧ (Lit.int .i64 x.f1).wf = true ∧ (Lit.int .i64 x.f2).wf = true ∧ (Lit.int .i64 x.f3).wf = true ∧ (Lit.int .i64 x.f4).wf = true ∧ (Lit.int .i64 x.f6).wf = true ∧ (Lit.int .i64 x.f7).wf = true
/-- The law's plain form. -/
def NameTellsPure : Prop := ∀ (s : ByteArray) (l : List S25) (lM : List S34), s.size ≤ 1048576 → (∀ x ∈ l, x.f0.size ≤ 1048576 ∧ x.f1.size ≤ 1048576) → (∀ x ∈ lM, wfP x) →
  ∃ (k : Nat) (rs : Bool), (∀ x ∈ lM, ∃ m ts tm v, marigraphkeep_Of.f k x.f0 x.f1 x.f2 x.f3 x.f4 x.f5 x.f6 x.f7 = some (m, ts, tm, v) ∧ marigraphlaw12_takes.f k ts = some true) ∧
    name_Right.f k s = some rs ∧ marigraphref12_Right.f k s = some rs ∧ marigraphlaw12_takes.f k (l.take 7) = some true ∧ name_Same.f k (l.take 7) (l.take 7) = some true ∧
    name_Same.f k (l.take 7) ((l.take 7).take ((l.take 7).length / 2)) = some (decide ((l.take 7).length / 2 = (l.take 7).length)) ∧ marigraphlaw12_known.f k = some true
theorem few_short : (∀ s ∈ ofKeys, s.size ≤ 1048576) ∧ ∀ s ∈ ofValues, s.size ≤ 1048576 := by decide +kernel
theorem of_takes {x : S34} (h : wfP x) : ∃ K, ∀ k, K ≤ k → ∃ m ts tm v, marigraphkeep_Of.f k x.f0 x.f1 x.f2 x.f3 x.f4 x.f5 x.f6 x.f7 = some (m, ts, tm, v) ∧ marigraphlaw12_takes.f k ts = some true := by
  obtain ⟨h0, h1, h2, h3, h4, h6, h7⟩ := h
  obtain ⟨m, tg, tm, v, ⟨K1, e1⟩, ho, _⟩ := of_tells (p5 := x.f5) (i64_of h0) (i64_of h1) (i64_of h2) (i64_of h3) (i64_of h4) (i64_of h6) (i64_of h7)
  have hs : SmT tg := by
    rcases ho with ⟨a, rfl, ha, hb⟩ | ⟨a, b, rfl, ha, hb, hc, hd, _⟩
    · exact ⟨by simp, fun x hx => by obtain rfl := List.mem_singleton.1 hx; exact ⟨few_short.1 _ ha, few_short.2 _ hb⟩⟩
    · refine ⟨by simp, fun x hx => ?_⟩
      rcases List.mem_cons.1 hx with rfl | hx
      · exact ⟨few_short.1 _ ha, few_short.2 _ hb⟩
      · obtain rfl := List.mem_singleton.1 hx
        exact ⟨few_short.1 _ hc, few_short.2 _ hd⟩
  obtain ⟨K2, e2⟩ := takes_tells hs
  exact ⟨K1 + K2, fun k hk => ⟨m, tg, tm, v, e1 _ (by omega), e2 _ (by omega)⟩⟩
theorem all_takes (l : List S34) (hl : ∀ x ∈ l, wfP x) : ∃ K, ∀ k, K ≤ k → ∀ x ∈ l, ∃ m ts tm v, marigraphkeep_Of.f k x.f0 x.f1 x.f2 x.f3 x.f4 x.f5 x.f6 x.f7 = some (m, ts, tm, v) ∧ marigraphlaw12_takes.f k ts = some true := by
  induction l with
  | nil => exact ⟨0, fun _ _ x hx => by cases hx⟩
  | cons y l ih =>
    obtain ⟨K1, h1⟩ := ih (fun x hx => hl x (List.mem_cons_of_mem _ hx))
    obtain ⟨K2, h2⟩ := of_takes (hl y (List.mem_cons_self ..))
    refine ⟨K1 + K2, fun k hk x hx => ?_⟩
    rcases List.mem_cons.1 hx with rfl | hx
    · exact h2 k (by omega)
    · exact h1 k (by omega) x hx
theorem known12T : Ev (fun k => marigraphlaw12_known.f k) true := evMonoT (fun k => marigraphlaw12_known.mono k) (K := 60) (by decide +kernel)
theorem NameTells : NameTellsPure := by
  intro s l lM hs hl hM
  have hT : SmT (l.take 7) := ⟨by rw [List.length_take]; omega, fun x hx => hl x (List.mem_of_mem_take hx)⟩
  obtain ⟨K1, e1⟩ := all_takes lM hM
  obtain ⟨K2, e2⟩ := name_tells (s := s) (by omega)
  obtain ⟨K3, e3⟩ := rref_tells (s := s) (by omega)
  obtain ⟨K4, e4⟩ := takes_tells hT
  obtain ⟨K5, e5⟩ := same_tells (l.take 7) (l.take 7) (by have := hT.1; omega)
  obtain ⟨K6, e6⟩ := same_tells (l.take 7) ((l.take 7).take ((l.take 7).length / 2)) (by have := hT.1; omega)
  obtain ⟨K7, e7⟩ := known12T
  refine ⟨K1 + K2 + K3 + K4 + K5 + K6 + K7, nameB s, e1 _ (by omega), e2 _ (by omega), e3 _ (by omega), e4 _ (by omega), (e5 _ (by omega)).trans (by rw [decide_eq_true rfl]), (e6 _ (by omega)).trans ?_, e7 _ (by omega)⟩
  congr 1
  rw [decide_eq_decide]
  generalize l.take 7 = ys
  constructor
  · intro h
    have := congrArg List.length h
    unfold raw at this
    rw [List.length_map, List.length_map, List.length_take] at this
    omega
  · intro h
    rw [List.take_of_length_le (by omega)]

end Go.Proofs.Ytfijbkabjmgomaa.Pure

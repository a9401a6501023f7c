/- FilterTells: what the law comes to, over plain functions. -/
import Derived.Test.YteghihdcagbmbaaPFilterTellsx2
import Derived.Test.YteghihdcagbmbaaPFilterTellsx6
import Derived.Test.YteghihdcagbmbaaPFilterTellsx7
namespace Go.Proofs.Yteghihdcagbmbaa.Pure
open Go.RowKit Go.Proofs.Yteghihdcagbmbaa.PFilterTells Go.Proofs.YteghihdcagbmbaaW.PrintWords Go.Proofs.YteghihdcagbmbaaW.PrintLast
set_option linter.unusedVariables false
set_option linter.unusedSimpArgs false

theorem evNow {α : Type} {f : Nat → Option α} {r : α} (hf : ∀ k, f k = some r) : Ev f r := ⟨0, fun k _ => hf k⟩
theorem i64_of {a : Int} (h : (Lit.int .i64 a).wf = true) : -9223372036854775808 ≤ a ∧ a ≤ 9223372036854775807 := by
  have h1 : IntKind.i64.min = -9223372036854775808 := rfl
  have h2 : IntKind.i64.max = 9223372036854775807 := rfl
  simp only [Lit.wf, Bool.and_eq_true, decide_eq_true_eq] at h
  omega
/-! ### Within -/
theorem within_w {n lo hi : Int} (h1 : -2199023255552 ≤ lo) (h2 : lo ≤ hi) (h3 : hi ≤ 2199023255552) (hn : -9223372036854775808 ≤ n ∧ n ≤ 9223372036854775807) : ∃ r, Ev (fun k => marigraphbook_Within.f k n lo hi) r ∧ lo ≤ r ∧ r ≤ hi ∧ (lo ≤ n → n ≤ hi → r = n) := by
  have e1 : wrap64 (wrap64 (hi - lo) + 1) = hi - lo + 1 := by unfold wrap64; omega
  have hj : ∀ b : Bool, (b = true ↔ (lo ≤ n ∧ n ≤ hi)) → ∃ r, (∀ k, marigraphbook_Within.j0 (k + 1) n lo hi b = some r) ∧ lo ≤ r ∧ r ≤ hi ∧ (lo ≤ n → n ≤ hi → r = n) := by
    intro b hb
    simp only [marigraphbook_Within.j0, e1]
    cases b with
    | true =>
      have := hb.1 rfl
      exact ⟨n, fun _ => by rw [if_pos rfl], this.1, this.2, fun _ _ => rfl⟩
    | false =>
      have hno : ¬ (lo ≤ n ∧ n ≤ hi) := fun h => by have := hb.2 h; cases this
      simp only [Bool.false_eq_true, if_false]
      rw [if_neg (by omega)]
      have hm : (0 : Int) < hi - lo + 1 := by omega
      have t1 : Int.tmod n (hi - lo + 1) < hi - lo + 1 := Int.tmod_lt_of_pos _ hm
      have t2 : -(hi - lo + 1) < Int.tmod n (hi - lo + 1) := by
        have := Int.tmod_lt_of_pos (-n) hm
        rw [Int.neg_tmod] at this
        omega
      generalize Int.tmod n (hi - lo + 1) = t at *
      by_cases ht : t < 0
      · rw [if_pos ht]
        have e : wrap64 (lo + wrap64 (wrap64 (wrap64 (t + hi) - lo) + 1)) = t + hi + 1 := by unfold wrap64; omega
        rw [e]
        exact ⟨_, fun _ => rfl, by omega, by omega, fun a b => absurd ⟨a, b⟩ hno⟩
      · rw [if_neg ht]
        have e : wrap64 (lo + t) = lo + t := by unfold wrap64; omega
        rw [e]
        exact ⟨_, fun _ => rfl, by omega, by omega, fun a b => absurd ⟨a, b⟩ hno⟩
  have fin : ∀ b : Bool, (∀ k, marigraphbook_Within.f k n lo hi = marigraphbook_Within.j0 k n lo hi b) → (b = true ↔ (lo ≤ n ∧ n ≤ hi)) → ∃ r, Ev (fun k => marigraphbook_Within.f k n lo hi) r ∧ lo ≤ r ∧ r ≤ hi ∧ (lo ≤ n → n ≤ hi → r = n) := by
    intro b hf hb
    obtain ⟨r, h, hr⟩ := hj b hb
    refine ⟨r, ⟨1, fun k hk => ?_⟩, hr⟩
    obtain ⟨k, rfl⟩ : ∃ m, k = m + 1 := ⟨k - 1, by omega⟩
    show marigraphbook_Within.f (k + 1) n lo hi = some r
    rw [hf]
    exact h k
  by_cases hlo : n ≥ lo
  · refine fin (decide (n ≤ hi)) (fun k => by unfold marigraphbook_Within.f; rw [if_pos hlo]) ?_
    rw [decide_eq_true_iff]
    exact ⟨fun h => ⟨hlo, h⟩, fun h => h.2⟩
  · refine fin false (fun k => by unfold marigraphbook_Within.f; rw [if_neg hlo]) ?_
    constructor
    · intro h; cases h
    · intro h; omega
/-! ### names, filters: what the printed functions answer -/
theorem evDown {α : Type} {g : Nat → Option α} {r : α} (h : Ev (fun k => g (k + 1)) r) : Ev g r := let ⟨K, hK⟩ := h; ⟨K + 1, fun k hk => by
  obtain ⟨m, rfl⟩ : ∃ m, k = m + 1 := ⟨k - 1, by omega⟩
  exact hK m (by omega)⟩
theorem w1 {j : Nat} (h : j < 4611686018427387904) : wrap64 ((j : Int) + 1) = ((j + 1 : Nat) : Int) := by unfold wrap64; omega
def signI (a : Int) : Bool := (name_sign.f a).getD false
theorem sign_tells (a : Int) : name_sign.f a = some (signI a) := by
  unfold signI
  have h : (name_sign.f a).isSome = true := by
    unfold name_sign.f
    repeat' split
    all_goals rfl
  obtain ⟨r, hr⟩ := Option.isSome_iff_exists.mp h
  rw [hr]
  rfl
def nmFrom (s : ByteArray) : Nat → Nat → Bool
  | 0, _ => decide (0 < s.size ∧ s.size ≤ 32)
  | n + 1, j => signI (bt s (j : Int)) && nmFrom s n (j + 1)
def nameB (s : ByteArray) : Bool := nmFrom s s.size 0
theorem name_loop (s : ByteArray) (hs : s.size < 4611686018427387904) : ∀ n j : Nat, s.size - j = n → j ≤ s.size → Ev (fun k => name_Right.l0 k s (s.size : Int) (j : Int)) (nmFrom s n j) := by
  intro n
  induction n with
  | zero =>
    intro j hj hle
    refine evDown ?_
    simp only [name_Right.l0, if_neg (show ¬ (j : Int) < (s.size : Int) by omega)]
    unfold nmFrom
    by_cases h0 : (s.size : Int) > 0
    · simp only [if_pos h0]
      rw [show decide (0 < s.size ∧ s.size ≤ 32) = decide ((s.size : Int) ≤ 32) from by rw [decide_eq_decide]; omega]
      exact Ev.now _
    · simp only [if_neg h0]
      rw [decide_eq_false (by omega)]
      exact Ev.now _
  | succ n ih =>
    intro j hj hle
    refine evDown ?_
    simp only [name_Right.l0, if_pos (show (j : Int) < (s.size : Int) by omega), if_pos (show 0 ≤ (j : Int) by omega)]
    refine Ev.bind (evNow fun _ => sign_tells _) ?_
    unfold nmFrom
    by_cases h : signI (bt s (j : Int)) = true
    · simp only [h, if_true, Bool.true_and, w1 (show j < 4611686018427387904 by omega)]
      exact ih (j + 1) (by omega) (by omega)
    · rw [Bool.not_eq_true] at h
      simp only [h, Bool.false_and]
      exact Ev.now _
theorem name_tells {s : ByteArray} (hs : s.size < 4611686018427387904) : Ev (fun k => name_Right.f k s) (nameB s) := name_loop s hs s.size 0 rfl (Nat.zero_le _)
/-- No text is longer than a reading may be. -/
def Sml (l : List ByteArray) : Prop := l.length < 4611686018427387904 ∧ ∀ s ∈ l, s.size < 4611686018427387904
theorem rdS_at {l : List ByteArray} {j : Nat} (h : j < l.length) : rdOf ByteArray.empty l (j : Int) = l[j] := by
  unfold rdOf
  rw [Int.toNat_natCast, List.getD_eq_getElem?_getD, List.getElem?_eq_getElem h]
  rfl
theorem right1_tells {s : ByteArray} (hs : s.size < 4611686018427387904) : Ev (fun k => filter_Right_1.f k s) (!nameB s) := by
  unfold filter_Right_1.f
  exact Ev.bind (name_tells hs) (Ev.now _)
theorem wrongs_loop (l : List ByteArray) (hl : Sml l) : ∀ n j : Nat, l.length - j = n → j ≤ l.length → ∃ i : Int, Ev (fun k => slices_IndexFunc_string_string_of_filter_Right_1.l0 k l (l.length : Int) (j : Int)) i ∧ (i ≥ 0 ↔ ((l.drop j).all nameB) = false) := by
  intro n
  induction n with
  | zero =>
    intro j hj hle
    refine ⟨-1, ?_, ?_⟩
    · refine evDown ?_
      simp only [slices_IndexFunc_string_string_of_filter_Right_1.l0, if_neg (show ¬ (j : Int) < (l.length : Int) by omega)]
      exact Ev.now _
    · rw [List.drop_of_length_le (by omega)]
      simp
  | succ n ih =>
    intro j hj hle
    have hlt : j < l.length := by omega
    have hsz := hl.2 _ (List.getElem_mem hlt)
    rw [List.drop_eq_getElem_cons hlt]
    by_cases h : nameB l[j] = true
    · obtain ⟨i, hi, hb⟩ := ih (j + 1) (by omega) (by omega)
      refine ⟨i, ?_, by rw [hb, List.all_cons, h, Bool.true_and]⟩
      refine evDown ?_
      simp only [slices_IndexFunc_string_string_of_filter_Right_1.l0, if_pos (show (j : Int) < (l.length : Int) by omega), if_pos (show 0 ≤ (j : Int) by omega), rdS_at hlt]
      refine Ev.bind (right1_tells hsz) ?_
      simp only [h, Bool.not_true, Bool.false_eq_true, if_false, w1 (show j < 4611686018427387904 by have := hl.1; omega)]
      exact hi
    · rw [Bool.not_eq_true] at h
      refine ⟨j, ?_, by rw [List.all_cons, h, Bool.false_and]; exact ⟨fun _ => rfl, fun _ => Int.natCast_nonneg j⟩⟩
      refine evDown ?_
      simp only [slices_IndexFunc_string_string_of_filter_Right_1.l0, if_pos (show (j : Int) < (l.length : Int) by omega), if_pos (show 0 ≤ (j : Int) by omega), rdS_at hlt]
      refine Ev.bind (right1_tells hsz) ?_
      simp only [h, Bool.not_false, if_true]
      exact Ev.now _
theorem wrongs_tells {l : List ByteArray} (hl : Sml l) : Ev (fun k => slices_ContainsFunc_string_string_of_filter_Right_1.f k l) (!(l.all nameB)) := by
  obtain ⟨i, hi, hb⟩ := wrongs_loop l hl l.length 0 rfl (Nat.zero_le _)
  unfold slices_ContainsFunc_string_string_of_filter_Right_1.f
  refine Ev.bind (show Ev (fun k => slices_IndexFunc_string_string_of_filter_Right_1.f k l) i from hi) ?_
  rw [List.drop_zero] at hb
  have : decide (i ≥ 0) = !(l.all nameB) := by
    cases h : l.all nameB with
    | true => rw [h] at hb; exact decide_eq_false (fun h0 => by have := hb.1 h0; cases this)
    | false => rw [h] at hb; exact decide_eq_true (hb.2 rfl)
  rw [this]
  exact Ev.now _
def rightB (key : ByteArray) (kd : Int) (vs : List ByteArray) : Bool :=
  nameB key && (if kd = 1 ∨ kd = 2 then decide (0 < vs.length ∧ vs.length ≤ 8) && vs.all nameB else if kd = 3 ∨ kd = 4 then vs.isEmpty else false)
theorem right_j (key : ByteArray) (kd : Int) (vs : List ByteArray) (hv : Sml vs) (b : Bool) (hb : b = decide (kd = 1 ∨ kd = 2)) : Ev (fun k => filter_Right.j0 k kd b key kd vs) (if kd = 1 ∨ kd = 2 then decide (0 < vs.length ∧ vs.length ≤ 8) && vs.all nameB else if kd = 3 ∨ kd = 4 then vs.isEmpty else false) := by
  refine evDown ?_
  simp only [filter_Right.j0]
  by_cases h : kd = 1 ∨ kd = 2
  · rw [decide_eq_true h] at hb
    subst hb
    simp only [if_true, if_pos h]
    refine Ev.bind (wrongs_tells hv) ?_
    by_cases h0 : (vs.length : Int) > 0
    · simp only [if_pos h0]
      by_cases h8 : (vs.length : Int) ≤ 8
      · simp only [if_pos h8, Bool.not_not]
        rw [decide_eq_true (show 0 < vs.length ∧ vs.length ≤ 8 by omega), Bool.true_and]
        exact Ev.now _
      · simp only [if_neg h8]
        rw [decide_eq_false (show ¬ (0 < vs.length ∧ vs.length ≤ 8) by omega), Bool.false_and]
        exact Ev.now _
    · simp only [if_neg h0]
      rw [decide_eq_false (show ¬ (0 < vs.length ∧ vs.length ≤ 8) by omega), Bool.false_and]
      exact Ev.now _
  · rw [decide_eq_false h] at hb
    subst hb
    simp only [Bool.false_eq_true, if_false, if_neg h]
    have he : ((vs.length : Int) == 0) = vs.isEmpty := by
      cases vs with
      | nil => rfl
      | cons a b => simp; omega
    by_cases h3 : kd = 3
    · simp only [if_pos h3, if_pos (show kd = 3 ∨ kd = 4 from .inl h3), he]
      exact Ev.now _
    · simp only [if_neg h3]
      by_cases h4 : kd = 4
      · simp only [if_pos h4, if_pos (show kd = 3 ∨ kd = 4 from .inr h4), he]
        exact Ev.now _
      · simp only [if_neg h4, if_neg (show ¬ (kd = 3 ∨ kd = 4) by omega)]
        exact Ev.now _
theorem right_tells (key : ByteArray) (kd : Int) (vs : List ByteArray) (hk : key.size < 4611686018427387904) (hv : Sml vs) : Ev (fun k => filter_Right.f k key kd vs) (rightB key kd vs) := by
  unfold filter_Right.f rightB
  refine Ev.bind (name_tells hk) ?_
  by_cases h : nameB key = true
  · simp only [h, if_true, Bool.true_and]
    by_cases h1 : kd = 1
    · simp only [if_pos h1]
      exact right_j key kd vs hv _ (by subst h1; rfl)
    · simp only [if_neg h1]
      exact right_j key kd vs hv _ (by by_cases h2 : kd = 2 <;> simp [h1, h2])
  · rw [Bool.not_eq_true] at h
    simp only [h, Bool.false_and, Bool.false_eq_true, if_false]
    exact Ev.now _
/-! #### Match -/
theorem index_loop (l : List ByteArray) (s : ByteArray) (hl : l.length < 4611686018427387904) : ∀ n j : Nat, l.length - j = n → j ≤ l.length → ∃ i : Int, Ev (fun k => slices_Index_string_string.l0 k l s (l.length : Int) (j : Int)) i ∧ (i ≥ 0 ↔ ((l.drop j).any (fun v => s.toList == v.toList)) = true) := by
  intro n
  induction n with
  | zero =>
    intro j hj hle
    refine ⟨-1, ?_, ?_⟩
    · refine evDown ?_
      simp only [slices_Index_string_string.l0, if_neg (show ¬ (j : Int) < (l.length : Int) by omega)]
      exact Ev.now _
    · rw [List.drop_of_length_le (by omega)]
      simp
  | succ n ih =>
    intro j hj hle
    have hlt : j < l.length := by omega
    rw [List.drop_eq_getElem_cons hlt]
    by_cases h : s.toList = (l[j]).toList
    · refine ⟨j, ?_, by rw [List.any_cons, beq_iff_eq.mpr h, Bool.true_or]; exact ⟨fun _ => rfl, fun _ => Int.natCast_nonneg j⟩⟩
      refine evDown ?_
      simp only [slices_Index_string_string.l0, if_pos (show (j : Int) < (l.length : Int) by omega), if_pos (show 0 ≤ (j : Int) by omega), rdS_at hlt, if_pos h]
      exact Ev.now _
    · obtain ⟨i, hi, hb⟩ := ih (j + 1) (by omega) (by omega)
      refine ⟨i, ?_, by rw [hb, List.any_cons, beq_eq_false_iff_ne.mpr h, Bool.false_or]⟩
      refine evDown ?_
      simp only [slices_Index_string_string.l0, if_pos (show (j : Int) < (l.length : Int) by omega), if_pos (show 0 ≤ (j : Int) by omega), rdS_at hlt, if_neg h, w1 (show j < 4611686018427387904 by omega)]
      exact hi
def hasB (l : List ByteArray) (s : ByteArray) : Bool := l.any (fun v => s.toList == v.toList)
theorem has_tells (l : List ByteArray) (s : ByteArray) (hl : l.length < 4611686018427387904) : Ev (fun k => slices_Contains_string_string.f k l s) (hasB l s) := by
  obtain ⟨i, hi, hb⟩ := index_loop l s hl l.length 0 rfl (Nat.zero_le _)
  unfold slices_Contains_string_string.f
  refine Ev.bind (show Ev (fun k => slices_Index_string_string.f k l s) i from hi) ?_
  rw [List.drop_zero] at hb
  have : decide (i ≥ 0) = hasB l s := by
    unfold hasB
    cases h : l.any (fun v => s.toList == v.toList) with
    | true => rw [h] at hb; exact decide_eq_true (hb.2 rfl)
    | false => rw [h] at hb; exact decide_eq_false (fun h0 => by have := hb.1 h0; cases this)
  rw [this]
  exact Ev.now _
def thereB (key : ByteArray) (l : List S44) : Bool := l.any (fun x => x.f0.toList == key.toList)
def oneB (key : ByteArray) (vs : List ByteArray) (l : List S44) : Bool := l.any (fun x => (x.f0.toList == key.toList) && hasB vs x.f1)
theorem there_tells (key : ByteArray) (vs : List ByteArray) (l : List S44) : Ev (fun k => someF k false key vs l) (thereB key l) := by
  induction l with
  | nil => exact Ev.now _
  | cons x l ih =>
    unfold someF
    refine Ev.bind (a := true) (evNow fun _ => rfl) ?_
    by_cases h : (x.f0.toList == key.toList) = true
    · simp only [h, Bool.and_true, if_true]
      rw [show thereB key (x :: l) = true by unfold thereB; simp [h]]
      exact Ev.now _
    · rw [Bool.not_eq_true] at h
      simp only [h, Bool.false_and, Bool.false_eq_true, if_false]
      rw [show thereB key (x :: l) = thereB key l by unfold thereB; rw [List.any_cons, h, Bool.false_or]]
      exact ih
theorem one_tells (key : ByteArray) (vs : List ByteArray) (hv : vs.length < 4611686018427387904) (l : List S44) : Ev (fun k => someF k true key vs l) (oneB key vs l) := by
  induction l with
  | nil => exact Ev.now _
  | cons x l ih =>
    unfold someF
    refine Ev.bind (a := hasB vs x.f1) (has_tells vs x.f1 hv) ?_
    by_cases h : ((x.f0.toList == key.toList) && hasB vs x.f1) = true
    · simp only [h, if_true]
      rw [show oneB key vs (x :: l) = true by unfold oneB; rw [List.any_cons, h, Bool.true_or]]
      exact Ev.now _
    · rw [Bool.not_eq_true] at h
      simp only [h, Bool.false_eq_true, if_false]
      rw [show oneB key vs (x :: l) = oneB key vs l by unfold oneB; rw [List.any_cons, h, Bool.false_or]]
      exact ih
def matchB (key : ByteArray) (kd : Int) (vs : List ByteArray) (l : List S44) : Bool :=
  rightB key kd vs && (if kd = 1 then oneB key vs l else if kd = 2 then (thereB key l && !oneB key vs l) else (thereB key l == decide (kd = 3)))
theorem matchF_tells (key : ByteArray) (kd : Int) (vs : List ByteArray) (l : List S44) (hk : key.size < 4611686018427387904) (hv : Sml vs) : Ev (fun k => matchF k key kd vs l) (matchB key kd vs l) := by
  unfold matchF matchB
  refine Ev.bind (right_tells key kd vs hk hv) ?_
  by_cases h : rightB key kd vs = true
  · simp only [h, if_true, Bool.true_and]
    exact Ev.bind (there_tells key vs l) (Ev.bind (one_tells key vs hv.1 l) (Ev.now _))
  · rw [Bool.not_eq_true] at h
    simp only [h, Bool.false_eq_true, if_false, Bool.false_and]
    exact Ev.now _
theorem match_tells (key : ByteArray) (kd : Int) (vs : List ByteArray) (l : List S44) (hk : key.size < 4611686018427387904) (hv : Sml vs) (hl : l.length < 4611686014132420609) : Ev (fun k => filter_Match.f k key kd vs l) (matchB key kd vs l) := by
  unfold filter_Match.f
  simp only [if_pos hl]
  exact matchF_tells key kd vs l hk hv
theorem known19_tells : Ev (fun k => marigraphlaw19_known.f k) true := Ev.of (fun k => marigraphlaw19_known.mono k) (k := 60) (by decide +kernel)
/-! ### marigraphkeep.Of: a point of a few names -/
theorem pick_tells (l : List ByteArray) (n : Int) (h0 : 0 < l.length) (h1 : l.length < 1000) (hn : -9223372036854775808 ≤ n ∧ n ≤ 9223372036854775807) : ∃ s ∈ l, Ev (fun k => marigraphkeep_pick.f k l n) s := by
  obtain ⟨r, hr, h2, h3, _⟩ := within_w (n := n) (lo := 0) (hi := 1048576) (by omega) (by omega) (by omega) hn
  have t1 : Int.tmod r (l.length : Int) < (l.length : Int) := Int.tmod_lt_of_pos _ (by omega)
  have t0 : 0 ≤ Int.tmod r (l.length : Int) := Int.tmod_nonneg _ h2
  refine ⟨rdOf ByteArray.empty l (Int.tmod r (l.length : Int)), ?_, ?_⟩
  · generalize Int.tmod r (l.length : Int) = t at t0 t1
    obtain ⟨j, rfl⟩ := Int.eq_ofNat_of_zero_le t0
    have hj : j < l.length := by omega
    unfold rdOf
    rw [Int.toNat_natCast, List.getD_eq_getElem?_getD, List.getElem?_eq_getElem hj]
    exact List.getElem_mem hj
  · unfold marigraphkeep_pick.f
    refine Ev.bind hr ?_
    simp only [if_neg (show ¬ (l.length : Int) = 0 by omega), if_pos t0, if_pos t1]
    exact Ev.now _
def ofKeys : List ByteArray := [(⟨#[104, 111, 115, 116]⟩ : ByteArray), (⟨#[100, 99]⟩ : ByteArray), (⟨#[105, 102]⟩ : ByteArray), (⟨#[120]⟩ : ByteArray)]
def ofValues : List ByteArray := [(⟨#[97]⟩ : ByteArray), (⟨#[98]⟩ : ByteArray), (⟨#[119, 101, 98, 49]⟩ : ByteArray), (⟨#[119, 101, 98, 50]⟩ : ByteArray), (⟨#[49]⟩ : ByteArray)]
def ofMetrics : List ByteArray := [(⟨#[99, 112, 117]⟩ : ByteArray), (⟨#[109, 101, 109]⟩ : ByteArray), (⟨#[110, 101, 116, 47, 105, 110]⟩ : ByteArray), (⟨#[97, 46, 98]⟩ : ByteArray)]
/-- One tag, or two of unlike keys; of the few names. -/
def OfTags (l : List S44) : Prop := (∃ a, l = [a] ∧ a.f0 ∈ ofKeys ∧ a.f1 ∈ ofValues) ∨ ∃ a b, l = [a, b] ∧ a.f0 ∈ ofKeys ∧ a.f1 ∈ ofValues ∧ b.f0 ∈ ofKeys ∧ b.f1 ∈ ofValues ∧ a.f0.toList ≠ b.f0.toList
theorem of_tells {p0 p1 p2 p3 p4 p6 p7 : Int} {p5 : Bool} (h0 : -9223372036854775808 ≤ p0 ∧ p0 ≤ 9223372036854775807) (h1 : -9223372036854775808 ≤ p1 ∧ p1 ≤ 9223372036854775807) (h2 : -9223372036854775808 ≤ p2 ∧ p2 ≤ 9223372036854775807) (h3 : -9223372036854775808 ≤ p3 ∧ p3 ≤ 9223372036854775807) (h4 : -9223372036854775808 ≤ p4 ∧ p4 ≤ 9223372036854775807) (h6 : -9223372036854775808 ≤ p6 ∧ p6 ≤ 9223372036854775807) (h7 : -9223372036854775808 ≤ p7 ∧ p7 ≤ 9223372036854775807) :
    ∃ met tags tm v, Ev (fun k => marigraphkeep_Of.f k p0 p1 p2 p3 p4 p5 p6 p7) (met, tags, tm, v) ∧ OfTags tags ∧ met ∈ ofMetrics ∧ 0 ≤ tm ∧ tm ≤ 9000 ∧ -2147483647 ≤ v ∧ v ≤ 2147483647 := by
  obtain ⟨met, hm, em⟩ := pick_tells ofMetrics p0 (by decide) (by decide) h0
  obtain ⟨k1, hk1, ek1⟩ := pick_tells ofKeys p1 (by decide) (by decide) h1
  obtain ⟨v1, hv1, ev1⟩ := pick_tells ofValues p2 (by decide) (by decide) h2
  obtain ⟨k2, hk2, ek2⟩ := pick_tells ofKeys p3 (by decide) (by decide) h3
  obtain ⟨v2, hv2, ev2⟩ := pick_tells ofValues p4 (by decide) (by decide) h4
  obtain ⟨tm, et, t0, t1, _⟩ := within_w (n := p6) (lo := 0) (hi := 9000) (by omega) (by omega) (by omega) h6
  obtain ⟨v, ev, g0, g1, _⟩ := within_w (n := p7) (lo := -2147483647) (hi := 2147483647) (by omega) (by omega) (by omega) h7
  have hj : ∀ b : Bool, (b = true → k1.toList ≠ k2.toList) → ∃ tags, OfTags tags ∧ Ev (fun k => marigraphkeep_Of.j0 k b p0 p1 p2 p3 p4 p5 p6 p7 met [⟨k1, v1⟩] tm v) (met, tags, tm, v) := by
    intro b hb
    cases b with
    | false =>
      refine ⟨[⟨k1, v1⟩], .inl ⟨_, rfl, hk1, hv1⟩, evDown ?_⟩
      simp only [marigraphkeep_Of.j0, Bool.false_eq_true, if_false]
      exact Ev.now _
    | true =>
      refine ⟨[⟨k1, v1⟩] ++ [⟨k2, v2⟩], .inr ⟨_, _, rfl, hk1, hv1, hk2, hv2, hb rfl⟩, evDown ?_⟩
      simp only [marigraphkeep_Of.j0, if_true]
      refine Ev.bind (a := ofKeys) (Ev.now _) (Ev.bind ek2 (Ev.bind (a := ofValues) (Ev.now _) (Ev.bind ev2 ?_)))
      simp only [List.length_singleton, if_pos (show 1 < 4398046511104 by omega)]
      exact Ev.now _
  obtain ⟨tags, ht, e⟩ : ∃ tags, OfTags tags ∧ Ev (fun k => if p5 = true then ((marigraphkeep_Keys.f).bind fun t132 => ((marigraphkeep_pick.f k t132 p1).bind fun t135 => ((marigraphkeep_Keys.f).bind fun t136 => ((marigraphkeep_pick.f k t136 p3).bind fun t139 => (marigraphkeep_Of.j0 k (t135.toList != t139.toList) p0 p1 p2 p3 p4 p5 p6 p7 met [⟨k1, v1⟩] tm v))))) else (marigraphkeep_Of.j0 k false p0 p1 p2 p3 p4 p5 p6 p7 met [⟨k1, v1⟩] tm v)) (met, tags, tm, v) := by
    by_cases h5 : p5 = true
    · obtain ⟨tags, ht, e⟩ := hj (k1.toList != k2.toList) (fun h => by simpa using h)
      refine ⟨tags, ht, ?_⟩
      simp only [if_pos h5]
      exact Ev.bind (a := ofKeys) (Ev.now _) (Ev.bind ek1 (Ev.bind (a := ofKeys) (Ev.now _) (Ev.bind ek2 e)))
    · obtain ⟨tags, ht, e⟩ := hj false (fun h => by cases h)
      refine ⟨tags, ht, ?_⟩
      simp only [if_neg h5]
      exact e
  refine ⟨met, tags, tm, v, ?_, ht, hm, t0, t1, g0, g1⟩
  unfold marigraphkeep_Of.f
  exact Ev.bind (a := ofMetrics) (Ev.now _) (Ev.bind em (Ev.bind (a := ofKeys) (Ev.now _) (Ev.bind ek1 (Ev.bind (a := ofValues) (Ev.now _) (Ev.bind ev1 (Ev.bind (a := [⟨k1, v1⟩]) (Ev.now _) (Ev.bind et (Ev.bind ev e))))))))
theorem ofTags_short {l : List S44} (h : OfTags l) : l.length < 4611686014132420609 := by
  rcases h with ⟨a, rfl, _⟩ | ⟨a, b, rfl, _⟩
  · simp
  · simp
/-! ### what made gives -/
theorem names_ok : ∀ s ∈ zz :: (keysL ++ valuesL), nameB s = true ∧ s.size < 4611686018427387904 := by
  intro s hs
  have h : (zz :: (keysL ++ valuesL)).all (fun s => nameB s && decide (s.size < 4611686018427387904)) = true := by decide +kernel
  have := List.all_eq_true.1 h s hs
  simpa using this
theorem values_in (n : Int) : valueF n ∈ zz :: (keysL ++ valuesL) := by
  have h0 := idx_lo n (m := 5) (by omega)
  have h1 := idx_hi n (m := 5) (by omega)
  unfold valueF rdOf
  have : (idx 5 n).toNat < valuesL.length := by show _ < 5; omega
  rw [List.getD_eq_getElem?_getD, List.getElem?_eq_getElem this]
  exact List.mem_cons_of_mem _ (List.mem_append_right _ (List.getElem_mem this))
theorem key_in {m : Int} {l : List Int} (n : Int) : (madeF ⟨n, m, l⟩).f0 ∈ zz :: (keysL ++ valuesL) := by
  have h0 := idx_lo n (m := 4) (by omega)
  have h1 := idx_hi n (m := 4) (by omega)
  show rdOf ByteArray.empty keysL (idx 4 n) ∈ _
  unfold rdOf
  have : (idx 4 n).toNat < keysL.length := by show _ < 4; omega
  rw [List.getD_eq_getElem?_getD, List.getElem?_eq_getElem this]
  exact List.mem_cons_of_mem _ (List.mem_append_left _ (List.getElem_mem this))
/-- A filter that 'made' gives may be, and has few values. -/
theorem made_ok (x : S24) : nameB (madeF x).f0 = true ∧ (madeF x).f0.size < 4611686018427387904 ∧ Sml (madeF x).f2 ∧ (madeF x).f2.all nameB = true ∧ (madeF x).f2.length ≤ 6 ∧ ((madeF x).f1 ≤ 2 → 0 < (madeF x).f2.length) ∧ (2 < (madeF x).f1 → (madeF x).f2 = []) ∧ 1 ≤ (madeF x).f1 ∧ (madeF x).f1 ≤ 4 := by
  have hk := names_ok _ (key_in (m := x.f1) (l := x.f2) x.f0)
  have h0 := idx_lo x.f1 (m := 4) (by omega)
  have h1 := idx_hi x.f1 (m := 4) (by omega)
  have e1 : (madeF x).f1 = 1 + idx 4 x.f1 := rfl
  have e2 : (madeF x).f2 = if 1 + idx 4 x.f1 ≤ 2 then zz :: (x.f2.take 5).map valueF else [] := rfl
  have hin : ∀ s ∈ (madeF x).f2, nameB s = true ∧ s.size < 4611686018427387904 := by
    intro s hs
    rw [e2] at hs
    split at hs
    · rcases List.mem_cons.1 hs with rfl | hs
      · exact names_ok _ (List.mem_cons_self ..)
      · obtain ⟨n, _, rfl⟩ := List.mem_map.1 hs
        exact names_ok _ (values_in n)
    · cases hs
  have hl : (madeF x).f2.length ≤ 6 := by
    rw [e2]
    split
    · simp only [List.length_cons, List.length_map, List.length_take]; omega
    · simp
  refine ⟨hk.1, hk.2, ⟨by omega, fun s hs => (hin s hs).2⟩, List.all_eq_true.2 fun s hs => (hin s hs).1, hl, ?_, ?_, by omega, by omega⟩
  · intro h
    rw [e2, if_pos (by omega)]
    simp
  · intro h
    rw [e2, if_neg (by omega)]
/-! ### All -/
theorem ev_list {α : Type} {l : List α} {g : Nat → α → Option Bool} {r : α → Bool} (h : ∀ x ∈ l, Ev (fun k => g k x) (r x)) : ∃ K, ∀ k, K ≤ k → ∀ x ∈ l, g k x = some (r x) := by
  induction l with
  | nil => exact ⟨0, fun _ _ x hx => by cases hx⟩
  | cons y l ih =>
    obtain ⟨K1, h1⟩ := h y (List.mem_cons_self ..)
    obtain ⟨K2, h2⟩ := ih (fun x hx => h x (List.mem_cons_of_mem _ hx))
    refine ⟨K1 + K2, fun k hk x hx => ?_⟩
    rcases List.mem_cons.1 hx with rfl | hx
    · exact h1 k (by omega)
    · exact h2 k (by omega) x hx
theorem notAll_tells (tags : List S44) (mB : S29 → Bool) (l : List S29) (h : ∀ y ∈ l, Ev (fun k => matchF k y.f0 y.f1 y.f2 tags) (mB y)) : Ev (fun k => notAll k tags l) (!(l.all mB)) := by
  induction l with
  | nil => exact Ev.now _
  | cons y l ih =>
    unfold notAll
    refine Ev.bind (h y (List.mem_cons_self ..)) ?_
    rw [List.all_cons]
    cases hm : mB y with
    | true =>
      simp only [if_true, Bool.true_and]
      exact ih (fun x hx => h x (List.mem_cons_of_mem _ hx))
    | false =>
      simp only [Bool.false_eq_true, if_false, Bool.false_and]
      exact Ev.now _
theorem all_tells (tags : List S44) (mB : S29 → Bool) (l : List S29) (hl : l.length < 4611686014132420609) (ht : tags.length < 4611686014132420609) (h : ∀ y ∈ l, Ev (fun k => matchF k y.f0 y.f1 y.f2 tags) (mB y)) : Ev (fun k => filter_All.f k l tags) (l.all mB) := by
  unfold filter_All.f
  simp only [if_pos hl, if_pos ht]
  refine Ev.bind (notAll_tells tags mB l h) ?_
  rw [Bool.not_not]
  exact Ev.now _
/-! ### what the document's own functions answer -/
def signP (c : Int) : Prop := (97 ≤ c ∧ c ≤ 122) ∨ (65 ≤ c ∧ c ≤ 90) ∨ (48 ≤ c ∧ c ≤ 57) ∨ c = 45 ∨ c = 95 ∨ c = 46 ∨ c = 47
theorem sign_iff (c : Int) : signI c = true ↔ signP c := by
  unfold signI name_sign.f signP
  repeat' split
  all_goals simp only [Option.getD_some, beq_iff_eq, true_iff]
  all_goals omega
set_option maxHeartbeats 2000000 in
theorem ref12_step (s : ByteArray) (j : Int) (h0 : 0 ≤ j) (k : Nat) : marigraphref12_Right.l0 (k + 1) s j = if j < (s.size : Int) then (if signI (bt s j) = true then marigraphref12_Right.l0 k s (wrap64 (j + 1)) else some false) else some true := by
  simp only [marigraphref12_Right.l0]
  by_cases h : j < (s.size : Int)
  · rw [if_pos h, if_pos h, if_pos h0]
    generalize bt s j = c
    generalize marigraphref12_Right.l0 k s (wrap64 (j + 1)) = X
    by_cases hs : signI c = true
    · rw [if_pos hs]
      have := (sign_iff c).1 hs
      unfold signP at this
      repeat' split
      all_goals first | rfl | (exfalso; omega)
    · rw [if_neg hs]
      have : ¬ signP c := fun hp => hs ((sign_iff c).2 hp)
      unfold signP at this
      repeat' split
      all_goals first | rfl | (exfalso; omega)
  · rw [if_neg h, if_neg h]
theorem nm_bad {s : ByteArray} (h : ¬ (0 < s.size ∧ s.size ≤ 32)) : ∀ n j, nmFrom s n j = false := by
  intro n
  induction n with
  | zero => intro j; exact decide_eq_false h
  | succ n ih => intro j; rw [nmFrom, ih, Bool.and_false]
theorem ref12_loop (s : ByteArray) (h : 0 < s.size ∧ s.size ≤ 32) : ∀ n j : Nat, s.size - j = n → j ≤ s.size → Ev (fun k => marigraphref12_Right.l0 k s (j : Int)) (nmFrom s n j) := by
  intro n
  induction n with
  | zero =>
    intro j hj hle
    refine evDown ?_
    simp only [ref12_step s (j : Int) (Int.natCast_nonneg j), if_neg (show ¬ (j : Int) < (s.size : Int) by omega)]
    unfold nmFrom
    rw [decide_eq_true h]
    exact Ev.now _
  | succ n ih =>
    intro j hj hle
    refine evDown ?_
    simp only [ref12_step s (j : Int) (Int.natCast_nonneg j), if_pos (show (j : Int) < (s.size : Int) by omega)]
    unfold nmFrom
    by_cases hs : signI (bt s (j : Int)) = true
    · simp only [hs, if_true, Bool.true_and, w1 (show j < 4611686018427387904 by omega)]
      exact ih (j + 1) (by omega) (by omega)
    · rw [Bool.not_eq_true] at hs
      simp only [hs, Bool.false_and, Bool.false_eq_true, if_false]
      exact Ev.now _
theorem ref12_tells (s : ByteArray) : Ev (fun k => marigraphref12_Right.f k s) (nameB s) := by
  unfold marigraphref12_Right.f nameB
  by_cases h1 : (s.size : Int) < 1
  · simp only [if_pos h1]
    refine evDown ?_
    simp only [marigraphref12_Right.j0, if_true]
    rw [nm_bad (by omega)]
    exact Ev.now _
  · simp only [if_neg h1]
    refine evDown ?_
    by_cases h2 : (s.size : Int) > 32
    · simp only [marigraphref12_Right.j0, decide_eq_true h2, if_true]
      rw [nm_bad (by omega)]
      exact Ev.now _
    · simp only [marigraphref12_Right.j0, decide_eq_false h2, Bool.false_eq_true, if_false]
      exact ref12_loop s (by omega) s.size 0 rfl (Nat.zero_le _)
theorem refr_loop (key : ByteArray) (kd : Int) (l : List ByteArray) (hl : l.length < 4611686018427387904) : ∀ n j : Nat, l.length - j = n → j ≤ l.length → Ev (fun k => marigraphref19_Right.l0 k (j : Int) key kd l) (decide (0 < l.length ∧ l.length ≤ 8) && (l.drop j).all nameB) := by
  intro n
  induction n with
  | zero =>
    intro j hj hle
    refine evDown ?_
    simp only [marigraphref19_Right.l0, if_neg (show ¬ (j : Int) < (l.length : Int) by omega)]
    rw [List.drop_of_length_le (by omega), List.all_nil, Bool.and_true]
    by_cases h1 : (l.length : Int) ≥ 1
    · simp only [if_pos h1]
      rw [show decide (0 < l.length ∧ l.length ≤ 8) = decide ((l.length : Int) ≤ 8) from by rw [decide_eq_decide]; omega]
      exact Ev.now _
    · simp only [if_neg h1]
      rw [decide_eq_false (by omega)]
      exact Ev.now _
  | succ n ih =>
    intro j hj hle
    have hlt : j < l.length := by omega
    refine evDown ?_
    simp only [marigraphref19_Right.l0, if_pos (show (j : Int) < (l.length : Int) by omega), if_pos (show 0 ≤ (j : Int) by omega), rdS_at hlt]
    refine Ev.bind (ref12_tells l[j]) ?_
    rw [List.drop_eq_getElem_cons hlt, List.all_cons]
    by_cases h : nameB l[j] = true
    · simp only [h, if_true, Bool.true_and, w1 (show j < 4611686018427387904 by omega)]
      exact ih (j + 1) (by omega) (by omega)
    · rw [Bool.not_eq_true] at h
      simp only [h, Bool.false_eq_true, if_false, Bool.false_and, Bool.and_false]
      exact Ev.now _
theorem refr_j (key : ByteArray) (kd : Int) (vs : List ByteArray) (hv : vs.length < 4611686018427387904) (b : Bool) (hb : b = decide (kd = 1 ∨ kd = 2)) : Ev (fun k => marigraphref19_Right.j0 k kd b key kd vs) (if kd = 1 ∨ kd = 2 then decide (0 < vs.length ∧ vs.length ≤ 8) && vs.all nameB else if kd = 3 ∨ kd = 4 then vs.isEmpty else false) := by
  refine evDown ?_
  simp only [marigraphref19_Right.j0]
  by_cases h : kd = 1 ∨ kd = 2
  · rw [decide_eq_true h] at hb
    subst hb
    simp only [if_true, if_pos h]
    exact refr_loop key kd vs hv vs.length 0 rfl (Nat.zero_le _)
  · rw [decide_eq_false h] at hb
    subst hb
    simp only [Bool.false_eq_true, if_false, if_neg h]
    have he : ((vs.length : Int) == 0) = vs.isEmpty := by
      cases vs with
      | nil => rfl
      | cons a b => simp; omega
    by_cases h3 : kd = 3
    · simp only [if_pos h3, if_pos (show kd = 3 ∨ kd = 4 from .inl h3), he]
      exact Ev.now _
    · simp only [if_neg h3]
      by_cases h4 : kd = 4
      · simp only [if_pos h4, if_pos (show kd = 3 ∨ kd = 4 from .inr h4), he]
        exact Ev.now _
      · simp only [if_neg h4, if_neg (show ¬ (kd = 3 ∨ kd = 4) by omega)]
        exact Ev.now _
theorem refr_tells (key : ByteArray) (kd : Int) (vs : List ByteArray) (hv : vs.length < 4611686018427387904) : Ev (fun k => marigraphref19_Right.f k key kd vs) (rightB key kd vs) := by
  unfold marigraphref19_Right.f rightB
  refine Ev.bind (ref12_tells key) ?_
  by_cases h : nameB key = true
  · simp only [h, if_true, Bool.true_and]
    by_cases h1 : kd = 1
    · simp only [if_pos h1]
      exact refr_j key kd vs hv _ (by subst h1; rfl)
    · simp only [if_neg h1]
      exact refr_j key kd vs hv _ (by by_cases h2 : kd = 2 <;> simp [h1, h2])
  · rw [Bool.not_eq_true] at h
    simp only [h, Bool.false_and, Bool.false_eq_true, if_false]
    exact Ev.now _
theorem in_loop (l : List ByteArray) (s : ByteArray) (hl : l.length < 4611686018427387904) : ∀ n j : Nat, l.length - j = n → j ≤ l.length → Ev (fun k => marigraphref19_in.l0 k l s (j : Int)) (hasB (l.drop j) s) := by
  intro n
  induction n with
  | zero =>
    intro j hj hle
    refine evDown ?_
    simp only [marigraphref19_in.l0, if_neg (show ¬ (j : Int) < (l.length : Int) by omega)]
    rw [List.drop_of_length_le (by omega)]
    exact Ev.now _
  | succ n ih =>
    intro j hj hle
    have hlt : j < l.length := by omega
    refine evDown ?_
    simp only [marigraphref19_in.l0, if_pos (show (j : Int) < (l.length : Int) by omega), if_pos (show 0 ≤ (j : Int) by omega), rdS_at hlt]
    rw [List.drop_eq_getElem_cons hlt]
    unfold hasB
    rw [List.any_cons]
    by_cases h : (l[j]).toList = s.toList
    · simp only [if_pos h]
      rw [beq_iff_eq.mpr h.symm, Bool.true_or]
      exact Ev.now _
    · simp only [if_neg h, w1 (show j < 4611686018427387904 by omega)]
      rw [beq_eq_false_iff_ne.mpr (Ne.symm h), Bool.false_or]
      exact ih (j + 1) (by omega) (by omega)
theorem in_tells (l : List ByteArray) (s : ByteArray) (hl : l.length < 4611686018427387904) : Ev (fun k => marigraphref19_in.f k l s) (hasB l s) := in_loop l s hl l.length 0 rfl (Nat.zero_le _)
theorem rdT_at {l : List S44} {j : Nat} (h : j < l.length) : rd_T44 l (j : Int) = l[j] := by
  unfold rd_T44
  rw [Int.toNat_natCast, List.getD_eq_getElem?_getD, List.getElem?_eq_getElem h]
  rfl
theorem refm_loop (l : List S44) (key : ByteArray) (kd : Int) (vs : List ByteArray) (hl : l.length < 4611686018427387904) (hv : vs.length < 4611686018427387904) : ∀ n j : Nat, l.length - j = n → j ≤ l.length → ∀ t u : Bool, Ev (fun k => marigraphref19_Match.l0 k l t u (j : Int) key kd vs) (if kd = 1 then (u || oneB key vs (l.drop j)) else if kd = 2 then ((t || thereB key (l.drop j)) && !(u || oneB key vs (l.drop j))) else ((t || thereB key (l.drop j)) == decide (kd = 3))) := by
  intro n
  induction n with
  | zero =>
    intro j hj hle t u
    refine evDown ?_
    simp only [marigraphref19_Match.l0, if_neg (show ¬ (j : Int) < (l.length : Int) by omega)]
    rw [List.drop_of_length_le (by omega)]
    simp only [oneB, thereB, List.any_nil, Bool.or_false]
    by_cases h1 : kd = 1
    · simp only [if_pos h1]; exact Ev.now _
    · simp only [if_neg h1]
      by_cases h2 : kd = 2
      · simp only [if_pos h2]
        cases t
        · exact Ev.now _
        · exact Ev.now _
      · simp only [if_neg h2]
        by_cases h3 : kd = 3
        · simp only [if_pos h3, decide_eq_true h3]
          cases t <;> exact Ev.now _
        · simp only [if_neg h3, decide_eq_false h3]
          cases t <;> exact Ev.now _
  | succ n ih =>
    intro j hj hle t u
    have hlt : j < l.length := by omega
    refine evDown ?_
    simp only [marigraphref19_Match.l0, if_pos (show (j : Int) < (l.length : Int) by omega), if_pos (show 0 ≤ (j : Int) by omega), rdT_at hlt, w1 (show j < 4611686018427387904 by omega)]
    rw [List.drop_eq_getElem_cons hlt]
    simp only [oneB, thereB, List.any_cons]
    by_cases h : (l[j]).f0.toList = key.toList
    · simp only [if_pos h]
      rw [beq_iff_eq.mpr h, Bool.true_and, Bool.true_or, Bool.or_true]
      cases u with
      | true =>
        simp only [if_true, Bool.true_or]
        have := ih (j + 1) (by omega) (by omega) true true
        simp only [Bool.true_or] at this
        exact this
      | false =>
        simp only [Bool.false_eq_true, if_false, Bool.false_or]
        refine Ev.bind (in_tells vs (l[j]).f1 hv) ?_
        have := ih (j + 1) (by omega) (by omega) true (hasB vs (l[j]).f1)
        simp only [Bool.true_or, oneB, thereB] at this
        exact this
    · simp only [if_neg h]
      rw [beq_eq_false_iff_ne.mpr h, Bool.false_and, Bool.false_or, Bool.false_or]
      exact ih (j + 1) (by omega) (by omega) t u
theorem refm_tells (key : ByteArray) (kd : Int) (vs : List ByteArray) (l : List S44) (hv : vs.length < 4611686018427387904) (hl : l.length < 4611686018427387904) : Ev (fun k => marigraphref19_Match.f k key kd vs l) (matchB key kd vs l) := by
  unfold marigraphref19_Match.f matchB
  refine Ev.bind (refr_tells key kd vs hv) ?_
  by_cases h : rightB key kd vs = true
  · simp only [h, if_true, Bool.true_and]
    have := refm_loop l key kd vs hl hv l.length 0 rfl (Nat.zero_le _) false false
    simp only [List.drop_zero, Bool.false_or] at this
    exact this
  · rw [Bool.not_eq_true] at h
    simp only [h, Bool.false_eq_true, if_false, Bool.false_and]
    exact Ev.now _
theorem rdF_at {l : List S29} {j : Nat} (h : j < l.length) : rd_T29 l (j : Int) = l[j] := by
  unfold rd_T29
  rw [Int.toNat_natCast, List.getD_eq_getElem?_getD, List.getElem?_eq_getElem h]
  rfl
theorem refa_loop (l : List S29) (tags : List S44) (mB : S29 → Bool) (hl : l.length < 4611686018427387904) (h : ∀ y ∈ l, Ev (fun k => marigraphref19_Match.f k y.f0 y.f1 y.f2 tags) (mB y)) : ∀ n j : Nat, l.length - j = n → j ≤ l.length → Ev (fun k => marigraphref19_All.l0 k l tags (j : Int)) ((l.drop j).all mB) := by
  intro n
  induction n with
  | zero =>
    intro j hj hle
    refine evDown ?_
    simp only [marigraphref19_All.l0, if_neg (show ¬ (j : Int) < (l.length : Int) by omega)]
    rw [List.drop_of_length_le (by omega)]
    exact Ev.now _
  | succ n ih =>
    intro j hj hle
    have hlt : j < l.length := by omega
    refine evDown ?_
    simp only [marigraphref19_All.l0, if_pos (show (j : Int) < (l.length : Int) by omega), if_pos (show 0 ≤ (j : Int) by omega), rdF_at hlt]
    refine Ev.bind (h _ (List.getElem_mem hlt)) ?_
    rw [List.drop_eq_getElem_cons hlt, List.all_cons]
    by_cases hm : mB l[j] = true
    · simp only [hm, if_true, Bool.true_and, w1 (show j < 4611686018427387904 by omega)]
      exact ih (j + 1) (by omega) (by omega)
    · rw [Bool.not_eq_true] at hm
      simp only [hm, Bool.false_eq_true, if_false, Bool.false_and]
      exact Ev.now _
theorem refa_tells (l : List S29) (tags : List S44) (mB : S29 → Bool) (hl : l.length < 4611686018427387904) (h : ∀ y ∈ l, Ev (fun k => marigraphref19_Match.f k y.f0 y.f1 y.f2 tags) (mB y)) : Ev (fun k => marigraphref19_All.f k l tags) (l.all mB) := refa_loop l tags mB hl h l.length 0 rfl (Nat.zero_le _)
theorem same_tells (key : ByteArray) (kd : Int) (vs : List ByteArray) (l : List S44) (hk : key.size < 4611686018427387904) (hv : Sml vs) (hv2 : vs.length < 8796093022208) (hl : l.length < 4611686014132420609) : Ev (fun k => marigraphlaw19_same.f k key kd vs l) true := by
  unfold marigraphlaw19_same.f
  simp only [if_pos hv2]
  refine Ev.bind (right_tells key kd vs hk hv) (Ev.bind (refr_tells key kd vs hv.1) (Ev.bind (match_tells key kd vs l hk hv hl) (Ev.bind (refm_tells key kd vs l hv.1 (by omega)) ?_)))
  simp only [beq_self_eq_true, Bool.and_true, if_true]
  exact Ev.now _
/-! ### FilterTells -/
def FilterTellsPure : Prop := ∀ (r0 : ByteArray) (r1 : Int) (vs : List ByteArray) (lF : List S24) (p0 p1 p2 p3 p4 : Int) (p5 : Bool) (p6 p7 : Int) (tg : List S44), r0.size ≤ 140737488351232 → (∀ s ∈ vs, s.size ≤ 140737488351232) → (Lit.int .i64 p0).wf = true → (Lit.int .i64 p1).wf = true → (Lit.int .i64 p2).wf = true → (Lit.int .i64 p3).wf = true → (Lit.int .i64 p4).wf = true → (Lit.int .i64 p6).wf = true → (Lit.int .i64 p7).wf = true →
  ∃ (k : Nat) (met : ByteArray) (mine : List S44) (pt pv : Int) (b1 b2 : Bool), marigraphkeep_Of.f k p0 p1 p2 p3 p4 p5 p6 p7 = some (met, mine, pt, pv) ∧
    (∀ x ∈ lF, marigraphlaw19_same.f k (madeF x).f0 (madeF x).f1 (madeF x).f2 mine = some true) ∧ (∀ x ∈ lF, marigraphlaw19_same.f k (madeF x).f0 (madeF x).f1 (madeF x).f2 (tg.take 6) = some true) ∧
    marigraphlaw19_same.f k r0 r1 (vs.take 10) mine = some true ∧ marigraphlaw19_same.f k r0 r1 (vs.take 10) (tg.take 6) = some true ∧
    filter_All.f k ((lF.take 6).map madeF) mine = some b1 ∧ marigraphref19_All.f k ((lF.take 6).map madeF) mine = some b1 ∧ filter_All.f k ((lF.take 6).map madeF ++ [⟨r0, r1, vs.take 10⟩]) mine = some b2 ∧ marigraphref19_All.f k ((lF.take 6).map madeF ++ [⟨r0, r1, vs.take 10⟩]) mine = some b2 ∧
    marigraphlaw19_known.f k = some true
theorem FilterTells : FilterTellsPure := by
  intro r0 r1 vs lF p0 p1 p2 p3 p4 p5 p6 p7 tg z0 zv w0 w1_ w2 w3 w4 w6 w7
  obtain ⟨met, mine, tm, v, e1, ht, -, -, -, -, -⟩ := of_tells (p5 := p5) (i64_of w0) (i64_of w1_) (i64_of w2) (i64_of w3) (i64_of w4) (i64_of w6) (i64_of w7)
  have hl := ofTags_short ht
  have hg : (tg.take 6).length < 4611686014132420609 := by rw [List.length_take]; omega
  have hv10 : (vs.take 10).length ≤ 10 := by rw [List.length_take]; omega
  have hvs : Sml (vs.take 10) := ⟨by omega, fun s hs => by have := zv s (List.mem_of_mem_take hs); omega⟩
  have hr0 : r0.size < 4611686018427387904 := by omega
  have hS : ∀ (tags : List S44), tags.length < 4611686014132420609 → ∀ x ∈ lF, Ev (fun k => marigraphlaw19_same.f k (madeF x).f0 (madeF x).f1 (madeF x).f2 tags) ((fun _ : S24 => true) x) := by
    intro tags hl x _
    obtain ⟨m1, m2, m3, m4, m5, -⟩ := made_ok x
    exact same_tells _ _ _ tags m2 m3 (by omega) hl
  obtain ⟨K1, h1⟩ := ev_list (hS mine hl)
  obtain ⟨K2, h2⟩ := ev_list (hS (tg.take 6) hg)
  obtain ⟨K3, h3⟩ := same_tells r0 r1 (vs.take 10) mine hr0 hvs (by omega) hl
  obtain ⟨K4, h4⟩ := same_tells r0 r1 (vs.take 10) (tg.take 6) hr0 hvs (by omega) hg
  have hlen : ((lF.take 6).map madeF).length ≤ 6 := by rw [List.length_map, List.length_take]; omega
  have hy : ∀ y ∈ (lF.take 6).map madeF ++ [(⟨r0, r1, vs.take 10⟩ : S29)], y.f0.size < 4611686018427387904 ∧ Sml y.f2 := by
    intro y hy
    rcases List.mem_append.1 hy with hy | hy
    · obtain ⟨x, _, rfl⟩ := List.mem_map.1 hy
      obtain ⟨m1, m2, m3, -⟩ := made_ok x
      exact ⟨m2, m3⟩
    · obtain rfl := List.mem_singleton.1 hy
      exact ⟨hr0, hvs⟩
  have hA : ∀ l : List S29, (∀ y ∈ l, y.f0.size < 4611686018427387904 ∧ Sml y.f2) → l.length ≤ 7 → ∃ b, Ev (fun k => filter_All.f k l mine) b ∧ Ev (fun k => marigraphref19_All.f k l mine) b := by
    intro l hl2 h7
    exact ⟨_, all_tells mine (fun y => matchB y.f0 y.f1 y.f2 mine) l (by omega) hl (fun y hy => matchF_tells _ _ _ mine (hl2 y hy).1 (hl2 y hy).2), refa_tells l mine (fun y => matchB y.f0 y.f1 y.f2 mine) (by omega) (fun y hy => refm_tells _ _ _ mine (hl2 y hy).2.1 (by omega))⟩
  obtain ⟨b1, ⟨K5, h5⟩, ⟨K6, h6⟩⟩ := hA _ (fun y h => hy y (List.mem_append_left _ h)) (by omega)
  obtain ⟨b2, ⟨K7, h7⟩, ⟨K8, h8⟩⟩ := hA _ hy (by rw [List.length_append]; simp only [List.length_singleton]; omega)
  obtain ⟨K, h⟩ := e1
  obtain ⟨Kk, ek⟩ := known19_tells
  exact ⟨K + K1 + K2 + K3 + K4 + K5 + K6 + K7 + K8 + Kk, met, mine, tm, v, b1, b2, h _ (by omega), fun x hx => h1 _ (by omega) x hx, fun x hx => h2 _ (by omega) x hx, h3 _ (by omega), h4 _ (by omega), h5 _ (by omega), h6 _ (by omega), h7 _ (by omega), h8 _ (by omega), ek _ (by omega)⟩

end Go.Proofs.Yteghihdcagbmbaa.Pure

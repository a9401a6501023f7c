/- MergeJoins: joined in parts, rows are as joined at once; what is joined rises, and has just the rows' keys. -/
import Derived.Test.YtmimfnangdabmaaPMergeJoinsx0
import Derived.Test.YtmimfnangdabmaaPMergeJoinsx1
import Derived.Test.YtmimfnangdabmaaPMergeJoinsx2
import Derived.Test.YtmimfnangdabmaaPMergeJoinsx3
import Derived.Test.YtmimfnangdabmaaPMergeJoinsx4
import Derived.Test.YtmimfnangdabmaaPMergeJoinsx5
import Derived.Test.YtmimfnangdabmaaPMergeJoinsx6
import Derived.Test.YtmimfnangdabmaaPMergeJoinsx7
namespace Go.Proofs.Ytmimfnangdabmaa.Pure
open Go.RowKit Go.Proofs.Ytmimfnangdabmaa.PMergeJoins Go.Proofs.YtmimfnangdabmaaW.PrintWords Go.Proofs.YtmimfnangdabmaaW.PrintLast
set_option linter.unusedVariables false
set_option linter.unusedSimpArgs false

/-! ### bytes as whole numbers: in range, in order -/
def Byt (l : List Int) : Prop := ∀ x ∈ l, 0 ≤ x ∧ x ≤ 255
theorem Byt.cons {x : Int} {l : List Int} (h : Byt (x :: l)) : (0 ≤ x ∧ x ≤ 255) ∧ Byt l := ⟨h x (by simp), fun y hy => h y (by simp [hy])⟩
theorem u8_lt {x y : Int} (hx : 0 ≤ x ∧ x ≤ 255) (hy : 0 ≤ y ∧ y ≤ 255) : (UInt8.ofNat x.toNat < UInt8.ofNat y.toNat) ↔ x < y := by
  rw [UInt8.lt_iff_toNat_lt, UInt8.toNat_ofNat', UInt8.toNat_ofNat']
  omega
def lexI : List Int → List Int → Int
  | [], [] => 0
  | [], _ :: _ => -1
  | _ :: _, [] => 1
  | a :: p, b :: q => if a < b then -1 else if b < a then 1 else lexI p q
theorem cmp_lexI : ∀ {a b : List Int}, Byt a → Byt b → Lib.compareBytes (Lib.bytesOf a) (Lib.bytesOf b) = lexI a b
  | [], [], _, _ => rfl
  | [], _ :: _, _, _ => rfl
  | _ :: _, [], _, _ => rfl
  | x :: a, y :: b, ha, hb => by
    have ih := cmp_lexI ha.cons.2 hb.cons.2
    have h1 := u8_lt ha.cons.1 hb.cons.1
    have h2 := u8_lt hb.cons.1 ha.cons.1
    unfold Lib.bytesOf at ih ⊢
    rw [List.map_cons, List.map_cons, Lib.compareBytes, lexI, ih]
    simp only [h1, h2]
theorem lexI_pre (p a b : List Int) : lexI (p ++ a) (p ++ b) = lexI a b := by
  induction p with
  | nil => rfl
  | cons x p ih =>
    show (if x < x then _ else _) = _
    rw [if_neg (Int.lt_irrefl x), if_neg (Int.lt_irrefl x)]
    exact ih
theorem lexI_self (a : List Int) : lexI a a = 0 := by
  have := lexI_pre a [] []
  simpa [lexI] using this
/-! ### Put -/
def be (n : Int) : Nat → List Int
  | 0 => []
  | s + 1 => (n / 2 ^ (8 * s)) % 256 :: be n s
/-! ### bytes as strings -/
theorem u8_eq {x y : Int} (hx : 0 ≤ x ∧ x ≤ 255) (hy : 0 ≤ y ∧ y ≤ 255) : (UInt8.ofNat x.toNat = UInt8.ofNat y.toNat) ↔ x = y := by
  constructor
  · intro h
    have h := congrArg UInt8.toNat h
    rw [UInt8.toNat_ofNat', UInt8.toNat_ofNat'] at h
    omega
  · rintro rfl; rfl
theorem bytesOf_inj : ∀ {a b : List Int}, Byt a → Byt b → (Lib.bytesOf a = Lib.bytesOf b ↔ a = b)
  | [], [], _, _ => by simp
  | [], _ :: _, _, _ => by simp [Lib.bytesOf]
  | _ :: _, [], _, _ => by simp [Lib.bytesOf]
  | x :: a, y :: b, ha, hb => by
    have ih := bytesOf_inj ha.cons.2 hb.cons.2
    have h1 := u8_eq ha.cons.1 hb.cons.1
    unfold Lib.bytesOf at ih ⊢
    rw [List.map_cons, List.map_cons, List.cons.injEq, List.cons.injEq, h1, ih]
theorem sn_eq {a b : List Int} (ha : Byt a) (hb : Byt b) : ((strOfNums a).toList = (strOfNums b).toList) ↔ a = b := by
  rw [Lib.strOfNums_toList, Lib.strOfNums_toList]
  exact bytesOf_inj ha hb
theorem sn_beq {a b : List Int} (ha : Byt a) (hb : Byt b) : ((strOfNums a).toList == (strOfNums b).toList) = decide (a = b) := by
  rw [Bool.eq_iff_iff, beq_iff_eq, decide_eq_true_iff]
  exact sn_eq ha hb
theorem bytesLess_lexI : ∀ {a b : List Int}, Byt a → Byt b → Op.bytesLess (Lib.bytesOf a) (Lib.bytesOf b) = decide (lexI a b < 0)
  | [], [], _, _ => rfl
  | [], _ :: _, _, _ => rfl
  | _ :: _, [], _, _ => rfl
  | x :: a, y :: b, ha, hb => by
    have ih := bytesLess_lexI ha.cons.2 hb.cons.2
    have h1 := u8_lt ha.cons.1 hb.cons.1
    have h2 := u8_eq ha.cons.1 hb.cons.1
    unfold Lib.bytesOf at ih ⊢
    rw [List.map_cons, List.map_cons, Op.bytesLess, lexI, ih]
    rw [Bool.eq_iff_iff]
    simp only [Bool.or_eq_true, Bool.and_eq_true, decide_eq_true_iff, beq_iff_eq, h1, h2]
    by_cases hlt : x < y
    · simp [hlt]
    · by_cases hgt : y < x
      · have hne : ¬ x = y := by omega
        simp [hlt, hgt, hne]
      · have he : x = y := by omega
        simp [he]
theorem evDown {α : Type} {g : Nat → Option α} {r : α} (h : Ev (fun k => g (k + 1)) r) : Ev g r := let ⟨K, hK⟩ := h; ⟨K + 1, fun k hk => by
  obtain ⟨m, rfl⟩ : ∃ m, k = m + 1 := ⟨k - 1, by omega⟩
  exact hK m (by omega)⟩
theorem Byt.drop {l : List Int} (h : Byt l) (n : Nat) : Byt (l.drop n) := fun x hx => h x (List.mem_of_mem_drop hx)
theorem Byt.take {l : List Int} (h : Byt l) (n : Nat) : Byt (l.take n) := fun x hx => h x (List.mem_of_mem_take hx)
theorem wadd1 {a : Nat} (h : a ≤ 10000000) : wrap64 ((a : Int) + 1) = ((a + 1 : Nat) : Int) := by unfold wrap64; omega
/-! ### cuts; a record laid -/
theorem cutI_byt {a : List Int} (h : Byt a) (n : Nat) : Byt (cutI a n) := by
  unfold cutI
  split
  · exact h.take n
  · exact h
theorem cutI_len (a : List Int) (n : Nat) : (cutI a n).length ≤ n := by
  unfold cutI
  split
  · rw [List.length_take]; omega
  · omega
theorem cut_tells {a : List Int} {n : Int} (hn : 0 ≤ n) : marigraphkeep_Cut.f a n = some (cutI a n.toNat) := by
  obtain ⟨m, rfl⟩ := Int.eq_ofNat_of_zero_le hn
  unfold marigraphkeep_Cut.f cutI
  rw [Int.toNat_natCast]
  by_cases h : (a.length : Int) > (m : Int)
  · rw [if_pos h, if_pos (by omega), if_pos (by omega), if_pos (by omega)]
  · rw [if_neg h, if_neg (by omega)]
/-- An entry that may be in a small batch. -/
structure SmE (x : S49) : Prop where
  k0 : 1 ≤ x.f0.length
  k1 : x.f0.length ≤ 60
  v1 : x.f1.length ≤ 80
  kb : Byt x.f0
  vb : Byt x.f1
  gn : x.f2 = true → x.f1 = []
theorem rdE_at {l : List S49} {j : Nat} (h : j < l.length) : rd_T49 l (j : Int) = l[j] := by
  unfold rd_T49
  rw [Int.toNat_natCast, List.getD_eq_getElem?_getD, List.getElem?_eq_getElem h]
  rfl
/-! ### entries as they are drawn -/
def normE (key value : Nat) (x : S49) : S49 := ⟨if (cutI x.f0 key).length = 0 then [107] else cutI x.f0 key, if x.f2 = true then [] else cutI x.f1 value, x.f2⟩
def WfE (x : S49) : Prop := Byt x.f0 ∧ Byt x.f1
theorem normE_sm {key value : Nat} (h1 : 1 ≤ key) (hk : key ≤ 60) (hv : value ≤ 80) {x : S49} (h : WfE x) : SmE (normE key value x) := by
  have a := cutI_len x.f0 key
  have b := cutI_len x.f1 value
  unfold normE
  refine ⟨?_, ?_, ?_, ?_, ?_, fun hg => ?_⟩
  · show 1 ≤ (if (cutI x.f0 key).length = 0 then [107] else cutI x.f0 key).length
    split
    · simp
    · omega
  · show (if (cutI x.f0 key).length = 0 then [107] else cutI x.f0 key).length ≤ 60
    split
    · simp
    · omega
  · show (if x.f2 = true then [] else cutI x.f1 value).length ≤ 80
    split
    · simp
    · omega
  · show Byt (if (cutI x.f0 key).length = 0 then [107] else cutI x.f0 key)
    split
    · exact fun y hy => by obtain rfl := List.mem_singleton.1 hy; decide
    · exact cutI_byt h.1 _
  · show Byt (if x.f2 = true then [] else cutI x.f1 value)
    split
    · exact fun _ hy => by cases hy
    · exact cutI_byt h.2 _
  · show (if x.f2 = true then [] else cutI x.f1 value) = []
    rw [if_pos hg]
theorem ent_loop {l : List S49} {n key value : Nat} (hn : n ≤ 1000) : ∀ (d j : Nat) (out : List S49), min l.length n - j = d → j ≤ l.length → j ≤ n → out.length = j → Ev (fun k => marigraphkeep_Entries.l0 k l (n : Int) (key : Int) (value : Int) out (j : Int)) (out ++ ((l.take n).drop j).map (normE key value)) := by
  intro d
  induction d with
  | zero =>
    intro j out hd h1 h2 ho
    have e : (l.take n).drop j = [] := List.drop_of_length_le (by rw [List.length_take]; omega)
    rw [e, List.map_nil, List.append_nil]
    have hj : Ev (fun k => marigraphkeep_Entries.j1 k l (n : Int) (key : Int) (value : Int) out (j : Int) false) out := by
      refine evDown ?_
      simp only [marigraphkeep_Entries.j1, Bool.false_eq_true, if_false]
      exact Ev.now _
    refine evDown ?_
    simp only [marigraphkeep_Entries.l0]
    by_cases h : (j : Int) < (l.length : Int)
    · simp only [if_pos h, decide_eq_false (show ¬ (j : Int) < (n : Int) by omega)]
      exact hj
    · simp only [if_neg h]
      exact hj
  | succ d ih =>
    intro j out hd h1 h2 ho
    have hlt : j < l.length := by omega
    have e : (l.take n).drop j = l[j] :: (l.take n).drop (j + 1) := by
      rw [List.drop_eq_getElem_cons (show j < (l.take n).length by rw [List.length_take]; omega), List.getElem_take]
    rw [e, List.map_cons]
    have hi := ih (j + 1) (out ++ [normE key value l[j]]) (by omega) (by omega) (by omega) (by rw [List.length_append, ho]; rfl)
    rw [List.append_assoc] at hi
    have hrd := rdE_at hlt
    generalize l[j] = x at hi hrd ⊢
    refine evDown ?_
    simp only [marigraphkeep_Entries.l0, if_pos (show (j : Int) < (l.length : Int) by omega), decide_eq_true (show (j : Int) < (n : Int) by omega)]
    refine evDown ?_
    simp only [marigraphkeep_Entries.j1, if_true, if_pos (show 0 ≤ (j : Int) by omega), if_pos (show (j : Int) < (l.length : Int) by omega), hrd, cut_tells (a := x.f0) (n := (key : Int)) (by omega), cut_tells (a := x.f1) (n := (value : Int)) (by omega), Int.toNat_natCast, Option.bind_some, if_pos (show out.length < 2513169434916 by omega), wadd1 (show j ≤ 10000000 by omega)]
    by_cases hk : (cutI x.f0 key).length = 0
    · simp only [if_pos (show ((cutI x.f0 key).length : Int) = 0 by omega)]
      by_cases hg : x.f2 = true
      · have hne : normE key value x = ⟨[107], [], x.f2⟩ := by unfold normE; rw [if_pos hk, if_pos hg]
        rw [hne] at hi ⊢
        simp only [if_pos hg]
        exact hi
      · have hne : normE key value x = ⟨[107], cutI x.f1 value, x.f2⟩ := by unfold normE; rw [if_pos hk, if_neg hg]
        rw [hne] at hi ⊢
        simp only [if_neg hg]
        exact hi
    · simp only [if_neg (show ¬ ((cutI x.f0 key).length : Int) = 0 by omega)]
      by_cases hg : x.f2 = true
      · have hne : normE key value x = ⟨cutI x.f0 key, [], x.f2⟩ := by unfold normE; rw [if_neg hk, if_pos hg]
        rw [hne] at hi ⊢
        simp only [if_pos hg]
        exact hi
      · have hne : normE key value x = ⟨cutI x.f0 key, cutI x.f1 value, x.f2⟩ := by unfold normE; rw [if_neg hk, if_neg hg]
        rw [hne] at hi ⊢
        simp only [if_neg hg]
        exact hi
theorem ent_tells (l : List S49) (n key value : Nat) (hn : n ≤ 1000) : Ev (fun k => marigraphkeep_Entries.f k l (n : Int) (key : Int) (value : Int)) ((l.take n).map (normE key value)) := by
  have := ent_loop (l := l) (n := n) (key := key) (value := value) hn _ 0 [] rfl (Nat.zero_le _) (Nat.zero_le _) rfl
  rw [List.drop_zero, List.nil_append] at this
  exact this
/-- An entry as it is read: of a batch that was written. -/
structure CanE (x : S49) : Prop where
  k0 : 1 ≤ x.f0.length
  k1 : x.f0.length ≤ 255
  v1 : x.f1.length ≤ 4095
  kb : Byt x.f0
  vb : Byt x.f1
  gn : x.f2 = true → x.f1 = []
/-- An entry that may be written. -/
def MayE (x : S49) : Prop := 1 ≤ x.f0.length ∧ x.f0.length ≤ 255 ∧ (x.f2 = true ∨ x.f1.length ≤ 4095)
instance (x : S49) : Decidable (MayE x) := inferInstanceAs (Decidable (_ ∧ _ ∧ _))
theorem CanE.may {x : S49} (h : CanE x) : MayE x := ⟨h.k0, h.k1, .inr h.v1⟩
/-- The entry as it is kept: no value where it is gone. -/
def putE (x : S49) : S49 := ⟨x.f0, if x.f2 = true then [] else x.f1, x.f2⟩
/-! ### rows by rising keys: what is found in them -/
theorem lex_flip : ∀ a b : List Int, lexI a b = - lexI b a
  | [], [] => rfl
  | [], _ :: _ => rfl
  | _ :: _, [] => rfl
  | x :: a, y :: b => by
    have ih := lex_flip a b
    simp only [lexI]
    by_cases h1 : x < y
    · rw [if_pos h1, if_neg (show ¬ y < x by omega), if_pos h1]
    · by_cases h2 : y < x
      · rw [if_neg h1, if_pos h2, if_pos h2]; rfl
      · rw [if_neg h1, if_neg h2, if_neg h2, if_neg h1, ih]
theorem lex_zero : ∀ a b : List Int, lexI a b = 0 → a = b
  | [], [], _ => rfl
  | [], _ :: _, h => by simp [lexI] at h
  | _ :: _, [], h => by simp [lexI] at h
  | x :: a, y :: b, h => by
    simp only [lexI] at h
    by_cases h1 : x < y
    · rw [if_pos h1] at h; omega
    · by_cases h2 : y < x
      · rw [if_neg h1, if_pos h2] at h; omega
      · rw [if_neg h1, if_neg h2] at h
        rw [show x = y by omega, lex_zero a b h]
theorem lex_trans : ∀ a b c : List Int, lexI a b < 0 → lexI b c < 0 → lexI a c < 0
  | [], [], _, h, _ => by simp [lexI] at h
  | [], _ :: _, [], _, h => by simp [lexI] at h
  | [], _ :: _, _ :: _, _, _ => by simp [lexI]
  | _ :: _, [], _, h, _ => by simp [lexI] at h
  | _ :: _, _ :: _, [], _, h => by simp [lexI] at h
  | x :: a, y :: b, z :: c, h1, h2 => by
    have ih := lex_trans a b c
    simp only [lexI] at h1 h2 ⊢
    by_cases a1 : x < y
    · by_cases b1 : y < z
      · rw [if_pos (show x < z by omega)]; decide
      · by_cases b2 : z < y
        · rw [if_neg b1, if_pos b2] at h2; omega
        · rw [if_pos (show x < z by omega)]; decide
    · by_cases a2 : y < x
      · rw [if_neg a1, if_pos a2] at h1; omega
      · rw [if_neg a1, if_neg a2] at h1
        by_cases b1 : y < z
        · rw [if_pos (show x < z by omega)]; decide
        · by_cases b2 : z < y
          · rw [if_neg b1, if_pos b2] at h2; omega
          · rw [if_neg b1, if_neg b2] at h2
            rw [if_neg (show ¬ x < z by omega), if_neg (show ¬ z < x by omega)]
            exact ih h1 h2
theorem lex_irr (a : List Int) : ¬ lexI a a < 0 := by rw [lexI_self]; omega
theorem lex_ne {a b : List Int} (h : lexI a b < 0) : a ≠ b := fun e => by rw [e] at h; exact lex_irr b h
theorem lex_tri {a b : List Int} (h1 : ¬ lexI a b < 0) (h2 : a ≠ b) : lexI b a < 0 := by
  have h3 := lex_flip a b
  have h4 : lexI a b ≠ 0 := fun e => h2 (lex_zero _ _ e)
  omega
theorem lex_asym {a b : List Int} (h : lexI a b < 0) : ¬ lexI b a < 0 := fun h2 => lex_irr a (lex_trans _ _ _ h h2)
/-- Keys rise. -/
def Ris (l : List S49) : Prop := l.Pairwise (fun x y => lexI x.f0 y.f0 < 0)
/-- The entry of a key. -/
def lk (l : List S49) (c : List Int) : Option S49 := l.find? (fun x => decide (x.f0 = c))
theorem lk_cons (x : S49) (l : List S49) (c : List Int) : lk (x :: l) c = if x.f0 = c then some x else lk l c := by
  unfold lk
  by_cases h : x.f0 = c
  · rw [List.find?_cons_of_pos (by simpa using h), if_pos h]
  · rw [List.find?_cons_of_neg (by simpa using h), if_neg h]
theorem lk_mem {l : List S49} {c : List Int} {x : S49} (h : lk l c = some x) : x ∈ l ∧ x.f0 = c := ⟨List.mem_of_find?_eq_some h, by simpa using List.find?_some h⟩
theorem lk_none {l : List S49} {c : List Int} (h : ∀ x ∈ l, x.f0 ≠ c) : lk l c = none := List.find?_eq_none.2 (fun x hx => by simpa using h x hx)
theorem lk_self {l : List S49} (hr : Ris l) {x : S49} (hx : x ∈ l) : lk l x.f0 = some x := by
  induction l with
  | nil => cases hx
  | cons y r ih =>
    obtain ⟨h1, h2⟩ := List.pairwise_cons.1 hr
    rw [lk_cons]
    rcases List.mem_cons.1 hx with rfl | hx
    · rw [if_pos rfl]
    · rw [if_neg (lex_ne (h1 x hx)), ih h2 hx]
/-- Rising rows in which the same is found are the same. -/
theorem ris_ext : ∀ {a b : List S49}, Ris a → Ris b → (∀ c, lk a c = lk b c) → a = b
  | [], [], _, _, _ => rfl
  | [], y :: b, _, hb, h => by
    have := h y.f0
    rw [lk_cons, if_pos rfl] at this
    cases this
  | x :: a, [], ha, _, h => by
    have := h x.f0
    rw [lk_cons, if_pos rfl] at this
    cases this
  | x :: a, y :: b, ha, hb, h => by
    obtain ⟨a1, a2⟩ := List.pairwise_cons.1 ha
    obtain ⟨b1, b2⟩ := List.pairwise_cons.1 hb
    have e : x = y := by
      have hx := h x.f0
      rw [lk_self ha (List.mem_cons_self ..)] at hx
      have hy := h y.f0
      rw [lk_self hb (List.mem_cons_self ..)] at hy
      have mx := (lk_mem hx.symm).1
      have my := (lk_mem hy).1
      rcases List.mem_cons.1 mx with e | mx
      · exact e
      · rcases List.mem_cons.1 my with e | my
        · exact e.symm
        · exact absurd (a1 y my) (lex_asym (b1 x mx))
    subst e
    rw [ris_ext a2 b2 (fun c => ?_)]
    have hc := h c
    rw [lk_cons, lk_cons] at hc
    by_cases hx : x.f0 = c
    · rw [lk_none (fun z hz => by rw [← hx]; exact (lex_ne (a1 z hz)).symm), lk_none (fun z hz => by rw [← hx]; exact (lex_ne (b1 z hz)).symm)]
    · rwa [if_neg hx, if_neg hx] at hc
/-- An entry put into a rising row. -/
def putS : List S49 → S49 → List S49
  | [], x => [x]
  | y :: r, x => if lexI y.f0 x.f0 < 0 then y :: putS r x else if y.f0 = x.f0 then x :: r else x :: y :: r
theorem putS_mem {x z : S49} : ∀ {l : List S49}, z ∈ putS l x → z = x ∨ z ∈ l
  | [], h => .inl (by simpa [putS] using h)
  | y :: r, h => by
    unfold putS at h
    split at h
    · rcases List.mem_cons.1 h with rfl | h
      · exact .inr (List.mem_cons_self ..)
      · rcases putS_mem h with h | h
        · exact .inl h
        · exact .inr (List.mem_cons_of_mem _ h)
    · split at h
      · rcases List.mem_cons.1 h with h | h
        · exact .inl h
        · exact .inr (List.mem_cons_of_mem _ h)
      · rcases List.mem_cons.1 h with h | h
        · exact .inl h
        · exact .inr h
theorem putS_len {x : S49} : ∀ {l : List S49}, (putS l x).length ≤ l.length + 1
  | [] => Nat.le_refl _
  | y :: r => by
    unfold putS
    have := putS_len (x := x) (l := r)
    split
    · rw [List.length_cons, List.length_cons]; omega
    · split
      · rw [List.length_cons, List.length_cons]; omega
      · exact Nat.le_refl _
theorem putS_ris {x : S49} : ∀ {l : List S49}, Ris l → Ris (putS l x)
  | [], _ => List.pairwise_singleton _ _
  | y :: r, h => by
    obtain ⟨h1, h2⟩ := List.pairwise_cons.1 h
    unfold putS
    split
    · next hlt =>
      refine List.pairwise_cons.2 ⟨fun z hz => ?_, putS_ris h2⟩
      rcases putS_mem hz with rfl | hz
      · exact hlt
      · exact h1 z hz
    · next hn =>
      split
      · next he => exact List.pairwise_cons.2 ⟨fun z hz => by rw [← he]; exact h1 z hz, h2⟩
      · next he =>
        have hxy := lex_tri hn he
        refine List.pairwise_cons.2 ⟨fun z hz => ?_, h⟩
        rcases List.mem_cons.1 hz with rfl | hz
        · exact hxy
        · exact lex_trans _ _ _ hxy (h1 z hz)
/-- All the keys (and values) are bytes. -/
def KB (l : List S49) : Prop := ∀ x ∈ l, Byt x.f0
theorem KB.cons {x : S49} {l : List S49} (h : KB (x :: l)) : Byt x.f0 ∧ KB l := ⟨h x (List.mem_cons_self ..), fun y hy => h y (List.mem_cons_of_mem _ hy)⟩
theorem putS_kb {x : S49} {l : List S49} (h : KB l) (hx : Byt x.f0) : KB (putS l x) := fun y hy => by
  rcases putS_mem hy with rfl | hy
  · exact hx
  · exact h y hy
theorem less_c {a b : List Int} (ha : Byt a) (hb : Byt b) : (Op.bytesLess (strOfNums a).toList (strOfNums b).toList = true) = (lexI a b < 0) := by
  rw [Lib.strOfNums_toList, Lib.strOfNums_toList, bytesLess_lexI ha hb]
  exact decide_eq_true_eq
theorem rd_0 (y : S49) (r : List S49) : rd_T49 (y :: r) ((0 : Nat) : Int) = y := rfl
theorem rd_s (y : S49) (r : List S49) (n : Nat) : rd_T49 (y :: r) ((n + 1 : Nat) : Int) = rd_T49 r (n : Int) := rfl
theorem riseI_eq {x : S49} (hx : Byt x.f0) : ∀ {l : List S49}, KB l → riseI l x = putS l x
  | [], _ => rfl
  | y :: r, h => by
    have ih := riseI_eq hx h.cons.2
    have hc := less_c h.cons.1 hx
    unfold putS
    by_cases hlt : lexI y.f0 x.f0 < 0
    · rw [if_pos hlt, ← ih]
      have e : riseFrom (y :: r) x = riseFrom r x + 1 := by
        rw [riseFrom, if_pos (by rw [hc]; exact hlt)]
      unfold riseI
      rw [e, rd_s, List.length_cons]
      by_cases h2 : riseFrom r x < r.length ∧ (strOfNums (rd_T49 r (riseFrom r x : Nat)).f0).toList = (strOfNums x.f0).toList
      · rw [if_pos h2, if_pos ⟨by omega, h2.2⟩]; rfl
      · rw [if_neg h2, if_neg (fun hh => h2 ⟨by omega, hh.2⟩)]; rfl
    · rw [if_neg hlt]
      have e : riseFrom (y :: r) x = 0 := by
        rw [riseFrom, if_neg (by rw [hc]; exact hlt)]
      unfold riseI
      rw [e, rd_0]
      by_cases he : y.f0 = x.f0
      · rw [if_pos he, if_pos ⟨by simp, by rw [he]⟩]; rfl
      · rw [if_neg he, if_neg (fun hh => he ((sn_eq h.cons.1 hx).1 hh.2))]; rfl
/-- What is found in rows: in the first of those that have it. -/
def lkR (rs : List (List S49)) (c : List Int) : Option S49 := rs.findSome? (fun q => lk q c)
theorem lkR_cons (q : List S49) (rs : List (List S49)) (c : List Int) : lkR (q :: rs) c = (lk q c).or (lkR rs c) := by
  unfold lkR
  rw [List.findSome?_cons]
  cases lk q c <;> rfl
theorem lkR_append (a b : List (List S49)) (c : List Int) : lkR (a ++ b) c = (lkR a c).or (lkR b c) := by
  induction a with
  | nil => rfl
  | cons q a ih => rw [List.cons_append, lkR_cons, lkR_cons, ih, Option.or_assoc]
theorem lkR_one (q : List S49) (c : List Int) : lkR [q] c = lk q c := by rw [lkR_cons]; cases lk q c <;> rfl
theorem lkR_mem {rs : List (List S49)} {c : List Int} {x : S49} (h : lkR rs c = some x) : ∃ q ∈ rs, lk q c = some x := List.exists_of_findSome?_eq_some h
theorem lkR_none {rs : List (List S49)} {c : List Int} (h : ∀ q ∈ rs, ∀ x ∈ q, x.f0 ≠ c) : lkR rs c = none := List.findSome?_eq_none_iff.2 (fun q hq => lk_none (h q hq))
theorem folds_ris : ∀ {q acc : List S49}, Ris acc → Ris (q.foldl putS acc)
  | [], _, h => h
  | x :: q, _, h => by rw [List.foldl_cons]; exact folds_ris (putS_ris h)
theorem folds_mem {z : S49} : ∀ {q acc : List S49}, z ∈ q.foldl putS acc → z ∈ q ∨ z ∈ acc
  | [], _, h => .inr h
  | x :: q, acc, h => by
    rw [List.foldl_cons] at h
    rcases folds_mem h with h | h
    · exact .inl (List.mem_cons_of_mem _ h)
    · rcases putS_mem h with rfl | h
      · exact .inl (List.mem_cons_self ..)
      · exact .inr h
theorem folds_len : ∀ {q acc : List S49}, (q.foldl putS acc).length ≤ q.length + acc.length
  | [], _ => by rw [List.length_nil, Nat.zero_add]; exact Nat.le_refl _
  | x :: q, acc => by
    rw [List.foldl_cons]
    have h1 := folds_len (q := q) (acc := putS acc x)
    have h2 := putS_len (x := x) (l := acc)
    rw [List.length_cons]
    omega
theorem rise_folds : ∀ {q acc : List S49}, KB q → KB acc → q.foldl riseI acc = q.foldl putS acc
  | [], _, _, _ => rfl
  | x :: q, acc, h, ha => by
    rw [List.foldl_cons, List.foldl_cons, riseI_eq h.cons.1 ha]
    exact rise_folds h.cons.2 (putS_kb ha h.cons.1)
theorem putE_key (x : S49) : (putE x).f0 = x.f0 := rfl
/-! ### merge.Join: what is found in what is joined -/
theorem less_lex {a b : List Int} (ha : Byt a) (hb : Byt b) : (lessI a b = true) = (lexI a b < 0) := by
  unfold lessI
  rw [cmp_lexI ha hb]
  exact decide_eq_true_eq
/-- A row that may be joined. -/
structure RowE (q : List S49) : Prop where
  ris : Ris q
  kb : KB q
  sz : ∀ x ∈ q, x.f0.length < 140737488355328 ∧ x.f1.length < 140737488355328
theorem RowE.tail {x : S49} {q : List S49} (h : RowE (x :: q)) : RowE q := ⟨(List.pairwise_cons.1 h.ris).2, h.kb.cons.2, fun y hy => h.sz y (List.mem_cons_of_mem _ hy)⟩
/-- What the heads' walk knows: nothing yet, or the least so far. -/
structure Least (done : List (List S49)) (a : S49 × Bool) : Prop where
  no : a.2 = false → ∀ q ∈ done, q = []
  at_ : a.2 = true → lkR done a.1.f0 = some a.1
  kb : a.2 = true → Byt a.1.f0
  le : a.2 = true → ∀ q ∈ done, ∀ y ∈ q, ¬ lexI y.f0 a.1.f0 < 0
theorem least_step {done : List (List S49)} {a : S49 × Bool} (h : Least done a) {q : List S49} (hq : RowE q) : Least (done ++ [q]) (firstStep a q) := by
  cases q with
  | nil =>
    have e : firstStep a [] = a := rfl
    rw [e]
    refine ⟨fun hn r hr => ?_, fun ht => ?_, h.kb, fun ht r hr y hy => ?_⟩
    · rcases List.mem_append.1 hr with hr | hr
      · exact h.no hn r hr
      · exact List.mem_singleton.1 hr
    · rw [lkR_append, h.at_ ht]; rfl
    · rcases List.mem_append.1 hr with hr | hr
      · exact h.le ht r hr y hy
      · rw [List.mem_singleton.1 hr] at hy; cases hy
  | cons x q =>
    have hx := hq.kb.cons.1
    have all : ∀ y ∈ x :: q, ¬ lexI y.f0 x.f0 < 0 := fun y hy => by
      rcases List.mem_cons.1 hy with rfl | hy
      · exact lex_irr _
      · exact lex_asym ((List.pairwise_cons.1 hq.ris).1 y hy)
    unfold firstStep
    by_cases hc : (entI (x :: q)).2 = true ∧ (a.2 = false ∨ lessI (entI (x :: q)).1.f0 a.1.f0 = true)
    · rw [if_pos hc]
      have hlow : ∀ r ∈ done, ∀ y ∈ r, lexI x.f0 y.f0 < 0 := fun r hr y hy => by
        rcases hc.2 with hn | hl
        · rw [h.no hn r hr] at hy; cases hy
        · cases ha : a.2 with
          | false => rw [h.no ha r hr] at hy; cases hy
          | true =>
            have hl' : lessI x.f0 a.1.f0 = true := hl
            rw [less_lex hx (h.kb ha)] at hl'
            have := h.le ha r hr y hy
            by_cases he : y.f0 = a.1.f0
            · rw [he]; exact hl'
            · exact lex_trans _ _ _ hl' (lex_tri this he)
      refine ⟨fun hn => Bool.noConfusion hn, fun _ => ?_, fun _ => hx, fun _ r hr y hy => ?_⟩
      · show lkR (done ++ [x :: q]) x.f0 = some x
        rw [lkR_append, lkR_none (fun r hr y hy => (lex_ne (hlow r hr y hy)).symm), lkR_one, lk_cons, if_pos rfl]
        rfl
      · rcases List.mem_append.1 hr with hr | hr
        · exact lex_asym (hlow r hr y hy)
        · rw [List.mem_singleton.1 hr] at hy; exact all y hy
    · rw [if_neg hc]
      have ha : a.2 = true := by
        cases ha : a.2 with
        | true => rfl
        | false => exact absurd ⟨rfl, .inl ha⟩ hc
      have hl : ¬ lexI x.f0 a.1.f0 < 0 := fun hh => hc ⟨rfl, .inr (by show lessI x.f0 a.1.f0 = true; rw [less_lex hx (h.kb ha)]; exact hh)⟩
      refine ⟨fun hn => (by rw [ha] at hn; cases hn), fun _ => ?_, h.kb, fun _ r hr y hy => ?_⟩
      · rw [lkR_append, h.at_ ha]; rfl
      · rcases List.mem_append.1 hr with hr | hr
        · exact h.le ha r hr y hy
        · rw [List.mem_singleton.1 hr] at hy
          intro hlt
          rcases List.mem_cons.1 hy with rfl | hy
          · exact hl hlt
          · exact hl (lex_trans _ _ _ ((List.pairwise_cons.1 hq.ris).1 y hy) hlt)
theorem least_all : ∀ {qs done : List (List S49)} {a : S49 × Bool}, Least done a → (∀ q ∈ qs, RowE q) → Least (done ++ qs) (qs.foldl firstStep a)
  | [], done, a, h, _ => by rw [List.append_nil]; exact h
  | q :: qs, done, a, h, hq => by
    rw [List.foldl_cons, show done ++ q :: qs = (done ++ [q]) ++ qs by rw [List.append_assoc]; rfl]
    exact least_all (least_step h (hq q (List.mem_cons_self ..))) (fun r hr => hq r (List.mem_cons_of_mem _ hr))
theorem first_least {qs : List (List S49)} (hq : ∀ q ∈ qs, RowE q) : Least qs (firstI qs) :=
  least_all (done := []) (a := (z49, false)) ⟨fun _ q h => absurd h (by simp), fun h => Bool.noConfusion h, fun h => Bool.noConfusion h, fun h => Bool.noConfusion h⟩ hq
/-- A row behind a key that is none of its keys' greater. -/
theorem pass_one {key : List Int} (hk : Byt key) : ∀ {q : List S49}, RowE q → (∀ y ∈ q, ¬ lexI y.f0 key < 0) →
    RowE (passI key q) ∧ (passI key q).length ≤ q.length ∧ (∀ c, lk (passI key q) c = if key = c then none else lk q c) ∧ ((∃ y ∈ q, y.f0 = key) → (passI key q).length < q.length)
  | [], h, _ => ⟨h, Nat.le_refl _, fun c => (by show none = _; split <;> rfl), fun ⟨y, hy, _⟩ => (by cases hy)⟩
  | x :: q, h, hall => by
    have hx := h.kb.cons.1
    have hx0 := hall x (List.mem_cons_self ..)
    have hr := List.pairwise_cons.1 h.ris
    unfold passI
    by_cases he : x.f0 = key
    · have hc : (entI (x :: q)).2 = true ∧ lessI key (entI (x :: q)).1.f0 = false := ⟨rfl, by
        rw [Bool.eq_false_iff]
        show ¬ (lessI key x.f0 = true)
        rw [less_lex hk hx, he]
        exact lex_irr _⟩
      rw [if_pos hc]
      refine ⟨h.tail, by simp, fun c => ?_, fun _ => by simp⟩
      show lk q c = _
      rw [lk_cons, he]
      by_cases hkc : key = c
      · rw [if_pos hkc, lk_none (fun y hy => by rw [← hkc, ← he]; exact (lex_ne (hr.1 y hy)).symm)]
      · rw [if_neg hkc, if_neg hkc]
    · have hlt := lex_tri hx0 he
      have hc : ¬ ((entI (x :: q)).2 = true ∧ lessI key (entI (x :: q)).1.f0 = false) := fun hh => by
        have := hh.2
        rw [show (lessI key (entI (x :: q)).1.f0) = true from by
          show lessI key x.f0 = true
          rw [less_lex hk hx]; exact hlt] at this
        cases this
      rw [if_neg hc]
      have hne : ∀ y ∈ x :: q, y.f0 ≠ key := fun y hy => by
        rcases List.mem_cons.1 hy with rfl | hy
        · exact he
        · exact (lex_ne (lex_trans _ _ _ hlt (hr.1 y hy))).symm
      refine ⟨h, Nat.le_refl _, fun c => ?_, fun ⟨y, hy, e⟩ => absurd e (hne y hy)⟩
      by_cases hkc : key = c
      · rw [if_pos hkc, ← hkc, lk_none hne]
      · rw [if_neg hkc]
theorem sum_le {f : List S49 → List S49} : ∀ {qs : List (List S49)}, (∀ q ∈ qs, (f q).length ≤ q.length) → ((qs.map f).map List.length).sum ≤ (qs.map List.length).sum
  | [], _ => Nat.le_refl _
  | q :: qs, h => by
    have h1 := h q (List.mem_cons_self ..)
    have h2 := sum_le (fun r hr => h r (List.mem_cons_of_mem _ hr) : ∀ r ∈ qs, (f r).length ≤ r.length)
    simp only [List.map_cons, List.sum_cons]
    omega
theorem sum_lt {f : List S49 → List S49} : ∀ {qs : List (List S49)}, (∀ q ∈ qs, (f q).length ≤ q.length) → (∃ q ∈ qs, (f q).length < q.length) → ((qs.map f).map List.length).sum < (qs.map List.length).sum
  | [], _, ⟨q, hq, _⟩ => absurd hq (by simp)
  | q :: qs, h, ⟨r, hr, hlt⟩ => by
    have h1 := h q (List.mem_cons_self ..)
    have h3 : ∀ r ∈ qs, (f r).length ≤ r.length := fun r hr => h r (List.mem_cons_of_mem _ hr)
    simp only [List.map_cons, List.sum_cons]
    rcases List.mem_cons.1 hr with rfl | hr
    · have h2 := sum_le h3
      omega
    · have h2 := sum_lt h3 ⟨r, hr, hlt⟩
      omega
theorem lkR_pass {key : List Int} (hk : Byt key) {qs : List (List S49)} (hq : ∀ q ∈ qs, RowE q) (hall : ∀ q ∈ qs, ∀ y ∈ q, ¬ lexI y.f0 key < 0) (c : List Int) : lkR (qs.map (passI key)) c = if key = c then none else lkR qs c := by
  induction qs with
  | nil => show none = _; split <;> rfl
  | cons q qs ih =>
    rw [List.map_cons, lkR_cons, lkR_cons, ih (fun r hr => hq r (List.mem_cons_of_mem _ hr)) (fun r hr => hall r (List.mem_cons_of_mem _ hr)), (pass_one hk (hq q (List.mem_cons_self ..)) (hall q (List.mem_cons_self ..))).2.2.1 c]
    split <;> rfl
theorem own_tells {x : S49} (h : x.f0.length < 140737488355328 ∧ x.f1.length < 140737488355328) : merge_own.f x.f0 x.f1 x.f2 = some ((putE x).f0, (putE x).f1, (putE x).f2) := by
  unfold merge_own.f slices_Clone_byte_byte.f putE
  simp only [if_pos h.1, if_pos h.2, Option.bind_some]
  by_cases hg : x.f2 = true
  · simp only [if_pos hg]
  · simp only [if_neg hg]
theorem joinL_tells : ∀ (n : Nat) (qs : List (List S49)) (out : List S49), (∀ q ∈ qs, RowE q) → (qs.map List.length).sum < n → out.length + (qs.map List.length).sum < 1000000000 →
    ∃ t, joinL n qs out = some (out ++ t) ∧ Ris t ∧ (∀ c, lk t c = (lkR qs c).map putE) ∧ t.length ≤ (qs.map List.length).sum
  | 0, _, _, _, h, _ => absurd h (Nat.not_lt_zero _)
  | n + 1, qs, out, hq, hn, ho => by
    have hL := first_least hq
    unfold joinL
    generalize firstI qs = a at hL
    obtain ⟨x, ok⟩ := a
    cases ok with
    | false =>
      refine ⟨[], by rw [if_neg (fun h => Bool.noConfusion h), List.append_nil], List.Pairwise.nil, fun c => ?_, Nat.zero_le _⟩
      rw [lkR_none (fun q hq' y hy => by rw [hL.no rfl q hq'] at hy; cases hy)]
      rfl
    | true =>
      have hat : lkR qs x.f0 = some x := hL.at_ rfl
      have hkb : Byt x.f0 := hL.kb rfl
      have hle : ∀ q ∈ qs, ∀ y ∈ q, ¬ lexI y.f0 x.f0 < 0 := hL.le rfl
      obtain ⟨q0, hq0, hl0⟩ := lkR_mem hat
      have hm := lk_mem hl0
      have hp : ∀ q ∈ qs, (passI x.f0 q).length ≤ q.length := fun q hqq => (pass_one hkb (hq q hqq) (hle q hqq)).2.1
      have hlt := sum_lt hp ⟨q0, hq0, (pass_one hkb (hq q0 hq0) (hle q0 hq0)).2.2.2 ⟨x, hm.1, rfl⟩⟩
      obtain ⟨t, e, hr, hk, hl⟩ := joinL_tells n (qs.map (passI x.f0)) (out ++ [putE x]) (fun q hqq => by
        obtain ⟨q1, h1, rfl⟩ := List.mem_map.1 hqq
        exact (pass_one hkb (hq q1 h1) (hle q1 h1)).1) (by omega) (by rw [List.length_append, List.length_singleton]; omega)
      refine ⟨putE x :: t, ?_, ?_, fun c => ?_, by rw [List.length_cons]; omega⟩
      · dsimp only
        rw [if_pos rfl, if_pos (by omega), own_tells ((hq q0 hq0).sz x hm.1), Option.bind_some]
        rw [show (⟨((putE x).f0, (putE x).f1, (putE x).f2).1, ((putE x).f0, (putE x).f1, (putE x).f2).2.1, ((putE x).f0, (putE x).f1, (putE x).f2).2.2⟩ : S49) = putE x from rfl, e, List.append_assoc]
        rfl
      · refine List.pairwise_cons.2 ⟨fun y hy => ?_, hr⟩
        have h1 := lk_self hr hy
        rw [hk, lkR_pass hkb hq hle] at h1
        by_cases hxy : x.f0 = y.f0
        · rw [if_pos hxy] at h1; cases h1
        · rw [if_neg hxy] at h1
          obtain ⟨z, hz, _⟩ := Option.map_eq_some_iff.1 h1
          obtain ⟨q1, h2, h3⟩ := lkR_mem hz
          have h4 := lk_mem h3
          have h5 := hle q1 h2 z h4.1
          rw [h4.2] at h5
          exact lex_tri h5 (Ne.symm hxy)
      · rw [lk_cons, putE_key, hk, lkR_pass hkb hq hle]
        by_cases hxc : x.f0 = c
        · rw [if_pos hxc, ← hxc, hat]; rfl
        · rw [if_neg hxc, if_neg hxc]
theorem join_tells {rs : List (List S49)} (hq : ∀ q ∈ rs, RowE q) (hn : rs.length < 1000000000) (hs : (rs.map List.length).sum < 1000000000) : ∃ t, merge_Join.f rs = some t ∧ Ris t ∧ (∀ c, lk t c = (lkR rs c).map putE) ∧ t.length ≤ (rs.map List.length).sum := by
  unfold merge_Join.f
  rw [if_pos hn]
  obtain ⟨t, e, h⟩ := joinL_tells ((rs.map List.length).sum + 1) rs [] hq (Nat.lt_succ_self _) (by rw [List.length_nil]; omega)
  exact ⟨t, by rw [e]; rfl, h⟩
/-! ### rows as they are drawn, joined by the document -/
theorem rdL_at {l : List (List S49)} {j : Nat} (h : j < l.length) : rd_L4 l (j : Int) = l[j] := by
  unfold rd_L4
  rw [Int.toNat_natCast, List.getD_eq_getElem?_getD, List.getElem?_eq_getElem h]
  rfl
def drawR (q : List S49) : List S49 := ((q.take 12).map (normE 3 6)).foldl riseI []
/-- A row that is small. -/
structure RowS (q : List S49) : Prop where
  row : RowE q
  len : q.length ≤ 12
theorem sm_sz {x : S49} (h : SmE x) : x.f0.length < 140737488355328 ∧ x.f1.length < 140737488355328 := ⟨by have := h.k1; omega, by have := h.v1; omega⟩
theorem drawR_row {q : List S49} (h : ∀ x ∈ q, WfE x) : RowS (drawR q) := by
  have hs : ∀ x ∈ (q.take 12).map (normE 3 6), SmE x := fun x hx => by
    obtain ⟨y, hy, rfl⟩ := List.mem_map.1 hx
    exact normE_sm (by decide) (by decide) (by decide) (h y (List.mem_of_mem_take hy))
  have hk : KB ((q.take 12).map (normE 3 6)) := fun x hx => (hs x hx).kb
  have hm : ∀ x ∈ drawR q, SmE x := fun x hx => by
    unfold drawR at hx
    rw [rise_folds hk (fun _ h => by cases h)] at hx
    rcases folds_mem hx with hx | hx
    · exact hs x hx
    · cases hx
  refine ⟨⟨?_, fun x hx => (hm x hx).kb, fun x hx => sm_sz (hm x hx)⟩, ?_⟩
  · unfold drawR
    rw [rise_folds hk (fun _ h => by cases h)]
    exact folds_ris List.Pairwise.nil
  · unfold drawR
    rw [rise_folds hk (fun _ h => by cases h)]
    have := folds_len (q := (q.take 12).map (normE 3 6)) (acc := [])
    rw [List.length_map, List.length_take, List.length_nil] at this
    omega
theorem rows_loop {l : List (List S49)} : ∀ (d j : Nat) (out : List (List S49)), min l.length 6 - j = d → j ≤ l.length → j ≤ 6 → out.length = j → Ev (fun k => marigraphlaw9_rows.l0 k l 6 out (j : Int)) (out ++ ((l.take 6).drop j).map drawR) := by
  intro d
  induction d with
  | zero =>
    intro j out hd h1 h2 ho
    have e : (l.take 6).drop j = [] := List.drop_of_length_le (by rw [List.length_take]; omega)
    rw [e, List.map_nil, List.append_nil]
    have hj : Ev (fun k => marigraphlaw9_rows.j1 k l 6 out (j : Int) false) out := by
      refine evDown ?_
      simp only [marigraphlaw9_rows.j1, Bool.false_eq_true, if_false]
      exact Ev.now _
    refine evDown ?_
    simp only [marigraphlaw9_rows.l0]
    by_cases h : (j : Int) < (l.length : Int)
    · simp only [if_pos h, decide_eq_false (show ¬ (j : Int) < 6 by omega)]
      exact hj
    · simp only [if_neg h]
      exact hj
  | succ d ih =>
    intro j out hd h1 h2 ho
    have hlt : j < l.length := by omega
    have e : (l.take 6).drop j = l[j] :: (l.take 6).drop (j + 1) := by
      rw [List.drop_eq_getElem_cons (show j < (l.take 6).length by rw [List.length_take]; omega), List.getElem_take]
    rw [e, List.map_cons]
    have hi := ih (j + 1) (out ++ [drawR l[j]]) (by omega) (by omega) (by omega) (by rw [List.length_append, ho]; rfl)
    rw [List.append_assoc] at hi
    have hrd := rdL_at hlt
    generalize l[j] = q at hi hrd ⊢
    refine evDown ?_
    simp only [marigraphlaw9_rows.l0, if_pos (show (j : Int) < (l.length : Int) by omega), decide_eq_true (show (j : Int) < 6 by omega)]
    refine evDown ?_
    simp only [marigraphlaw9_rows.j1, if_true, if_pos (show 0 ≤ (j : Int) by omega), if_pos (show (j : Int) < (l.length : Int) by omega), hrd, wadd1 (show j ≤ 10000000 by omega)]
    refine Ev.bind (ent_tells q 12 3 6 (by decide)) ?_
    simp only [marigraphkeep_Rise.f, if_pos (show ((q.take 12).map (normE 3 6)).length < 1000000 by rw [List.length_map, List.length_take]; omega), Option.bind_some, if_pos (show out.length < 5864062014805 by omega)]
    exact hi
theorem rows_tells (l : List (List S49)) : Ev (fun k => marigraphlaw9_rows.f k l 6) ((l.take 6).map drawR) := by
  have := rows_loop (l := l) _ 0 [] rfl (Nat.zero_le _) (Nat.zero_le _) rfl
  rw [List.drop_zero, List.nil_append] at this
  exact this
theorem rows_ok {l : List (List S49)} (h : ∀ q ∈ l, ∀ x ∈ q, WfE x) : (∀ q ∈ (l.take 6).map drawR, RowS q) ∧ ((l.take 6).map drawR).length ≤ 6 := by
  refine ⟨fun q hq => ?_, by rw [List.length_map, List.length_take]; omega⟩
  obtain ⟨r, hr, rfl⟩ := List.mem_map.1 hq
  exact drawR_row (h r (List.mem_of_mem_take hr))
theorem sum_small {rs : List (List S49)} (h : ∀ q ∈ rs, RowS q) : (rs.map List.length).sum ≤ 12 * rs.length := by
  induction rs with
  | nil => exact Nat.le_refl _
  | cons q rs ih =>
    have h1 := (h q (List.mem_cons_self ..)).len
    have h2 := ih (fun r hr => h r (List.mem_cons_of_mem _ hr))
    simp only [List.map_cons, List.sum_cons, List.length_cons]
    omega
theorem join_small {rs : List (List S49)} (h : ∀ q ∈ rs, RowS q) (hn : rs.length ≤ 6) : ∃ t, merge_Join.f rs = some t ∧ Ris t ∧ (∀ c, lk t c = (lkR rs c).map putE) ∧ t.length ≤ 72 := by
  have h1 := sum_small h
  obtain ⟨t, e, hr, hk, hl⟩ := join_tells (fun q hq => (h q hq).row) (by omega) (by omega)
  exact ⟨t, e, hr, hk, by omega⟩
/-- A row that has no more than the rows' entries. -/
theorem of_lk {rs : List (List S49)} (h : ∀ q ∈ rs, RowE q) {t : List S49} (hr : Ris t) (hk : ∀ c, lk t c = (lkR rs c).map putE) : RowE t := by
  have ex : ∀ y ∈ t, ∃ q ∈ rs, ∃ x ∈ q, y = putE x := fun y hy => by
    have h1 := lk_self hr hy
    rw [hk] at h1
    obtain ⟨x, hx, rfl⟩ := Option.map_eq_some_iff.1 h1
    obtain ⟨q, hq, h2⟩ := lkR_mem hx
    exact ⟨q, hq, x, (lk_mem h2).1, rfl⟩
  refine ⟨hr, fun y hy => ?_, fun y hy => ?_⟩
  · obtain ⟨q, hq, x, hx, rfl⟩ := ex y hy
    exact (h q hq).kb x hx
  · obtain ⟨q, hq, x, hx, rfl⟩ := ex y hy
    refine ⟨((h q hq).sz x hx).1, ?_⟩
    show (if x.f2 = true then [] else x.f1).length < _
    split
    · simp
    · exact ((h q hq).sz x hx).2
/-! ### which rows are the same -/
theorem same_self {l : List S49} (hs : ∀ x ∈ l, x.f0.length < 140737488355328 ∧ x.f1.length < 140737488355328) (hn : l.length ≤ 100000) : Ev (fun k => merge_Same.f k l l) true := by
  have one : ∀ x ∈ l, merge_Same_1.f x.f0 x.f1 x.f2 x.f0 x.f1 x.f2 = some true := fun x hx => by
    unfold merge_Same_1.f
    rw [own_tells (hs x hx)]
    simp only [Option.bind_some, if_true, beq_self_eq_true]
  have loop : ∀ (d j : Nat), l.length - j = d → Ev (fun k => api_Entry_of_merge_Same_1.l0 k l l (l.length : Int) (j : Int)) true := by
    intro d
    induction d with
    | zero =>
      intro j hd
      refine evDown ?_
      simp only [api_Entry_of_merge_Same_1.l0, if_neg (show ¬ (j : Int) < (l.length : Int) by omega)]
      exact Ev.now _
    | succ d ih =>
      intro j hd
      have hlt : j < l.length := by omega
      have hx := one _ (List.getElem_mem hlt)
      have hrd := rdE_at hlt
      generalize l[j] = x at hx hrd
      refine evDown ?_
      simp only [api_Entry_of_merge_Same_1.l0, if_pos (show (j : Int) < (l.length : Int) by omega), if_pos (show 0 ≤ (j : Int) by omega), hrd, hx, Option.bind_some, if_true, wadd1 (show j ≤ 10000000 by omega)]
      exact ih (j + 1) (by omega)
  unfold merge_Same.f
  refine Ev.bind ?_ (Ev.now _)
  unfold api_Entry_of_merge_Same_1.f
  simp only [if_true]
  exact loop l.length 0 rfl
/-- The law's plain form. -/
def MergeJoinsPure : Prop := ∀ (l0 : List (List S49)) (a1 : Int), (∀ q ∈ l0, ∀ x ∈ q, WfE x) → (Lit.int .i64 a1).wf = true → ∃ k, marigraphlaw9_MergeJoins.f k l0 a1 = some true
theorem known9 : Ev (fun k => marigraphlaw9_known.f k) true := Ev.of (k := 40) marigraphlaw9_known.mono (by decide +kernel)
theorem putE_twice (x : S49) : putE (putE x) = putE x := by
  unfold putE
  by_cases h : x.f2 = true
  · simp only [if_pos h]
  · simp only [if_neg h]
theorem opt_twice (o : Option S49) : (o.map putE).map putE = o.map putE := by
  cases o with
  | none => rfl
  | some x => exact congrArg some (putE_twice x)
theorem opt_or (a b : Option S49) : (a.map putE).or (b.map putE) = (a.or b).map putE := by cases a <;> rfl
theorem lkR_two (a b : List S49) (c : List Int) : lkR [a, b] c = (lk a c).or (lk b c) := by rw [lkR_cons, lkR_one]
theorem cut_in {n : Nat} (a : Int) (hn : n ≤ 6) : 0 ≤ Int.tmod (wrap64 ((wrap64 ((Int.tmod a (wrap64 ((n : Int) + 1))) + (n : Int))) + 1)) (wrap64 ((n : Int) + 1)) ∧ Int.tmod (wrap64 ((wrap64 ((Int.tmod a (wrap64 ((n : Int) + 1))) + (n : Int))) + 1)) (wrap64 ((n : Int) + 1)) ≤ (n : Int) := by
  have e : wrap64 ((n : Int) + 1) = (n : Int) + 1 := by unfold wrap64; omega
  rw [e]
  have h1 := Int.tmod_lt_of_pos a (show 0 < (n : Int) + 1 by omega)
  have h2 : -((n : Int) + 1) < Int.tmod a ((n : Int) + 1) := by
    have := Int.tmod_lt_of_pos (-a) (show 0 < (n : Int) + 1 by omega)
    rw [Int.neg_tmod] at this
    omega
  generalize Int.tmod a ((n : Int) + 1) = t at h1 h2
  have e1 : wrap64 (t + (n : Int)) = t + n := by unfold wrap64; omega
  have e2 : wrap64 (t + (n : Int) + 1) = t + n + 1 := by unfold wrap64; omega
  rw [e1, e2]
  have h3 := Int.tmod_lt_of_pos (t + n + 1) (show 0 < (n : Int) + 1 by omega)
  have h4 := Int.tmod_nonneg ((n : Int) + 1) (show 0 ≤ t + n + 1 by omega)
  omega
theorem found_loop {rs : List (List S49)} {t : List S49} (ht : KB t) (hn : t.length ≤ 100000) {i j : Nat} {q : List S49} {e : S49} (hi : i < rs.length) (hq : rd_L4 rs (i : Int) = q) (hj : j < q.length) (he : rd_T49 q (j : Int) = e) (hb : Byt e.f0) (hin : i ≤ 10000000) (hjn : j ≤ 10000000) {R : Bool} (hR : Ev (fun k => marigraphlaw9_MergeJoins.l1 k rs t (i : Int) ((j + 1 : Nat) : Int)) R) :
    ∀ (d n : Nat) (found : Bool), t.length - n = d → n ≤ t.length → (found = true ∨ ∃ m, n ≤ m ∧ ∃ h : m < t.length, t[m].f0 = e.f0) → Ev (fun k => marigraphlaw9_MergeJoins.l2 k rs t (i : Int) (j : Int) found (n : Int)) R := by
  intro d
  induction d with
  | zero =>
    intro n found hd hnl hf
    have hft : found = true := by
      rcases hf with h | ⟨m, h1, h2, _⟩
      · exact h
      · omega
    subst hft
    refine evDown ?_
    simp only [marigraphlaw9_MergeJoins.l2, if_neg (show ¬ (n : Int) < (t.length : Int) by omega), if_true, wadd1 hjn]
    exact hR
  | succ d ih =>
    intro n found hd hnl hf
    have hlt : n < t.length := by omega
    refine evDown ?_
    cases found with
    | true =>
      simp only [marigraphlaw9_MergeJoins.l2, if_pos (show (n : Int) < (t.length : Int) by omega), if_true, wadd1 (show n ≤ 10000000 by omega)]
      exact ih (n + 1) true (by omega) (by omega) (.inl rfl)
    | false =>
      have hm := hf.resolve_left (fun h => Bool.noConfusion h)
      have hr := rdE_at hlt
      have hk := ht _ (List.getElem_mem hlt)
      simp only [marigraphlaw9_MergeJoins.l2, if_pos (show (n : Int) < (t.length : Int) by omega), Bool.false_eq_true, if_false, if_pos (show 0 ≤ (n : Int) by omega), if_pos (show 0 ≤ (i : Int) by omega), if_pos (show (i : Int) < (rs.length : Int) by omega), if_pos (show 0 ≤ (j : Int) by omega), hq, if_pos (show (j : Int) < (q.length : Int) by omega), hr, he, sn_beq hk hb, wadd1 (show n ≤ 10000000 by omega)]
      refine ih (n + 1) _ (by omega) (by omega) ?_
      by_cases heq : t[n].f0 = e.f0
      · exact .inl (decide_eq_true heq)
      · obtain ⟨m, h1, h2, h3⟩ := hm
        refine .inr ⟨m, ?_, h2, h3⟩
        rcases Nat.lt_or_ge n m with h | h
        · exact h
        · have : m = n := by omega
          subst this
          exact absurd h3 heq
theorem row_loop {rs : List (List S49)} {t : List S49} (ht : KB t) (hn : t.length ≤ 100000) {i : Nat} {q : List S49} (hi : i < rs.length) (hq : rd_L4 rs (i : Int) = q) (hql : q.length ≤ 1000) (hin : i ≤ 10000000) (hb : KB q) (hall : ∀ e ∈ q, ∃ y ∈ t, y.f0 = e.f0) {R : Bool} (hR : Ev (fun k => marigraphlaw9_MergeJoins.l0 k rs t ((i + 1 : Nat) : Int)) R) :
    ∀ (d j : Nat), q.length - j = d → j ≤ q.length → Ev (fun k => marigraphlaw9_MergeJoins.l1 k rs t (i : Int) (j : Int)) R := by
  intro d
  induction d with
  | zero =>
    intro j hd hj
    refine evDown ?_
    simp only [marigraphlaw9_MergeJoins.l1, if_pos (show 0 ≤ (i : Int) by omega), if_pos (show (i : Int) < (rs.length : Int) by omega), hq, if_neg (show ¬ (j : Int) < (q.length : Int) by omega), wadd1 hin]
    exact hR
  | succ d ih =>
    intro j hd hj
    have hlt : j < q.length := by omega
    have hr := rdE_at hlt
    have hm := List.getElem_mem hlt
    obtain ⟨y, hy, hye⟩ := hall _ hm
    obtain ⟨m, hm1, hm2⟩ := List.getElem_of_mem hy
    refine evDown ?_
    simp only [marigraphlaw9_MergeJoins.l1, if_pos (show 0 ≤ (i : Int) by omega), if_pos (show (i : Int) < (rs.length : Int) by omega), hq, if_pos (show (j : Int) < (q.length : Int) by omega)]
    exact found_loop ht hn hi hq hlt hr (hb _ hm) hin (by omega) (ih (j + 1) (by omega) (by omega)) t.length 0 false rfl (Nat.zero_le _) (.inr ⟨m, Nat.zero_le _, hm1, by rw [hm2]; exact hye⟩)
theorem rows_found {rs : List (List S49)} {t : List S49} (ht : KB t) (hn : t.length ≤ 100000) (hrs : rs.length ≤ 6) (hq : ∀ q ∈ rs, RowS q) (hall : ∀ q ∈ rs, ∀ e ∈ q, ∃ y ∈ t, y.f0 = e.f0) : ∀ (d i : Nat), rs.length - i = d → i ≤ rs.length → Ev (fun k => marigraphlaw9_MergeJoins.l0 k rs t (i : Int)) true := by
  intro d
  induction d with
  | zero =>
    intro i hd hi
    refine evDown ?_
    simp only [marigraphlaw9_MergeJoins.l0, if_neg (show ¬ (i : Int) < (rs.length : Int) by omega)]
    exact Ev.bind known9 (Ev.now _)
  | succ d ih =>
    intro i hd hi
    have hlt : i < rs.length := by omega
    have hm := List.getElem_mem hlt
    refine evDown ?_
    simp only [marigraphlaw9_MergeJoins.l0, if_pos (show (i : Int) < (rs.length : Int) by omega)]
    exact row_loop ht hn hlt (rdL_at hlt) (by have := (hq _ hm).len; omega) (by omega) (hq _ hm).row.kb (hall _ hm) (ih (i + 1) (by omega) (by omega)) _ 0 rfl (Nat.zero_le _)
theorem join_two {a b : List S49} (ha : RowE a) (hb : RowE b) (la : a.length ≤ 100) (lb : b.length ≤ 100) : ∃ t, merge_Join.f [a, b] = some t ∧ Ris t ∧ ∀ c, lk t c = ((lk a c).or (lk b c)).map putE := by
  obtain ⟨t, e, hr, hk, _⟩ := join_tells (rs := [a, b]) (fun q hq => by
    rcases List.mem_cons.1 hq with rfl | hq
    · exact ha
    · rw [List.mem_singleton.1 hq]; exact hb) (by simp) (by simp only [List.map_cons, List.map_nil, List.sum_cons, List.sum_nil]; omega)
  exact ⟨t, e, hr, fun c => by rw [hk, lkR_two]⟩
theorem right_law {l : List S49} (hk : KB l) (hn : l.length ≤ 100000) (hr : Ris l) : ∀ (d j : Nat), l.length - j = d → 1 ≤ j → Ev (fun k => marigraphlaw9_right.l0 k l (j : Int)) true := by
  intro d
  induction d with
  | zero =>
    intro j hd hj
    refine evDown ?_
    simp only [marigraphlaw9_right.l0, if_neg (show ¬ (j : Int) < (l.length : Int) by omega)]
    exact Ev.now _
  | succ d ih =>
    intro j hd hj
    have hlt : j < l.length := by omega
    have hlt1 : j - 1 < l.length := by omega
    have ew : wrap64 ((j : Int) - 1) = ((j - 1 : Nat) : Int) := by unfold wrap64; omega
    have r1 := rdE_at hlt
    have r2 := rdE_at hlt1
    have hl : lexI l[j - 1].f0 l[j].f0 < 0 := List.pairwise_iff_getElem.1 hr (j - 1) j hlt1 hlt (by omega)
    rw [← less_c (hk _ (List.getElem_mem hlt1)) (hk _ (List.getElem_mem hlt))] at hl
    refine evDown ?_
    simp only [marigraphlaw9_right.l0, if_pos (show (j : Int) < (l.length : Int) by omega), ew, if_pos (show 0 ≤ ((j - 1 : Nat) : Int) by omega), if_pos (show ((j - 1 : Nat) : Int) < (l.length : Int) by omega), if_pos (show 0 ≤ (j : Int) by omega), r1, r2, wadd1 (show j ≤ 10000000 by omega), hl, if_true]
    exact ih (j + 1) (by omega) (by omega)
theorem MergeJoins : MergeJoinsPure := by
  intro l0 a1 h0 h1
  obtain ⟨hR, hRn⟩ := rows_ok h0
  have eR := rows_tells l0
  generalize (l0.take 6).map drawR = rs at hR hRn eR
  obtain ⟨t, et, tr, tk, tl⟩ := join_small hR hRn
  have hT := of_lk (fun q hq => (hR q hq).row) tr tk
  have hall : ∀ q ∈ rs, ∀ e ∈ q, ∃ y ∈ t, y.f0 = e.f0 := fun q hq e he => by
    have h2 : lkR rs e.f0 ≠ none := fun hn => by
      have h3 := List.findSome?_eq_none_iff.1 hn q hq
      rw [lk_self (hR q hq).row.ris he] at h3
      cases h3
    cases hz : lkR rs e.f0 with
    | none => exact absurd hz h2
    | some z =>
      have h4 := tk e.f0
      rw [hz] at h4
      have h5 := lk_mem h4
      exact ⟨_, h5.1, h5.2⟩
  have hj : ∀ x6 : Int, 0 ≤ x6 → x6 ≤ (rs.length : Int) → Ev (fun k => marigraphlaw9_MergeJoins.j0 k rs x6) true := by
    intro x6 hx0 hx1
    obtain ⟨ta, ea, ra, ka, la⟩ := join_small (rs := rs.take x6.toNat) (fun q hq => hR q (List.mem_of_mem_take hq)) (by rw [List.length_take]; omega)
    obtain ⟨tb, eb, rb, kb, lb⟩ := join_small (rs := rs.drop x6.toNat) (fun q hq => hR q (List.mem_of_mem_drop hq)) (by rw [List.length_drop]; omega)
    have hA := of_lk (fun q hq => (hR q (List.mem_of_mem_take hq)).row) ra ka
    have hB := of_lk (fun q hq => (hR q (List.mem_of_mem_drop hq)).row) rb kb
    obtain ⟨u, eu, ru, ku⟩ := join_two hA hB (by omega) (by omega)
    have hu : u = t := ris_ext ru tr (fun c => by rw [ku, ka, kb, opt_or, ← lkR_append, List.take_append_drop, opt_twice, tk])
    subst hu
    obtain ⟨v, ev, rv, kv⟩ := join_two hT hT (by omega) (by omega)
    have hv : v = u := ris_ext rv tr (fun c => by
      rw [kv, tk]
      cases lkR rs c with
      | none => rfl
      | some x => exact congrArg some (putE_twice x))
    subst hv
    have rb2 := right_law hT.kb (by omega) tr v.length.pred 1 (by cases v <;> simp) (Nat.le_refl _)
    refine evDown ?_
    simp only [marigraphlaw9_MergeJoins.j0, et, Option.bind_some, if_pos hx0, if_pos hx1, ea, eb, eu]
    refine Ev.bind (same_self hT.sz (by omega)) ?_
    simp only [if_true]
    refine Ev.bind (show Ev (fun k => marigraphlaw9_right.f k v) true from rb2) ?_
    simp only [if_true, ev, Option.bind_some]
    refine Ev.bind (same_self hT.sz (by omega)) ?_
    refine evDown ?_
    simp only [marigraphlaw9_MergeJoins.j1, Bool.not_true, Bool.false_eq_true, if_false]
    exact rows_found hT.kb (by omega) hRn hR hall _ 0 rfl (Nat.zero_le _)
  obtain ⟨K, hK⟩ : Ev (fun k => marigraphlaw9_MergeJoins.f k l0 a1) true := by
    unfold marigraphlaw9_MergeJoins.f
    refine Ev.bind eR ?_
    by_cases hp : (rs.length : Int) > 0
    · have e : wrap64 ((rs.length : Int) + 1) = (rs.length : Int) + 1 := by unfold wrap64; omega
      have hc := cut_in a1 hRn
      simp only [if_pos hp, if_neg (show ¬ wrap64 ((rs.length : Int) + 1) = 0 by rw [e]; omega)]
      exact hj _ hc.1 hc.2
    · simp only [if_neg hp]
      exact hj 0 (Int.le_refl _) (by omega)
  exact ⟨K, hK K (Nat.le_refl _)⟩

end Go.Proofs.Ytmimfnangdabmaa.Pure

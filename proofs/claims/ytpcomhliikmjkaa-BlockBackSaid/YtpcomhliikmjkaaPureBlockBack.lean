/- BlockBack: what was built is read, each of its entries is found, and what is sought between is the next; for any entries. -/
import Derived.Test.YtpcomhliikmjkaaPBlockTellsx12
namespace Go.Proofs.Ytpcomhliikmjkaa.Pure
open Go.RowKit Go.Proofs.Ytpcomhliikmjkaa.PBlockTells Go.Proofs.YtpcomhliikmjkaaW.PrintWords Go.Proofs.YtpcomhliikmjkaaW.PrintLast
set_option linter.unusedVariables false
set_option linter.unusedSimpArgs false

theorem evEq {α : Type} {f g : Nat → Option α} {r : α} (hf : ∀ k, f k = g k) (h : Ev g r) : Ev f r := by rw [funext hf]; exact h
theorem evNow {α : Type} {f : Nat → Option α} {r : α} (hf : ∀ k, f k = some r) : Ev f r := ⟨0, fun k _ => hf k⟩
theorem evDown {α : Type} {g : Nat → Option α} {r : α} (h : Ev (fun k => g (k + 1)) r) : Ev g r := let ⟨K, hK⟩ := h; ⟨K + 1, fun k hk => by
  obtain ⟨m, rfl⟩ : ∃ m, k = m + 1 := ⟨k - 1, by omega⟩
  exact hK m (by omega)⟩
/-! ### bytes as whole numbers: in range, in order -/
def Byt (l : List Int) : Prop := ∀ x ∈ l, 0 ≤ x ∧ x ≤ 255
theorem Byt.cons {x : Int} {l : List Int} (h : Byt (x :: l)) : (0 ≤ x ∧ x ≤ 255) ∧ Byt l := ⟨h x (by simp), fun y hy => h y (by simp [hy])⟩
theorem Byt.append {a b : List Int} (ha : Byt a) (hb : Byt b) : Byt (a ++ b) := by
  intro x hx
  rcases List.mem_append.1 hx with h | h
  · exact ha x h
  · exact hb x h
theorem u8_lt {x y : Int} (hx : 0 ≤ x ∧ x ≤ 255) (hy : 0 ≤ y ∧ y ≤ 255) : (UInt8.ofNat x.toNat < UInt8.ofNat y.toNat) ↔ x < y := by
  rw [UInt8.lt_iff_toNat_lt, UInt8.toNat_ofNat', UInt8.toNat_ofNat']
  omega
def lexI : List Int → List Int → Int
  | [], [] => 0
  | [], _ :: _ => -1
  | _ :: _, [] => 1
  | a :: p, b :: q => if a < b then -1 else if b < a then 1 else lexI p q
theorem cmp_lexI : ∀ {a b : List Int}, Byt a → Byt b → Lib.compareBytes (Lib.bytesOf a) (Lib.bytesOf b) = lexI a b
  | [], [], _, _ => rfl
  | [], _ :: _, _, _ => rfl
  | _ :: _, [], _, _ => rfl
  | x :: a, y :: b, ha, hb => by
    have ih := cmp_lexI ha.cons.2 hb.cons.2
    have h1 := u8_lt ha.cons.1 hb.cons.1
    have h2 := u8_lt hb.cons.1 ha.cons.1
    unfold Lib.bytesOf at ih ⊢
    rw [List.map_cons, List.map_cons, Lib.compareBytes, lexI, ih]
    simp only [h1, h2]
theorem lexI_pre (p a b : List Int) : lexI (p ++ a) (p ++ b) = lexI a b := by
  induction p with
  | nil => rfl
  | cons x p ih =>
    show (if x < x then _ else _) = _
    rw [if_neg (Int.lt_irrefl x), if_neg (Int.lt_irrefl x)]
    exact ih
theorem lexI_self (a : List Int) : lexI a a = 0 := by
  have := lexI_pre a [] []
  simpa [lexI] using this
/-! ### Put -/
def be (n : Int) : Nat → List Int
  | 0 => []
  | s + 1 => (n / 2 ^ (8 * s)) % 256 :: be n s
theorem be_len (n : Int) (s : Nat) : (be n s).length = s := by induction s with | zero => rfl | succ s ih => simp [be, ih]
theorem wrap_8 (s : Nat) (h : s ≤ 8) : wrap64 (8 * (s : Int)) = ((8 * s : Nat) : Int) := by unfold wrap64; omega
theorem put_loop (n : Int) (s : Nat) : ∀ (k : Nat) (acc : List Int), s ≤ 8 → s < k → acc.length + s ≤ 140737488355328 → octet_Put.l0 k n acc ((s : Int) - 1) = some (acc ++ be n s) := by
  induction s with
  | zero =>
    intro k acc _ hk _
    obtain ⟨k, rfl⟩ : ∃ m, k = m + 1 := ⟨k - 1, by omega⟩
    simp only [octet_Put.l0]
    rw [if_neg (by omega)]
    simp [be]
  | succ s ih =>
    intro k acc hs hk hl
    obtain ⟨k, rfl⟩ : ∃ m, k = m + 1 := ⟨k - 1, by omega⟩
    have e : ((s + 1 : Nat) : Int) - 1 = (s : Int) := by omega
    rw [e]
    simp only [octet_Put.l0]
    rw [wrap_8 s (by omega), if_pos (by omega), if_pos (by omega), if_pos (by omega)]
    have e2 : wrap64 ((s : Int) - 1) = (s : Int) - 1 := by unfold wrap64; omega
    have e3 : shr .u64 n ((8 * s : Nat) : Int) = n / 2 ^ (8 * s) := by
      unfold shr
      have hb : IntKind.u64.bits = 64 := rfl
      rw [Int.toNat_natCast, hb, Nat.min_eq_left (by omega)]
    rw [e2, e3, ih k _ (by omega) (by omega) (by rw [List.length_append, List.length_singleton]; omega)]
    simp [be]
theorem put_tells (l : List Int) (n : Int) (s : Nat) (k : Nat) (hs : s ≤ 8) (hk : s < k) (hl : l.length + 8 ≤ 140737488355328) : octet_Put.f k l n (s : Int) = some (l ++ be n s) := by
  unfold octet_Put.f slices_Clone_byte_byte.f
  rw [if_pos (by omega)]
  simp only [Option.bind_some]
  have e : mx (mn (s : Int) 8) 0 = (s : Int) := by unfold mx mn; split <;> split <;> omega
  rw [e]
  exact put_loop n s k l hs hk (by omega)
theorem emod_256 (m P : Int) (hP : 0 < P) : m % (P * 256) = m % P + P * (m / P % 256) := by
  have h1 := Int.emod_add_mul_ediv m P
  have h2 := Int.emod_add_mul_ediv (m / P) 256
  have h3 := Int.emod_nonneg m (Int.ne_of_gt hP)
  have h4 := Int.emod_lt_of_pos m hP
  generalize hq : m / P = q at *
  have h5 : P * q = P * (q % 256) + P * 256 * (q / 256) := by rw [Int.mul_assoc, ← Int.mul_add, h2]
  have h6 : 0 ≤ P * (q % 256) := Int.mul_nonneg (by omega) (by omega)
  have h7 : P * (q % 256) ≤ P * 255 := Int.mul_le_mul_of_nonneg_left (by omega) (by omega)
  have e : m = (m % P + P * (q % 256)) + P * 256 * (q / 256) := by omega
  calc m % (P * 256) = ((m % P + P * (q % 256)) + P * 256 * (q / 256)) % (P * 256) := by rw [← e]
    _ = (m % P + P * (q % 256)) % (P * 256) := Int.add_mul_emod_self_left _ _ _
    _ = m % P + P * (q % 256) := Int.emod_eq_of_lt (by omega) (by omega)
/-! ### Get -/
theorem or_byte (q c : Int) (hq : 0 ≤ q) (hc : 0 ≤ c ∧ c ≤ 255) (hb : q * 256 + c < 18446744073709551616) : Go.bits .or .u64 (IntKind.u64.wrap (q * 256)) (IntKind.u64.wrap c) = q * 256 + c := by
  have w (x : Int) (h0 : 0 ≤ x) (h1 : x < 18446744073709551616) : IntKind.u64.wrap x = x := by
    have : IntKind.u64.wrap x = x % 18446744073709551616 := by simp [IntKind.wrap, IntKind.bits, IntKind.signed]
    rw [this]; exact Int.emod_eq_of_lt h0 h1
  rw [w _ (by omega) (by omega), w _ (by omega) (by omega)]
  exact bits_join .u64 64 (by decide) (fun x h0 h1 => w x h0 (by simpa using h1)) 8 _ _ (by omega) (by omega) (by show q * 256 < 18446744073709551616; omega) hc.1 (by show c < 256; omega) (by show c < 18446744073709551616; omega)
theorem getI_be (n : Int) (s : Nat) : ∀ a : Int, 0 ≤ a → a * 2 ^ (8 * s) + n % 2 ^ (8 * s) < 18446744073709551616 → getI a (be n s) = a * 2 ^ (8 * s) + n % 2 ^ (8 * s) := by
  induction s with
  | zero => intro a _ _; simp [be, getI]
  | succ s ih =>
    intro a ha hb
    have hp : (0 : Int) < 2 ^ (8 * s) := Int.pow_pos (by decide)
    have e : (2 : Int) ^ (8 * (s + 1)) = 2 ^ (8 * s) * 256 := by rw [Nat.mul_add, Int.pow_add]; rfl
    rw [e, emod_256 n _ hp] at hb ⊢
    have h3 := Int.emod_nonneg n (Int.ne_of_gt hp)
    have h4 := Int.emod_lt_of_pos n hp
    generalize hP : (2 : Int) ^ (8 * s) = P at *
    show getI (Go.bits .or .u64 (IntKind.u64.wrap (a * 256)) (IntKind.u64.wrap (n / 2 ^ (8 * s) % 256))) (be n s) = _
    rw [hP]
    generalize hq : n / P % 256 = c at *
    have hc : 0 ≤ c ∧ c ≤ 255 := by omega
    have e2 : a * (P * 256) + (n % P + P * c) = (a * 256 + c) * P + n % P := by
      rw [Int.add_mul, Int.mul_comm P 256, ← Int.mul_assoc, Int.mul_comm P c]; omega
    rw [e2] at hb ⊢
    have h0 : 0 ≤ a * 256 + c := by omega
    have h5 : (a * 256 + c) * 1 ≤ (a * 256 + c) * P := Int.mul_le_mul_of_nonneg_left (by omega) h0
    rw [or_byte a c ha hc (by omega)]
    exact ih _ h0 hb
/-! ### bytes as strings -/
theorem u8_eq {x y : Int} (hx : 0 ≤ x ∧ x ≤ 255) (hy : 0 ≤ y ∧ y ≤ 255) : (UInt8.ofNat x.toNat = UInt8.ofNat y.toNat) ↔ x = y := by
  constructor
  · intro h
    have h := congrArg UInt8.toNat h
    rw [UInt8.toNat_ofNat', UInt8.toNat_ofNat'] at h
    omega
  · rintro rfl; rfl
theorem bytesOf_inj : ∀ {a b : List Int}, Byt a → Byt b → (Lib.bytesOf a = Lib.bytesOf b ↔ a = b)
  | [], [], _, _ => by simp
  | [], _ :: _, _, _ => by simp [Lib.bytesOf]
  | _ :: _, [], _, _ => by simp [Lib.bytesOf]
  | x :: a, y :: b, ha, hb => by
    have ih := bytesOf_inj ha.cons.2 hb.cons.2
    have h1 := u8_eq ha.cons.1 hb.cons.1
    unfold Lib.bytesOf at ih ⊢
    rw [List.map_cons, List.map_cons, List.cons.injEq, List.cons.injEq, h1, ih]
theorem sn_eq {a b : List Int} (ha : Byt a) (hb : Byt b) : ((strOfNums a).toList = (strOfNums b).toList) ↔ a = b := by
  rw [Lib.strOfNums_toList, Lib.strOfNums_toList]
  exact bytesOf_inj ha hb
theorem bytesLess_lexI : ∀ {a b : List Int}, Byt a → Byt b → Op.bytesLess (Lib.bytesOf a) (Lib.bytesOf b) = decide (lexI a b < 0)
  | [], [], _, _ => rfl
  | [], _ :: _, _, _ => rfl
  | _ :: _, [], _, _ => rfl
  | x :: a, y :: b, ha, hb => by
    have ih := bytesLess_lexI ha.cons.2 hb.cons.2
    have h1 := u8_lt ha.cons.1 hb.cons.1
    have h2 := u8_eq ha.cons.1 hb.cons.1
    unfold Lib.bytesOf at ih ⊢
    rw [List.map_cons, List.map_cons, Op.bytesLess, lexI, ih]
    rw [Bool.eq_iff_iff]
    simp only [Bool.or_eq_true, Bool.and_eq_true, decide_eq_true_iff, beq_iff_eq, h1, h2]
    by_cases hlt : x < y
    · simp [hlt]
    · by_cases hgt : y < x
      · have hne : ¬ x = y := by omega
        simp [hlt, hgt, hne]
      · have he : x = y := by omega
        simp [he]
theorem sn_less {a b : List Int} (ha : Byt a) (hb : Byt b) : Op.bytesLess (strOfNums a).toList (strOfNums b).toList = decide (lexI a b < 0) := by
  rw [Lib.strOfNums_toList, Lib.strOfNums_toList]
  exact bytesLess_lexI ha hb
/-! ### rows by rising keys: what is found in them -/
theorem lex_flip : ∀ a b : List Int, lexI a b = - lexI b a
  | [], [] => rfl
  | [], _ :: _ => rfl
  | _ :: _, [] => rfl
  | x :: a, y :: b => by
    have ih := lex_flip a b
    simp only [lexI]
    by_cases h1 : x < y
    · rw [if_pos h1, if_neg (show ¬ y < x by omega), if_pos h1]
    · by_cases h2 : y < x
      · rw [if_neg h1, if_pos h2, if_pos h2]; rfl
      · rw [if_neg h1, if_neg h2, if_neg h2, if_neg h1, ih]
theorem lex_zero : ∀ a b : List Int, lexI a b = 0 → a = b
  | [], [], _ => rfl
  | [], _ :: _, h => by simp [lexI] at h
  | _ :: _, [], h => by simp [lexI] at h
  | x :: a, y :: b, h => by
    simp only [lexI] at h
    by_cases h1 : x < y
    · rw [if_pos h1] at h; omega
    · by_cases h2 : y < x
      · rw [if_neg h1, if_pos h2] at h; omega
      · rw [if_neg h1, if_neg h2] at h
        rw [show x = y by omega, lex_zero a b h]
theorem lex_trans : ∀ a b c : List Int, lexI a b < 0 → lexI b c < 0 → lexI a c < 0
  | [], [], _, h, _ => by simp [lexI] at h
  | [], _ :: _, [], _, h => by simp [lexI] at h
  | [], _ :: _, _ :: _, _, _ => by simp [lexI]
  | _ :: _, [], _, h, _ => by simp [lexI] at h
  | _ :: _, _ :: _, [], _, h => by simp [lexI] at h
  | x :: a, y :: b, z :: c, h1, h2 => by
    have ih := lex_trans a b c
    simp only [lexI] at h1 h2 ⊢
    by_cases a1 : x < y
    · by_cases b1 : y < z
      · rw [if_pos (show x < z by omega)]; decide
      · by_cases b2 : z < y
        · rw [if_neg b1, if_pos b2] at h2; omega
        · rw [if_pos (show x < z by omega)]; decide
    · by_cases a2 : y < x
      · rw [if_neg a1, if_pos a2] at h1; omega
      · rw [if_neg a1, if_neg a2] at h1
        by_cases b1 : y < z
        · rw [if_pos (show x < z by omega)]; decide
        · by_cases b2 : z < y
          · rw [if_neg b1, if_pos b2] at h2; omega
          · rw [if_neg b1, if_neg b2] at h2
            rw [if_neg (show ¬ x < z by omega), if_neg (show ¬ z < x by omega)]
            exact ih h1 h2
theorem lex_irr (a : List Int) : ¬ lexI a a < 0 := by rw [lexI_self]; omega
theorem lex_tri {a b : List Int} (h1 : ¬ lexI a b < 0) (h2 : a ≠ b) : lexI b a < 0 := by
  have h3 := lex_flip a b
  have h4 : lexI a b ≠ 0 := fun e => h2 (lex_zero _ _ e)
  omega
def Ris (l : List S34) : Prop := l.Pairwise (fun x y => lexI x.f0 y.f0 < 0)
def putS : List S34 → S34 → List S34
  | [], x => [x]
  | y :: r, x => if lexI y.f0 x.f0 < 0 then y :: putS r x else if y.f0 = x.f0 then x :: r else x :: y :: r
theorem putS_mem {x z : S34} : ∀ {l : List S34}, z ∈ putS l x → z = x ∨ z ∈ l
  | [], h => .inl (by simpa [putS] using h)
  | y :: r, h => by
    unfold putS at h
    split at h
    · rcases List.mem_cons.1 h with rfl | h
      · exact .inr (List.mem_cons_self ..)
      · rcases putS_mem h with h | h
        · exact .inl h
        · exact .inr (List.mem_cons_of_mem _ h)
    · split at h
      · rcases List.mem_cons.1 h with h | h
        · exact .inl h
        · exact .inr (List.mem_cons_of_mem _ h)
      · rcases List.mem_cons.1 h with h | h
        · exact .inl h
        · exact .inr h
theorem putS_len {x : S34} : ∀ {l : List S34}, (putS l x).length ≤ l.length + 1
  | [] => Nat.le_refl _
  | y :: r => by
    unfold putS
    have := putS_len (x := x) (l := r)
    split
    · rw [List.length_cons, List.length_cons]; omega
    · split
      · rw [List.length_cons, List.length_cons]; omega
      · exact Nat.le_refl _
theorem putS_ris {x : S34} : ∀ {l : List S34}, Ris l → Ris (putS l x)
  | [], _ => List.pairwise_singleton _ _
  | y :: r, h => by
    obtain ⟨h1, h2⟩ := List.pairwise_cons.1 h
    unfold putS
    split
    · next hlt =>
      refine List.pairwise_cons.2 ⟨fun z hz => ?_, putS_ris h2⟩
      rcases putS_mem hz with rfl | hz
      · exact hlt
      · exact h1 z hz
    · next hn =>
      split
      · next he => exact List.pairwise_cons.2 ⟨fun z hz => by rw [← he]; exact h1 z hz, h2⟩
      · next he =>
        have hxy := lex_tri hn he
        refine List.pairwise_cons.2 ⟨fun z hz => ?_, h⟩
        rcases List.mem_cons.1 hz with rfl | hz
        · exact hxy
        · exact lex_trans _ _ _ hxy (h1 z hz)
def KB (l : List S34) : Prop := ∀ x ∈ l, Byt x.f0
theorem KB.cons {x : S34} {l : List S34} (h : KB (x :: l)) : Byt x.f0 ∧ KB l := ⟨h x (List.mem_cons_self ..), fun y hy => h y (List.mem_cons_of_mem _ hy)⟩
theorem putS_kb {x : S34} {l : List S34} (h : KB l) (hx : Byt x.f0) : KB (putS l x) := fun y hy => by
  rcases putS_mem hy with rfl | hy
  · exact hx
  · exact h y hy
theorem less_c {a b : List Int} (ha : Byt a) (hb : Byt b) : (Op.bytesLess (strOfNums a).toList (strOfNums b).toList = true) = (lexI a b < 0) := by
  rw [Lib.strOfNums_toList, Lib.strOfNums_toList, bytesLess_lexI ha hb]
  exact decide_eq_true_eq
theorem rd_0 (y : S34) (r : List S34) : rd_T34 (y :: r) ((0 : Nat) : Int) = y := rfl
theorem rd_s (y : S34) (r : List S34) (n : Nat) : rd_T34 (y :: r) ((n + 1 : Nat) : Int) = rd_T34 r (n : Int) := rfl
theorem riseI_eq {x : S34} (hx : Byt x.f0) : ∀ {l : List S34}, KB l → riseI l x = putS l x
  | [], _ => rfl
  | y :: r, h => by
    have ih := riseI_eq hx h.cons.2
    have hc := less_c h.cons.1 hx
    unfold putS
    by_cases hlt : lexI y.f0 x.f0 < 0
    · rw [if_pos hlt, ← ih]
      have e : riseFrom (y :: r) x = riseFrom r x + 1 := by
        rw [riseFrom, if_pos (by rw [hc]; exact hlt)]
      unfold riseI
      rw [e, rd_s, List.length_cons]
      by_cases h2 : riseFrom r x < r.length ∧ (strOfNums (rd_T34 r (riseFrom r x : Nat)).f0).toList = (strOfNums x.f0).toList
      · rw [if_pos h2, if_pos ⟨by omega, h2.2⟩]; rfl
      · rw [if_neg h2, if_neg (fun hh => h2 ⟨by omega, hh.2⟩)]; rfl
    · rw [if_neg hlt]
      have e : riseFrom (y :: r) x = 0 := by
        rw [riseFrom, if_neg (by rw [hc]; exact hlt)]
      unfold riseI
      rw [e, rd_0]
      by_cases he : y.f0 = x.f0
      · rw [if_pos he, if_pos ⟨by simp, by rw [he]⟩]; rfl
      · rw [if_neg he, if_neg (fun hh => he ((sn_eq h.cons.1 hx).1 hh.2))]; rfl
theorem folds_ris : ∀ {q acc : List S34}, Ris acc → Ris (q.foldl putS acc)
  | [], _, h => h
  | x :: q, _, h => by rw [List.foldl_cons]; exact folds_ris (putS_ris h)
theorem folds_mem {z : S34} : ∀ {q acc : List S34}, z ∈ q.foldl putS acc → z ∈ q ∨ z ∈ acc
  | [], _, h => .inr h
  | x :: q, acc, h => by
    rw [List.foldl_cons] at h
    rcases folds_mem h with h | h
    · exact .inl (List.mem_cons_of_mem _ h)
    · rcases putS_mem h with rfl | h
      · exact .inl (List.mem_cons_self ..)
      · exact .inr h
theorem folds_len : ∀ {q acc : List S34}, (q.foldl putS acc).length ≤ q.length + acc.length
  | [], _ => by rw [List.length_nil, Nat.zero_add]; exact Nat.le_refl _
  | x :: q, acc => by
    rw [List.foldl_cons]
    have h1 := folds_len (q := q) (acc := putS acc x)
    have h2 := putS_len (x := x) (l := acc)
    rw [List.length_cons]
    omega
theorem rise_folds : ∀ {q acc : List S34}, KB q → KB acc → q.foldl riseI acc = q.foldl putS acc
  | [], _, _, _ => rfl
  | x :: q, acc, h, ha => by
    rw [List.foldl_cons, List.foldl_cons, riseI_eq h.cons.1 ha]
    exact rise_folds h.cons.2 (putS_kb ha h.cons.1)
/-! ### a block: its bytes, as they are laid -/
def pre : List Int → List Int → Nat
  | a :: r, b :: s => if a = b then pre r s + 1 else 0
  | _, _ => 0
theorem pre_le1 : ∀ a b : List Int, pre a b ≤ a.length
  | [], _ => by simp [pre]
  | _ :: _, [] => by simp [pre]
  | a :: r, b :: s => by
    have := pre_le1 r s
    unfold pre
    split <;> simp <;> omega
theorem pre_le2 : ∀ a b : List Int, pre a b ≤ b.length
  | [], _ => by simp [pre]
  | _ :: _, [] => by simp [pre]
  | a :: r, b :: s => by
    have := pre_le2 r s
    unfold pre
    split <;> simp <;> omega
theorem pre_take : ∀ a b : List Int, a.take (pre a b) = b.take (pre a b)
  | [], b => by simp [pre]
  | _ :: _, [] => by simp [pre]
  | a :: r, b :: s => by
    have := pre_take r s
    unfold pre
    by_cases h : a = b
    · rw [if_pos h, List.take_succ_cons, List.take_succ_cons, this, h]
    · rw [if_neg h]; rfl
theorem drop_rdI' {l : List Int} {i : Nat} (h : i < l.length) : l.drop i = rd l (i : Int) :: l.drop (i + 1) := drop_rdI h
theorem shared_loop (a b : List Int) (ha : a.length < 1000000) : ∀ (d j : Nat), d + j = a.length → Ev (fun k => octet_Shared.l0 k a b (j : Int)) ((pre (a.drop j) (b.drop j) + j : Nat) : Int) := by
  intro d
  induction d with
  | zero =>
    intro j hj
    refine evDown ?_
    refine evNow (fun k => ?_)
    rw [octet_Shared.l0, if_neg (by omega), show a.drop j = [] by rw [List.drop_eq_nil_iff]; omega]
    simp [pre]
  | succ d ih =>
    intro j hj
    refine evDown ?_
    by_cases h2 : j < b.length
    · rw [drop_rdI' (show j < a.length by omega), drop_rdI' h2]
      by_cases h : rd a (j : Int) = rd b (j : Int)
      · refine evEq (fun k => ?_) (ih (j + 1) (by omega)) |> fun h => by simpa [pre, ‹rd a (j : Int) = rd b (j : Int)›, Nat.add_assoc, Nat.add_comm 1 j] using h
        rw [octet_Shared.l0, if_pos (by omega), if_pos (by omega), if_pos (by omega), if_pos h, show wrap64 ((j : Int) + 1) = ((j + 1 : Nat) : Int) by unfold wrap64; omega]
      · refine evNow (fun k => ?_)
        rw [octet_Shared.l0, if_pos (by omega), if_pos (by omega), if_pos (by omega), if_neg h]
        simp [pre, h]
    · refine evNow (fun k => ?_)
      rw [octet_Shared.l0, if_pos (by omega), if_neg (by omega), show b.drop j = [] by rw [List.drop_eq_nil_iff]; omega]
      cases h : a.drop j <;> simp [pre]
theorem shared_tells (a b : List Int) (ha : a.length < 1000000) : Ev (fun k => octet_Shared.f k a b) (pre a b : Int) := by
  have h := shared_loop a b ha a.length 0 (by omega)
  simpa [octet_Shared.f] using h
/-- One entry's bytes behind one that has the key 'last'. -/
def entS (last : List Int) (x : S34) : List Int :=
  [(pre last x.f0 : Int), ((x.f0.length - pre last x.f0 : Nat) : Int)] ++ x.f0.drop (pre last x.f0) ++ (if x.f2 = true then [0] else [1] ++ be (x.f1.length : Int) 2 ++ x.f1)
structure Fit (x : S34) : Prop where
  k1 : 1 ≤ x.f0.length
  k2 : x.f0.length ≤ 255
  v : x.f1.length ≤ 4095
  g : x.f2 = true → x.f1 = []
  kb : Byt x.f0
  vb : Byt x.f1
theorem entS_len (last : List Int) {x : S34} (h : Fit x) : (entS last x).length ≤ 5000 := by
  have := h.k2; have := h.v
  unfold entS
  split <;> simp [be_len] <;> omega
theorem put_tells' (b last : List Int) {x : S34} (h : Fit x) (hl : last.length < 1000000) (hb : b.length ≤ 1000000000) : Ev (fun k => block_put.f k b last x.f0 x.f1 x.f2) (b ++ entS last x) := by
  obtain ⟨K, hK⟩ := shared_tells last x.f0 hl
  have h1 := pre_le2 last x.f0
  have h2 := h.k2
  have h3 := h.v
  have e1 : ((pre last x.f0 : Int)) % 256 = (pre last x.f0 : Int) := by omega
  have e2 : wrap64 ((x.f0.length : Int) - (pre last x.f0 : Int)) % 256 = ((x.f0.length - pre last x.f0 : Nat) : Int) := by unfold wrap64; omega
  have e3 : IntKind.u64.wrap ((x.f1.length : Int)) = (x.f1.length : Int) := by rw [IntKind.wrap_u64]; omega
  refine ⟨K + 3, fun k hk => ?_⟩
  show block_put.f k b last x.f0 x.f1 x.f2 = _
  unfold block_put.f
  have hKk : octet_Shared.f k last x.f0 = some (pre last x.f0 : Int) := hK k (by omega)
  rw [hKk]
  simp only [Option.bind_some, e1, e2]
  unfold entS
  generalize pre last x.f0 = p at *
  have hp : (p : Int).toNat = p := Int.toNat_natCast p
  rw [if_pos (by simp; omega), if_pos (by omega), if_pos (by omega), if_pos (by simp; omega), hp]
  by_cases hg : x.f2 = true
  · rw [if_pos hg, if_pos (by simp; omega), if_pos hg]
    simp [List.append_assoc]
  · rw [if_neg hg, if_pos (by simp; omega), if_neg hg, e3]
    have hp2 : ∀ l : List Int, l.length ≤ 1000001000 → octet_Put.f k l (x.f1.length : Int) 2 = some (l ++ be (x.f1.length : Int) 2) := fun l hl => put_tells l _ 2 k (by decide) (by omega) (by omega)
    rw [hp2 _ (by simp; omega)]
    simp only [Option.bind_some]
    rw [if_pos (by simp [be_len]; omega)]
    simp [List.append_assoc]
def bodyS : List S34 → Nat → List Int → List Int
  | [], _, _ => []
  | x :: r, i, last => entS (if i % 4 = 0 then [] else last) x ++ bodyS r (i + 1) x.f0
def begS : List S34 → Nat → List Int → Nat → List Int
  | [], _, _, _ => []
  | x :: r, i, last, o => (if i % 4 = 0 then [(o : Int)] else []) ++ begS r (i + 1) x.f0 (o + (entS (if i % 4 = 0 then [] else last) x).length)
theorem body_len : ∀ {l : List S34} {i : Nat} {last : List Int}, (∀ x ∈ l, Fit x) → (bodyS l i last).length ≤ 5000 * l.length
  | [], _, _, _ => by simp [bodyS]
  | x :: r, i, last, h => by
    have ih := body_len (l := r) (i := i + 1) (last := x.f0) (fun y hy => h y (List.mem_cons_of_mem _ hy))
    have := entS_len (if i % 4 = 0 then [] else last) (h x (List.mem_cons_self ..))
    unfold bodyS
    rw [List.length_append, List.length_cons]
    omega
theorem go_tells : ∀ (l : List S34) (i : Nat) (b last beg : List Int), (∀ x ∈ l, Fit x) → last.length ≤ 255 → b.length + 5000 * l.length ≤ 1000000000 → Ev (fun k => bldGo k l i b last beg) (b ++ bodyS l i last, beg ++ begS l i last b.length)
  | [], i, b, last, beg, _, _, _ => evNow (fun k => by simp [bldGo, bodyS, begS])
  | x :: r, i, b, last, beg, h, hl, hb => by
    have hx := h x (List.mem_cons_self ..)
    have hr : ∀ y ∈ r, Fit y := fun y hy => h y (List.mem_cons_of_mem _ hy)
    rw [List.length_cons] at hb
    by_cases hi : i % 4 = 0
    · have he := entS_len [] hx
      obtain ⟨K1, h1⟩ := put_tells' b [] hx (by simp) (by omega)
      obtain ⟨K2, h2⟩ := go_tells r (i + 1) (b ++ entS [] x) x.f0 (beg ++ [(b.length : Int)]) hr hx.k2 (by rw [List.length_append]; omega)
      refine ⟨K1 + K2, fun k hk => ?_⟩
      have h1 := h1 k (by omega)
      have h2 := h2 k (by omega)
      show bldGo k (x :: r) i b last beg = _
      unfold bldGo bodyS begS
      simp only [if_pos hi, h1, h2, Option.bind_some]
      simp [List.append_assoc]
    · have he := entS_len last hx
      obtain ⟨K1, h1⟩ := put_tells' b last hx (by omega) (by omega)
      obtain ⟨K2, h2⟩ := go_tells r (i + 1) (b ++ entS last x) x.f0 beg hr hx.k2 (by rw [List.length_append]; omega)
      refine ⟨K1 + K2, fun k hk => ?_⟩
      have h1 := h1 k (by omega)
      have h2 := h2 k (by omega)
      show bldGo k (x :: r) i b last beg = _
      unfold bldGo bodyS begS
      simp only [if_neg hi, h1, h2, Option.bind_some]
      simp [List.append_assoc]
def laid (beg : List Int) : List Int := beg.flatMap (fun a => be a 2)
theorem laid_len (beg : List Int) : (laid beg).length = 2 * beg.length := by
  unfold laid
  induction beg with
  | nil => rfl
  | cons a r ih => rw [List.flatMap_cons, List.length_append, ih, be_len, List.length_cons]; omega
theorem lay_tells : ∀ (beg b : List Int), (∀ a ∈ beg, 0 ≤ a ∧ a ≤ 65535) → b.length + 2 * beg.length ≤ 1000000000 → Ev (fun k => bldLay k beg b) (some (b ++ laid beg))
  | [], b, _, _ => evNow (fun k => by simp [bldLay, laid])
  | a :: r, b, h, hb => by
    have ha := h a (List.mem_cons_self ..)
    rw [List.length_cons] at hb
    obtain ⟨K, hK⟩ := lay_tells r (b ++ be a 2) (fun y hy => h y (List.mem_cons_of_mem _ hy)) (by rw [List.length_append, be_len]; omega)
    refine ⟨K + 3, fun k hk => ?_⟩
    have h2 := hK k (by omega)
    have e3 : IntKind.u64.wrap a = a := by rw [IntKind.wrap_u64]; omega
    show bldLay k (a :: r) b = _
    unfold bldLay
    have h3 : octet_Put.f k b a 2 = some (b ++ be a 2) := put_tells b a 2 k (by decide) (by omega) (by omega)
    rw [if_neg (by omega), e3, h3]
    refine Eq.trans h2 ?_
    simp [laid, List.append_assoc]
/-- The block's bytes. -/
def blockS (m : List S34) : List Int := bodyS m 0 [] ++ laid (begS m 0 [] 0) ++ [((begS m 0 [] 0).length : Int)]
theorem beg_len : ∀ (l : List S34) (i : Nat) (last : List Int) (o : Nat), (begS l i last o).length ≤ l.length
  | [], _, _, _ => by simp [begS]
  | x :: r, i, last, o => by
    have h := beg_len r (i + 1) x.f0 (o + (entS (if i % 4 = 0 then [] else last) x).length)
    unfold begS
    rw [List.length_append, List.length_cons]
    generalize (begS r (i + 1) x.f0 (o + (entS (if i % 4 = 0 then [] else last) x).length)).length = n at *
    split <;> simp <;> omega
/-- The keys rise, each entry fits. -/
structure Good (m : List S34) : Prop where
  fit : ∀ x ∈ m, Fit x
  ris : Ris m
  n1 : 1 ≤ m.length
  n2 : m.length ≤ 60
theorem less_lex {a b : List Int} (ha : Byt a) (hb : Byt b) : octet_Less.f a b = some (decide (lexI a b < 0)) := by
  unfold octet_Less.f bytes_Compare.f
  rw [cmp_lexI ha hb]
  rfl
theorem rd_mem {m : List S34} {i : Nat} (h : i < m.length) : rd_T34 m (i : Int) ∈ m := by
  have e : rd_T34 m (i : Int) = m[i] := by
    unfold rd_T34
    rw [Int.toNat_natCast, List.getD_eq_getElem?_getD, List.getElem?_eq_getElem h]
    rfl
  rw [e]
  exact List.getElem_mem h
theorem rd_ris {m : List S34} (h : Ris m) {i j : Nat} (hij : i < j) (hj : j < m.length) : lexI (rd_T34 m (i : Int)).f0 (rd_T34 m (j : Int)).f0 < 0 := by
  have e : ∀ i : Nat, ∀ h : i < m.length, rd_T34 m (i : Int) = m[i] := fun i h => by
    unfold rd_T34
    rw [Int.toNat_natCast, List.getD_eq_getElem?_getD, List.getElem?_eq_getElem h]
    rfl
  rw [e i (by omega), e j hj]
  exact List.pairwise_iff_getElem.1 h i j (by omega) hj hij
theorem fits_loop {m : List S34} (h : Good m) : ∀ (d j : Nat), d + j = m.length → Ev (fun k => block_Fits.l0 k m m (m.length : Int) (j : Int)) true := by
  intro d
  have hn := h.n2
  induction d with
  | zero =>
    intro j hj
    refine evDown (evNow (fun k => ?_))
    rw [block_Fits.l0, if_neg (by omega)]
  | succ d ih =>
    intro j hj
    refine evDown (evEq (fun k => ?_) (ih (j + 1) (by omega)))
    have hx := h.fit _ (rd_mem (show j < m.length by omega))
    have h1 := hx.k1
    have h2 := hx.k2
    have h3 := hx.v
    have ew : wrap64 ((j : Int) + 1) = ((j + 1 : Nat) : Int) := by unfold wrap64; omega
    have hless : (j : Int) > 0 → 0 ≤ wrap64 ((j : Int) - 1) ∧ wrap64 ((j : Int) - 1) < (m.length : Int) ∧ octet_Less.f (rd_T34 m (wrap64 ((j : Int) - 1))).f0 (rd_T34 m (j : Int)).f0 = some true := fun hj0 => by
      obtain ⟨i, rfl⟩ : ∃ i, j = i + 1 := ⟨j - 1, by omega⟩
      have ew2 : wrap64 (((i + 1 : Nat) : Int) - 1) = (i : Int) := by unfold wrap64; omega
      have hy := h.fit _ (rd_mem (show i < m.length by omega))
      have hl := rd_ris h.ris (show i < i + 1 by omega) (by omega)
      rw [ew2, less_lex hy.kb hx.kb, decide_eq_true hl]
      exact ⟨by omega, by omega, rfl⟩
    rw [block_Fits.l0, if_pos (by omega), if_pos (by omega), if_pos (by omega), ew]
    by_cases hg : (rd_T34 m (j : Int)).f2 = true
    · rw [if_pos hg, if_neg (by omega), if_neg (by omega)]
      by_cases hj0 : (j : Int) > 0
      · obtain ⟨q1, q2, q3⟩ := hless hj0
        rw [if_pos hj0, if_pos q1, if_pos q2, q3]
        rfl
      · rw [if_neg hj0]
    · rw [if_neg hg, if_neg (by omega), if_neg (by omega), if_neg (by omega)]
      by_cases hj0 : (j : Int) > 0
      · obtain ⟨q1, q2, q3⟩ := hless hj0
        rw [if_pos hj0, if_pos q1, if_pos q2, q3]
        rfl
      · rw [if_neg hj0]
theorem build_tells {m : List S34} (h : Good m) (hs : ∀ a ∈ begS m 0 [] 0, 0 ≤ a ∧ a ≤ 65535) : Ev (fun k => block_Build.f k m) (blockS m, 0) := by
  have hn := h.n2
  have h1 := h.n1
  obtain ⟨K1, g1⟩ := fits_loop h m.length 0 (by omega)
  obtain ⟨K2, g2⟩ := go_tells m 0 [] [] [] h.fit (by simp) (by simp; omega)
  have hb := beg_len m 0 [] 0
  have hl := body_len (l := m) (i := 0) (last := []) h.fit
  obtain ⟨K3, g3⟩ := lay_tells (begS m 0 [] 0) (bodyS m 0 []) hs (by omega)
  refine ⟨K1 + K2 + K3, fun k hk => ?_⟩
  have g1 : block_Fits.f k m = some true := g1 k (by omega)
  have g2 : bldGo k m 0 [] [] [] = some (bodyS m 0 [], begS m 0 [] 0) := (g2 k (by omega)).trans (by simp)
  have g3 : bldLay k (begS m 0 [] 0) (bodyS m 0 []) = _ := g3 k (by omega)
  show block_Build.f k m = _
  unfold block_Build.f
  rw [if_neg (by omega), if_neg (by omega), g1]
  simp only [Option.bind_some, g2, g3, if_true]
  unfold bldEnd
  simp only
  rw [if_pos (by rw [List.length_append, laid_len]; omega)]
  unfold blockS
  rw [show ((begS m 0 [] 0).length : Int) % 256 = ((begS m 0 [] 0).length : Int) by omega]
/-! ### what was laid is read -/
theorem num1_at (a r : List Int) (c : Int) (hc : 0 ≤ c ∧ c ≤ 255) {p : Nat} (hp : p = a.length) : numB 1 (a ++ c :: r) p = c := by
  subst hp
  have e : (c :: r).take 1 = be c 1 := by simp [be]; omega
  unfold numB
  rw [List.drop_left, e, getI_be c 1 0 (Int.le_refl _) (by rw [show (2 : Int) ^ (8 * 1) = 256 from rfl]; omega), show (2 : Int) ^ (8 * 1) = 256 from rfl]
  unfold wrap64
  omega
theorem num2_at (a r : List Int) (n : Int) (hn : 0 ≤ n ∧ n ≤ 65535) {p : Nat} (hp : p = a.length) : numB 2 (a ++ (be n 2 ++ r)) p = n := by
  subst hp
  have e : (be n 2 ++ r).take 2 = be n 2 := by
    have := List.take_left (l₁ := be n 2) (l₂ := r)
    rwa [be_len] at this
  unfold numB
  rw [List.drop_left, e, getI_be n 2 0 (Int.le_refl _) (by rw [show (2 : Int) ^ (8 * 2) = 65536 from rfl]; omega), show (2 : Int) ^ (8 * 2) = 65536 from rfl]
  unfold wrap64
  omega
theorem take_at (a t r : List Int) {p n : Nat} (hp : p = a.length) (hn : n = t.length) : ((a ++ (t ++ r)).drop p).take n = t := by
  subst hp
  subst hn
  rw [List.drop_left, List.take_left]
def goneS (x : S34) : List Int := if x.f2 = true then [0] else [1] ++ be (x.f1.length : Int) 2 ++ x.f1
theorem end_tells (a z key : List Int) {x : S34} (h : Fit x) {p : Nat} (hp : p = a.length) : entEnd (a ++ (goneS x ++ z)) key p = some (some (⟨key, x.f1, x.f2⟩, p + (goneS x).length)) := by
  have hv := h.v
  unfold goneS
  by_cases hg : x.f2 = true
  · rw [if_pos hg]
    unfold entEnd
    rw [if_neg (by simp; omega), show a ++ ([0] ++ z) = a ++ (0 : Int) :: z from rfl, num1_at a z 0 (by decide) hp, if_pos rfl, h.g hg, hg]
    rfl
  · rw [if_neg hg]
    have e1 : a ++ ([1] ++ be (x.f1.length : Int) 2 ++ x.f1 ++ z) = a ++ (1 : Int) :: (be (x.f1.length : Int) 2 ++ x.f1 ++ z) := by simp
    have e2 : a ++ (1 : Int) :: (be (x.f1.length : Int) 2 ++ x.f1 ++ z) = (a ++ [1]) ++ (be (x.f1.length : Int) 2 ++ (x.f1 ++ z)) := by simp
    have e3 : (a ++ [1]) ++ (be (x.f1.length : Int) 2 ++ (x.f1 ++ z)) = (a ++ [1] ++ be (x.f1.length : Int) 2) ++ (x.f1 ++ z) := by simp
    have hl : (a ++ (1 : Int) :: (be (x.f1.length : Int) 2 ++ x.f1 ++ z)).length = a.length + 3 + x.f1.length + z.length := by simp [be_len]; omega
    have n1 := num1_at a (be (x.f1.length : Int) 2 ++ x.f1 ++ z) 1 (by decide) hp
    have n2 : numB 2 (a ++ (1 : Int) :: (be (x.f1.length : Int) 2 ++ x.f1 ++ z)) (p + 1) = (x.f1.length : Int) := by rw [e2]; exact num2_at _ _ _ (by omega) (by simp [hp])
    have n3 : ((a ++ (1 : Int) :: (be (x.f1.length : Int) 2 ++ x.f1 ++ z)).drop (p + 1 + 2)).take x.f1.length = x.f1 := by rw [e2, e3]; exact take_at _ _ _ (by simp [be_len, hp]) rfl
    rw [e1]
    have hgf : x.f2 = false := by simpa using hg
    unfold entEnd
    rw [if_neg (by omega), n1, if_neg (by decide), if_neg (by omega), n2, if_pos (by omega), Int.toNat_natCast, if_neg (by omega), n3, hgf]
    simp [be_len]
    omega
theorem entB_tells (a z last : List Int) {x : S34} (h : Fit x) {p : Nat} (hp : p = a.length) : entB (a ++ (entS last x ++ z)) last p = some (some (x, p + (entS last x).length)) := by
  have h1 := pre_le2 last x.f0
  have h1' := pre_le1 last x.f0
  have h2 := h.k2
  have e0 : entS last x = [(pre last x.f0 : Int), ((x.f0.length - pre last x.f0 : Nat) : Int)] ++ x.f0.drop (pre last x.f0) ++ goneS x := rfl
  have hkey : last.take (pre last x.f0) ++ x.f0.drop (pre last x.f0) = x.f0 := by rw [pre_take, List.take_append_drop]
  rw [e0]
  generalize pre last x.f0 = n at *
  have hd : (x.f0.drop n).length = x.f0.length - n := List.length_drop
  generalize hK : x.f0.drop n = K at *
  have e1 : a ++ ([(n : Int), ((x.f0.length - n : Nat) : Int)] ++ K ++ goneS x ++ z) = a ++ (n : Int) :: (((x.f0.length - n : Nat) : Int) :: (K ++ (goneS x ++ z))) := by simp
  have e2 : a ++ (n : Int) :: (((x.f0.length - n : Nat) : Int) :: (K ++ (goneS x ++ z))) = (a ++ [(n : Int)]) ++ ((x.f0.length - n : Nat) : Int) :: (K ++ (goneS x ++ z)) := by simp
  have e3 : a ++ (n : Int) :: (((x.f0.length - n : Nat) : Int) :: (K ++ (goneS x ++ z))) = (a ++ [(n : Int), ((x.f0.length - n : Nat) : Int)]) ++ (K ++ (goneS x ++ z)) := by simp
  have e4 : a ++ (n : Int) :: (((x.f0.length - n : Nat) : Int) :: (K ++ (goneS x ++ z))) = (a ++ [(n : Int), ((x.f0.length - n : Nat) : Int)] ++ K) ++ (goneS x ++ z) := by simp
  have hl : (a ++ (n : Int) :: (((x.f0.length - n : Nat) : Int) :: (K ++ (goneS x ++ z)))).length = a.length + 2 + K.length + (goneS x).length + z.length := by simp; omega
  have n1 : numB 1 (a ++ (n : Int) :: (((x.f0.length - n : Nat) : Int) :: (K ++ (goneS x ++ z)))) p = (n : Int) := num1_at _ _ _ (by omega) hp
  have n2 : numB 1 (a ++ (n : Int) :: (((x.f0.length - n : Nat) : Int) :: (K ++ (goneS x ++ z)))) (p + 1) = ((x.f0.length - n : Nat) : Int) := by rw [e2]; exact num1_at _ _ _ (by omega) (by simp [hp])
  have n3 : ((a ++ (n : Int) :: (((x.f0.length - n : Nat) : Int) :: (K ++ (goneS x ++ z)))).drop (p + 1 + 1)).take (x.f0.length - n) = K := by rw [e3]; exact take_at _ _ _ (by simp [hp]) hd.symm
  have n4 : ∀ key, entEnd (a ++ (n : Int) :: (((x.f0.length - n : Nat) : Int) :: (K ++ (goneS x ++ z)))) key (p + 1 + 1 + (x.f0.length - n)) = some (some (⟨key, x.f1, x.f2⟩, p + 1 + 1 + (x.f0.length - n) + (goneS x).length)) := fun key => by rw [e4]; exact end_tells _ _ _ h (by simp [hp]; omega)
  rw [e1]
  unfold entB
  rw [if_neg (by omega), if_neg (by omega), n1, n2, if_neg (by omega), if_pos (by omega), if_pos (by omega), Int.toNat_natCast, Int.toNat_natCast, if_neg (by omega), n3, hkey, n4]
  simp
  omega
theorem entS_pos (last : List Int) (x : S34) : 1 ≤ (entS last x).length := by unfold entS; simp
theorem ents_tells {m : List S34} (hn : m.length ≤ 60) (z : List Int) : ∀ (l : List S34) (out : List S34) (a last : List Int) (k : Nat), out.length + l.length ≤ 60 → (∀ x ∈ l, Fit x) → last.length ≤ 255 → l.length < k →
    entsB (a ++ (bodyS l out.length last ++ z)) ((a.length + (bodyS l out.length last).length : Nat) : Int) k a.length out last = some (some (out ++ l))
  | [], out, a, last, k + 1, _, _, _, _ => by
    unfold entsB
    rw [if_neg (by simp [bodyS])]
    simp
  | x :: r, out, a, last, k + 1, hl, h, hla, hk => by
    have hx := h x (List.mem_cons_self ..)
    have hr : ∀ y ∈ r, Fit y := fun y hy => h y (List.mem_cons_of_mem _ hy)
    rw [List.length_cons] at hl hk
    have hp := entS_pos (if out.length % 4 = 0 then [] else last) x
    have eb : bodyS (x :: r) out.length last = entS (if out.length % 4 = 0 then [] else last) x ++ bodyS r (out.length + 1) x.f0 := rfl
    have ih := ents_tells hn z r (out ++ [x]) (a ++ entS (if out.length % 4 = 0 then [] else last) x) x.f0 k (by rw [List.length_append, List.length_singleton]; omega) hr hx.k2 (by omega)
    have eo : (out ++ [x]).length = out.length + 1 := by simp
    rw [eo] at ih
    rw [eb]
    have e1 : a ++ (entS (if out.length % 4 = 0 then [] else last) x ++ bodyS r (out.length + 1) x.f0 ++ z) = a ++ (entS (if out.length % 4 = 0 then [] else last) x ++ (bodyS r (out.length + 1) x.f0 ++ z)) := by simp
    have e2 : a ++ (entS (if out.length % 4 = 0 then [] else last) x ++ (bodyS r (out.length + 1) x.f0 ++ z)) = (a ++ entS (if out.length % 4 = 0 then [] else last) x) ++ (bodyS r (out.length + 1) x.f0 ++ z) := by simp
    rw [e1]
    unfold entsB
    rw [if_pos (by rw [List.length_append]; omega), if_pos (by omega), entB_tells a _ _ hx rfl]
    simp only
    rw [e2]
    have el : a.length + (entS (if out.length % 4 = 0 then [] else last) x).length = (a ++ entS (if out.length % 4 = 0 then [] else last) x).length := by simp
    have ee : a.length + (entS (if out.length % 4 = 0 then [] else last) x ++ bodyS r (out.length + 1) x.f0).length = (a ++ entS (if out.length % 4 = 0 then [] else last) x).length + (bodyS r (out.length + 1) x.f0).length := by simp; omega
    rw [el, ee]
    exact ih.trans (by simp)
theorem body_pos : ∀ (l : List S34) (i : Nat) (last : List Int), l.length ≤ (bodyS l i last).length
  | [], _, _ => by simp
  | x :: r, i, last => by
    have h1 := body_pos r (i + 1) x.f0
    have h2 := entS_pos (if i % 4 = 0 then [] else last) x
    unfold bodyS
    rw [List.length_append, List.length_cons]
    omega
theorem ends_tells {m : List S34} (h : Good m) : rbEnd (blockS m) = ((bodyS m 0 []).length : Int) := by
  have hn := h.n2
  have hb := beg_len m 0 [] 0
  have hl := body_len (l := m) (i := 0) (last := []) h.fit
  have hlen : (blockS m).length = (bodyS m 0 []).length + 2 * (begS m 0 [] 0).length + 1 := by unfold blockS; simp [laid_len]; omega
  have hr : rd (blockS m) (((blockS m).length : Int) - 1) = ((begS m 0 [] 0).length : Int) := by
    have e : (((blockS m).length : Int) - 1) = (((bodyS m 0 []).length + 2 * (begS m 0 [] 0).length : Nat) : Int) := by rw [hlen]; omega
    rw [e]
    unfold rd blockS
    rw [Int.toNat_natCast, List.getD_eq_getElem?_getD, List.getElem?_append_right (by simp [laid_len])]
    simp [laid_len]
  unfold rbEnd
  rw [hr, hlen]
  unfold wrap64
  omega
theorem read_tells {m : List S34} (h : Good m) : block_read.f (blockS m) = some m := by
  have hn := h.n2
  have h1 := h.n1
  have hb := beg_len m 0 [] 0
  have hl := body_len (l := m) (i := 0) (last := []) h.fit
  have hlen : (blockS m).length = (bodyS m 0 []).length + 2 * (begS m 0 [] 0).length + 1 := by unfold blockS; simp [laid_len]; omega
  have hm : m.length ≤ (bodyS m 0 []).length := body_pos m 0 []
  have he := ents_tells hn (laid (begS m 0 [] 0) ++ [((begS m 0 [] 0).length : Int)]) m [] [] [] ((blockS m).length + 2) (by simp; omega) h.fit (by simp) (by omega)
  unfold block_read.f
  rw [if_pos (by omega), if_neg (by omega), ends_tells h]
  have e : blockS m = [] ++ (bodyS m ([] : List S34).length [] ++ (laid (begS m 0 [] 0) ++ [((begS m 0 [] 0).length : Int)])) := by unfold blockS; simp
  have he' : entsB (blockS m) ((bodyS m 0 []).length : Int) ((blockS m).length + 2) 0 [] [] = some (some m) := by
    refine Eq.trans ?_ (he.trans (by simp))
    congr 1
    simp
  rw [he']
  rfl
/-! ### entries as they are drawn -/
theorem Byt.take {l : List Int} (h : Byt l) (n : Nat) : Byt (l.take n) := fun x hx => h x (List.mem_of_mem_take hx)
theorem wadd1 {a : Nat} (h : a ≤ 10000000) : wrap64 ((a : Int) + 1) = ((a + 1 : Nat) : Int) := by unfold wrap64; omega
theorem cutI_byt {a : List Int} (h : Byt a) (n : Nat) : Byt (cutI a n) := by
  unfold cutI
  split
  · exact h.take n
  · exact h
theorem cutI_len (a : List Int) (n : Nat) : (cutI a n).length ≤ n := by
  unfold cutI
  split
  · rw [List.length_take]; omega
  · omega
theorem cut_tells {a : List Int} {n : Int} (hn : 0 ≤ n) : marigraphkeep_Cut.f a n = some (cutI a n.toNat) := by
  obtain ⟨m, rfl⟩ := Int.eq_ofNat_of_zero_le hn
  unfold marigraphkeep_Cut.f cutI
  rw [Int.toNat_natCast]
  by_cases h : (a.length : Int) > (m : Int)
  · rw [if_pos h, if_pos (by omega), if_pos (by omega), if_pos (by omega)]
  · rw [if_neg h, if_neg (by omega)]
theorem rdE_at {l : List S34} {j : Nat} (h : j < l.length) : rd_T34 l (j : Int) = l[j] := by
  unfold rd_T34
  rw [Int.toNat_natCast, List.getD_eq_getElem?_getD, List.getElem?_eq_getElem h]
  rfl
def normE (key value : Nat) (x : S34) : S34 := ⟨if (cutI x.f0 key).length = 0 then [107] else cutI x.f0 key, if x.f2 = true then [] else cutI x.f1 value, x.f2⟩
def WfE (x : S34) : Prop := Byt x.f0 ∧ Byt x.f1
theorem ent_loop {l : List S34} {n key value : Nat} (hn : n ≤ 1000) : ∀ (d j : Nat) (out : List S34), min l.length n - j = d → j ≤ l.length → j ≤ n → out.length = j → Ev (fun k => marigraphkeep_Entries.l0 k l (n : Int) (key : Int) (value : Int) out (j : Int)) (out ++ ((l.take n).drop j).map (normE key value)) := by
  intro d
  induction d with
  | zero =>
    intro j out hd h1 h2 ho
    have e : (l.take n).drop j = [] := List.drop_of_length_le (by rw [List.length_take]; omega)
    rw [e, List.map_nil, List.append_nil]
    have hj : Ev (fun k => marigraphkeep_Entries.j1 k l (n : Int) (key : Int) (value : Int) out (j : Int) false) out := by
      refine evDown ?_
      simp only [marigraphkeep_Entries.j1, Bool.false_eq_true, if_false]
      exact Ev.now _
    refine evDown ?_
    simp only [marigraphkeep_Entries.l0]
    by_cases h : (j : Int) < (l.length : Int)
    · simp only [if_pos h, decide_eq_false (show ¬ (j : Int) < (n : Int) by omega)]
      exact hj
    · simp only [if_neg h]
      exact hj
  | succ d ih =>
    intro j out hd h1 h2 ho
    have hlt : j < l.length := by omega
    have e : (l.take n).drop j = l[j] :: (l.take n).drop (j + 1) := by
      rw [List.drop_eq_getElem_cons (show j < (l.take n).length by rw [List.length_take]; omega), List.getElem_take]
    rw [e, List.map_cons]
    have hi := ih (j + 1) (out ++ [normE key value l[j]]) (by omega) (by omega) (by omega) (by rw [List.length_append, ho]; rfl)
    rw [List.append_assoc] at hi
    have hrd := rdE_at hlt
    generalize l[j] = x at hi hrd ⊢
    refine evDown ?_
    simp only [marigraphkeep_Entries.l0, if_pos (show (j : Int) < (l.length : Int) by omega), decide_eq_true (show (j : Int) < (n : Int) by omega)]
    refine evDown ?_
    simp only [marigraphkeep_Entries.j1, if_true, if_pos (show 0 ≤ (j : Int) by omega), if_pos (show (j : Int) < (l.length : Int) by omega), hrd, cut_tells (a := x.f0) (n := (key : Int)) (by omega), cut_tells (a := x.f1) (n := (value : Int)) (by omega), Int.toNat_natCast, Option.bind_some, if_pos (show out.length < 2513169434916 by omega), wadd1 (show j ≤ 10000000 by omega)]
    by_cases hk : (cutI x.f0 key).length = 0
    · simp only [if_pos (show ((cutI x.f0 key).length : Int) = 0 by omega)]
      by_cases hg : x.f2 = true
      · have hne : normE key value x = ⟨[107], [], x.f2⟩ := by unfold normE; rw [if_pos hk, if_pos hg]
        rw [hne] at hi ⊢
        simp only [if_pos hg]
        exact hi
      · have hne : normE key value x = ⟨[107], cutI x.f1 value, x.f2⟩ := by unfold normE; rw [if_pos hk, if_neg hg]
        rw [hne] at hi ⊢
        simp only [if_neg hg]
        exact hi
    · simp only [if_neg (show ¬ ((cutI x.f0 key).length : Int) = 0 by omega)]
      by_cases hg : x.f2 = true
      · have hne : normE key value x = ⟨cutI x.f0 key, [], x.f2⟩ := by unfold normE; rw [if_neg hk, if_pos hg]
        rw [hne] at hi ⊢
        simp only [if_pos hg]
        exact hi
      · have hne : normE key value x = ⟨cutI x.f0 key, cutI x.f1 value, x.f2⟩ := by unfold normE; rw [if_neg hk, if_neg hg]
        rw [hne] at hi ⊢
        simp only [if_neg hg]
        exact hi
theorem drawn_tells (l : List S34) (n key value : Nat) (hn : n ≤ 1000) : Ev (fun k => marigraphkeep_Entries.f k l (n : Int) (key : Int) (value : Int)) ((l.take n).map (normE key value)) := by
  have := ent_loop (l := l) (n := n) (key := key) (value := value) hn _ 0 [] rfl (Nat.zero_le _) (Nat.zero_le _) rfl
  rw [List.drop_zero, List.nil_append] at this
  exact this
/-! ### what is drawn is good -/
theorem norm_fit {key value : Nat} (h1 : 1 ≤ key) (hk : key ≤ 12) (hv : value ≤ 20) {x : S34} (h : WfE x) : Fit (normE key value x) ∧ (normE key value x).f0.length ≤ 12 ∧ (normE key value x).f1.length ≤ 20 := by
  have a := cutI_len x.f0 key
  have b := cutI_len x.f1 value
  have c1 : 1 ≤ (normE key value x).f0.length ∧ (normE key value x).f0.length ≤ 12 ∧ Byt (normE key value x).f0 := by
    show 1 ≤ (if (cutI x.f0 key).length = 0 then [107] else cutI x.f0 key).length ∧ (if (cutI x.f0 key).length = 0 then [107] else cutI x.f0 key).length ≤ 12 ∧ Byt (if (cutI x.f0 key).length = 0 then [107] else cutI x.f0 key)
    split
    · exact ⟨by simp, by simp, fun y hy => by obtain rfl := List.mem_singleton.1 hy; decide⟩
    · exact ⟨by omega, by omega, cutI_byt h.1 _⟩
  have c2 : (normE key value x).f1.length ≤ 20 ∧ Byt (normE key value x).f1 := by
    show (if x.f2 = true then [] else cutI x.f1 value).length ≤ 20 ∧ Byt (if x.f2 = true then [] else cutI x.f1 value)
    split
    · exact ⟨by simp, fun _ hy => by cases hy⟩
    · exact ⟨by omega, cutI_byt h.2 _⟩
  refine ⟨⟨c1.1, by omega, by omega, fun hg => ?_, c1.2.2, c2.2⟩, c1.2.1, c2.1⟩
  show (if x.f2 = true then [] else cutI x.f1 value) = []
  rw [if_pos (show x.f2 = true from hg)]
theorem entS_len2 (last : List Int) (x : S34) : (entS last x).length ≤ 6 + x.f0.length + x.f1.length := by
  have h := pre_le2 last x.f0
  unfold entS
  split <;> simp [be_len] <;> omega
theorem beg_small : ∀ {l : List S34} {i : Nat} {last : List Int} {o : Nat}, (∀ x ∈ l, x.f0.length ≤ 12 ∧ x.f1.length ≤ 20) → ∀ a ∈ begS l i last o, (0 : Int) ≤ a ∧ a ≤ ((o + 40 * l.length : Nat) : Int)
  | [], _, _, _, _, a, ha => by simp [begS] at ha
  | x :: r, i, last, o, h, a, ha => by
    have hx := h x (List.mem_cons_self ..)
    have := entS_len2 (if i % 4 = 0 then [] else last) x
    unfold begS at ha
    rcases List.mem_append.1 ha with ha | ha
    · split at ha
      · rw [List.mem_singleton] at ha
        rw [List.length_cons]
        omega
      · cases ha
    · have ih := beg_small (l := r) (fun y hy => h y (List.mem_cons_of_mem _ hy)) a ha
      rw [List.length_cons]
      omega
/-! ### what is sought is found -/
theorem less_b {a b : List Int} (ha : Byt a) (hb : Byt b) : lessB a b = decide (lexI a b < 0) := by
  unfold lessB
  rw [cmp_lexI ha hb]
theorem seek_skip {m : List S34} {key : List Int} : ∀ (d j : Nat), j + d ≤ m.length → (∀ i, j ≤ i → i < j + d → lessB (rd_T34 m (i : Int)).f0 key = true) → seekGo key (m.drop j) j = seekGo key (m.drop (j + d)) (j + d)
  | 0, j, _, _ => rfl
  | d + 1, j, h, hl => by
    rw [drop_rdS (show j < m.length by omega)]
    have e : seekGo key (rd_T34 m (j : Int) :: m.drop (j + 1)) j = seekGo key (m.drop (j + 1)) (j + 1) := by
      show (if lessB (rd_T34 m (j : Int)).f0 key = true then _ else _) = _
      rw [if_pos (hl j (by omega) (by omega))]
    rw [e, seek_skip d (j + 1) (by omega) (fun i h1 h2 => hl i (by omega) (by omega))]
    rw [show j + 1 + d = j + (d + 1) by omega]
theorem seek_stop {m : List S34} {key : List Int} {i : Nat} (h : i < m.length) (hn : lessB (rd_T34 m (i : Int)).f0 key = false) : seekGo key (m.drop i) i = (i : Int) := by
  rw [drop_rdS h]
  show (if lessB (rd_T34 m (i : Int)).f0 key = true then _ else _) = _
  rw [if_neg (by rw [hn]; decide)]
theorem lex_snoc (a : List Int) : lexI a (a ++ [0]) < 0 := by
  have h := lexI_pre a [] [0]
  rw [List.append_nil] at h
  rw [h]
  decide
theorem lex_next : ∀ {a y : List Int}, Byt y → lexI a y < 0 → ¬ lexI y (a ++ [0]) < 0
  | [], [], _, h => by simp [lexI] at h
  | [], c :: y, hy, _ => by
    have hc := hy.cons.1
    show ¬ (if c < 0 then (-1 : Int) else if 0 < c then 1 else lexI y []) < 0
    rw [if_neg (by omega)]
    split
    · decide
    · cases y <;> simp [lexI]
  | a :: p, [], _, h => by simp [lexI] at h
  | a :: p, c :: y, hy, h => by
    have ih := lex_next (a := p) hy.cons.2
    have h' : (if a < c then (-1 : Int) else if c < a then 1 else lexI p y) < 0 := h
    show ¬ (if c < a then (-1 : Int) else if a < c then 1 else lexI y (p ++ [0])) < 0
    by_cases h1 : a < c
    · rw [if_neg (by omega), if_pos h1]
      decide
    · rw [if_neg h1] at h'
      by_cases h2 : c < a
      · rw [if_pos h2] at h'
        omega
      · rw [if_neg h2] at h'
        rw [if_neg h2, if_neg h1]
        exact ih h'
theorem byt0 {a : List Int} (h : Byt a) : Byt (a ++ [0]) := h.append (fun x hx => by obtain rfl := List.mem_singleton.1 hx; decide)
theorem seek_own {m : List S34} (h : Good m) {i : Nat} (hi : i < m.length) : seekGo (rd_T34 m (i : Int)).f0 m 0 = (i : Int) := by
  have hb := (h.fit _ (rd_mem hi)).kb
  have e := seek_skip (m := m) (key := (rd_T34 m (i : Int)).f0) i 0 (by omega) (fun j _ hj => by
    rw [less_b (h.fit _ (rd_mem (show j < m.length by omega))).kb hb]
    exact decide_eq_true (rd_ris h.ris (by omega) hi))
  rw [List.drop_zero, Nat.zero_add] at e
  rw [e]
  refine seek_stop hi ?_
  rw [less_b hb hb]
  exact decide_eq_false (lex_irr _)
theorem seek_next {m : List S34} (h : Good m) {i : Nat} (hi : i < m.length) : seekGo ((rd_T34 m (i : Int)).f0 ++ [0]) m 0 = if i + 1 < m.length then ((i + 1 : Nat) : Int) else -1 := by
  have hb := (h.fit _ (rd_mem hi)).kb
  have e := seek_skip (m := m) (key := (rd_T34 m (i : Int)).f0 ++ [0]) (i + 1) 0 (by omega) (fun j _ hj => by
    rw [less_b (h.fit _ (rd_mem (show j < m.length by omega))).kb (byt0 hb)]
    refine decide_eq_true ?_
    rcases Nat.lt_or_ge j i with h1 | h1
    · exact lex_trans _ _ _ (rd_ris h.ris h1 hi) (lex_snoc _)
    · obtain rfl : j = i := by omega
      exact lex_snoc _)
  rw [List.drop_zero, Nat.zero_add] at e
  rw [e]
  by_cases h1 : i + 1 < m.length
  · rw [if_pos h1]
    refine seek_stop h1 ?_
    have hy := (h.fit _ (rd_mem h1)).kb
    rw [less_b hy (byt0 hb)]
    exact decide_eq_false (lex_next hy (rd_ris h.ris (by omega) h1))
  · rw [if_neg h1, List.drop_of_length_le (by omega)]
    rfl
/-! ### BlockBack -/
theorem known6 : Ev (fun k => marigraphlaw6_known.f k) true := Ev.of (k := 40) marigraphlaw6_known.mono (by decide +kernel)
theorem all_tells {m : List S34} (h : Good m) (hs : ∀ a ∈ begS m 0 [] 0, 0 ≤ a ∧ a ≤ 65535) : Ev (fun k => block_All.f k (blockS m)) (m, 0) := by
  obtain ⟨K, hK⟩ := build_tells h hs
  refine ⟨K, fun k hk => ?_⟩
  have h1 : block_Build.f k m = some (blockS m, 0) := hK k hk
  show block_All.f k (blockS m) = _
  unfold block_All.f
  rw [read_tells h]
  simp only [Option.bind_some, h1, if_true]
theorem same_loop {m : List S34} (hn : m.length ≤ 1000) : ∀ (d j : Nat), d + j = m.length → Ev (fun k => marigraphref8_Same.l0 k m m (j : Int)) true := by
  intro d
  induction d with
  | zero =>
    intro j hj
    refine evDown (evNow (fun k => ?_))
    rw [marigraphref8_Same.l0, if_neg (by omega)]
  | succ d ih =>
    intro j hj
    refine evDown (evEq (fun k => ?_) (ih (j + 1) (by omega)))
    have ew : wrap64 ((j : Int) + 1) = ((j + 1 : Nat) : Int) := by unfold wrap64; omega
    rw [marigraphref8_Same.l0, if_pos (by omega), if_pos (by omega), if_pos (by omega), if_pos rfl, if_neg (by simp), if_pos rfl, ew]
    simp
theorem same_tells (m : List S34) (hn : m.length ≤ 1000) : Ev (fun k => marigraphref8_Same.f k m m) true := by
  refine evEq (fun k => ?_) (same_loop hn m.length 0 (by omega))
  unfold marigraphref8_Same.f
  rw [if_pos rfl]
  rfl
theorem drawn_good (l : List S34) (h : ∀ x ∈ l, WfE x) : ∃ m, marigraphkeep_Rise.f ((l.take 40).map (normE 12 20)) = some m ∧ m.length ≤ 40 ∧ (m.length ≠ 0 → Good m ∧ ∀ a ∈ begS m 0 [] 0, 0 ≤ a ∧ a ≤ 65535) := by
  obtain ⟨q, hq⟩ : ∃ q, q = (l.take 40).map (normE 12 20) := ⟨_, rfl⟩
  rw [← hq]
  have hql : q.length ≤ 40 := by rw [hq, List.length_map, List.length_take]; omega
  have hqf : ∀ x ∈ q, Fit x ∧ x.f0.length ≤ 12 ∧ x.f1.length ≤ 20 := fun x hx => by
    rw [hq] at hx
    obtain ⟨y, hy, rfl⟩ := List.mem_map.1 hx
    exact norm_fit (by decide) (by decide) (by decide) (h y (List.mem_of_mem_take hy))
  clear hq
  have e : q.foldl riseI [] = q.foldl putS [] := rise_folds (fun x hx => (hqf x hx).1.kb) (fun x hx => by cases hx)
  have hl := folds_len (q := q) (acc := [])
  have hm : ∀ z ∈ q.foldl putS [], z ∈ q := fun z hz => (folds_mem hz).resolve_right (by simp)
  refine ⟨q.foldl putS [], ?_, by simpa using Nat.le_trans hl (by simpa using hql), fun h0 => ⟨⟨fun x hx => (hqf x (hm x hx)).1, folds_ris List.Pairwise.nil, by omega, ?_⟩, fun a ha => ?_⟩⟩
  · unfold marigraphkeep_Rise.f
    rw [if_pos (by omega), e]
  · have : (q.foldl putS []).length ≤ q.length + 0 := hl
    omega
  · have h1 := beg_small (l := q.foldl putS []) (i := 0) (last := []) (o := 0) (fun x hx => (hqf x (hm x hx)).2) a ha
    have : (q.foldl putS []).length ≤ q.length + 0 := hl
    omega
theorem bb_at {k : Nat} {m : List S34} (h : Good m) (hA : block_All.f k (blockS m) = some (m, 0)) {i : Nat} (hi : i < m.length) : BBAt k (blockS m) m i := by
  have hn := h.n2
  have hx := h.fit _ (rd_mem hi)
  have hs : ∀ key, block_Seek.f k (blockS m) key = some (seekI m key) := fun key => by
    unfold block_Seek.f
    rw [hA]
    simp only [Option.bind_some]
    rw [if_pos (by omega)]
  refine ⟨?_, ?_, by have := hx.k2; omega⟩
  · rw [hs]
    unfold seekI
    rw [seek_own h hi, if_neg (by omega)]
  · rw [hs]
    unfold seekI
    rw [seek_next h hi]
    by_cases h1 : i + 1 < m.length
    · rw [if_pos h1, if_neg (by omega)]
      refine ⟨_, _, rfl, (decide_eq_true h1).symm, fun _ => ?_⟩
      rw [sn_less hx.kb (h.fit _ (rd_mem h1)).kb]
      exact decide_eq_true (rd_ris h.ris (by omega) h1)
    · rw [if_neg h1, if_pos (by decide)]
      exact ⟨_, _, rfl, (decide_eq_false h1).symm, fun h2 => by cases h2⟩
theorem BlockBack (l0 : List S34) (h : ∀ x ∈ l0, WfE x) : ∃ k e m b, marigraphkeep_Entries.f k l0 40 12 20 = some e ∧ marigraphkeep_Rise.f e = some m ∧ marigraphlaw6_known.f k = some true ∧
    (m.length ≠ 0 → block_Build.f k m = some (b, 0) ∧ block_All.f k b = some (m, 0) ∧ marigraphref8_Same.f k m m = some true ∧ m.length < 1000000 ∧ ∀ i, i < m.length → BBAt k b m i) := by
  obtain ⟨m, hR, hml, hg⟩ := drawn_good l0 h
  obtain ⟨K1, g1⟩ := drawn_tells l0 40 12 20 (by decide)
  obtain ⟨K2, g2⟩ := known6
  obtain ⟨K3, g3⟩ := same_tells m (by omega)
  by_cases hz : m.length = 0
  · exact ⟨K1 + K2, _, m, [], g1 _ (by omega), hR, g2 _ (by omega), fun h => absurd hz h⟩
  · obtain ⟨hG, hs⟩ := hg hz
    obtain ⟨K4, g4⟩ := build_tells hG hs
    obtain ⟨K5, g5⟩ := all_tells hG hs
    exact ⟨K1 + K2 + K3 + K4 + K5, _, m, blockS m, g1 _ (by omega), hR, g2 _ (by omega), fun _ => ⟨g4 _ (by omega), g5 _ (by omega), g3 _ (by omega), by omega, fun i hi => bb_at hG (g5 _ (by omega)) hi⟩⟩

end Go.Proofs.Ytpcomhliikmjkaa.Pure

/- Points that were written are read as they were; widths are as small as they can be. No condition beyond the statement. -/
import Derived.Test.YtjafaojmbapkbaaPCellBackx6
namespace Go.Proofs.Ytjafaojmbapkbaa.Pure
open Go.RowKit Go.Proofs.Ytjafaojmbapkbaa.PCellBack Go.Proofs.YtjafaojmbapkbaaW.PrintWords Go.Proofs.YtjafaojmbapkbaaW.PrintLast
set_option linter.unusedVariables false
set_option linter.unusedSimpArgs false

/-! ### bytes as whole numbers: in range, in order -/
def Byt (l : List Int) : Prop := ∀ x ∈ l, 0 ≤ x ∧ x ≤ 255
theorem Byt.of_wf {l : List Int} (h : ∀ x ∈ l, (Lit.int .u8 x).wf = true) : Byt l := by
  intro x hx
  have := h x hx
  have h1 : IntKind.u8.min = 0 := rfl
  have h2 : IntKind.u8.max = 255 := rfl
  simp only [Lit.wf, Bool.and_eq_true, decide_eq_true_eq] at this
  omega
theorem Byt.cons {x : Int} {l : List Int} (h : Byt (x :: l)) : (0 ≤ x ∧ x ≤ 255) ∧ Byt l := ⟨h x (by simp), fun y hy => h y (by simp [hy])⟩
theorem Byt.append {a b : List Int} (ha : Byt a) (hb : Byt b) : Byt (a ++ b) := by
  intro x hx
  rcases List.mem_append.1 hx with h | h
  · exact ha x h
  · exact hb x h
theorem Byt.left {a b : List Int} (h : Byt (a ++ b)) : Byt a := fun x hx => h x (by simp [hx])
theorem Byt.right {a b : List Int} (h : Byt (a ++ b)) : Byt b := fun x hx => h x (by simp [hx])
theorem u8_lt {x y : Int} (hx : 0 ≤ x ∧ x ≤ 255) (hy : 0 ≤ y ∧ y ≤ 255) : (UInt8.ofNat x.toNat < UInt8.ofNat y.toNat) ↔ x < y := by
  rw [UInt8.lt_iff_toNat_lt, UInt8.toNat_ofNat', UInt8.toNat_ofNat']
  omega
def lexI : List Int → List Int → Int
  | [], [] => 0
  | [], _ :: _ => -1
  | _ :: _, [] => 1
  | a :: p, b :: q => if a < b then -1 else if b < a then 1 else lexI p q
theorem cmp_lexI : ∀ {a b : List Int}, Byt a → Byt b → Lib.compareBytes (Lib.bytesOf a) (Lib.bytesOf b) = lexI a b
  | [], [], _, _ => rfl
  | [], _ :: _, _, _ => rfl
  | _ :: _, [], _, _ => rfl
  | x :: a, y :: b, ha, hb => by
    have ih := cmp_lexI ha.cons.2 hb.cons.2
    have h1 := u8_lt ha.cons.1 hb.cons.1
    have h2 := u8_lt hb.cons.1 ha.cons.1
    unfold Lib.bytesOf at ih ⊢
    rw [List.map_cons, List.map_cons, Lib.compareBytes, lexI, ih]
    simp only [h1, h2]
theorem lexI_pre (p a b : List Int) : lexI (p ++ a) (p ++ b) = lexI a b := by
  induction p with
  | nil => rfl
  | cons x p ih =>
    show (if x < x then _ else _) = _
    rw [if_neg (Int.lt_irrefl x), if_neg (Int.lt_irrefl x)]
    exact ih
theorem lexI_self (a : List Int) : lexI a a = 0 := by
  have := lexI_pre a [] []
  simpa [lexI] using this
theorem lexI_more (a b : List Int) : ¬ lexI (a ++ b) a < 0 := by
  have h := lexI_pre a b []
  rw [List.append_nil] at h
  rw [h]
  cases b with
  | nil => decide
  | cons x b => show ¬ (1 : Int) < 0; decide
/-! ### Put -/
def be (n : Int) : Nat → List Int
  | 0 => []
  | s + 1 => (n / 2 ^ (8 * s)) % 256 :: be n s
theorem be_len (n : Int) (s : Nat) : (be n s).length = s := by induction s with | zero => rfl | succ s ih => simp [be, ih]
theorem be_byt (n : Int) (s : Nat) : Byt (be n s) := by
  induction s with
  | zero => intro x hx; cases hx
  | succ s ih =>
    intro x hx
    rcases List.mem_cons.1 hx with rfl | hx
    · omega
    · exact ih x hx
theorem wrap_8 (s : Nat) (h : s ≤ 8) : wrap64 (8 * (s : Int)) = ((8 * s : Nat) : Int) := by unfold wrap64; omega
theorem put_loop (n : Int) (s : Nat) : ∀ (k : Nat) (acc : List Int), s ≤ 8 → s < k → acc.length + s ≤ 140737488355328 → octet_Put.l0 k n acc ((s : Int) - 1) = some (acc ++ be n s) := by
  induction s with
  | zero =>
    intro k acc _ hk _
    obtain ⟨k, rfl⟩ : ∃ m, k = m + 1 := ⟨k - 1, by omega⟩
    simp only [octet_Put.l0]
    rw [if_neg (by omega)]
    simp [be]
  | succ s ih =>
    intro k acc hs hk hl
    obtain ⟨k, rfl⟩ : ∃ m, k = m + 1 := ⟨k - 1, by omega⟩
    have e : ((s + 1 : Nat) : Int) - 1 = (s : Int) := by omega
    rw [e]
    simp only [octet_Put.l0]
    rw [wrap_8 s (by omega), if_pos (by omega), if_pos (by omega), if_pos (by omega)]
    have e2 : wrap64 ((s : Int) - 1) = (s : Int) - 1 := by unfold wrap64; omega
    have e3 : shr .u64 n ((8 * s : Nat) : Int) = n / 2 ^ (8 * s) := by
      unfold shr
      have hb : IntKind.u64.bits = 64 := rfl
      rw [Int.toNat_natCast, hb, Nat.min_eq_left (by omega)]
    rw [e2, e3, ih k _ (by omega) (by omega) (by rw [List.length_append, List.length_singleton]; omega)]
    simp [be]
theorem put_tells (l : List Int) (n : Int) (s : Nat) (k : Nat) (hs : s ≤ 8) (hk : s < k) (hl : l.length + 8 ≤ 140737488355328) : octet_Put.f k l n (s : Int) = some (l ++ be n s) := by
  unfold octet_Put.f slices_Clone_byte_byte.f
  rw [if_pos (by omega)]
  simp only [Option.bind_some]
  have e : mx (mn (s : Int) 8) 0 = (s : Int) := by unfold mx mn; split <;> split <;> omega
  rw [e]
  exact put_loop n s k l hs hk (by omega)
theorem emod_256 (m P : Int) (hP : 0 < P) : m % (P * 256) = m % P + P * (m / P % 256) := by
  have h1 := Int.emod_add_mul_ediv m P
  have h2 := Int.emod_add_mul_ediv (m / P) 256
  have h3 := Int.emod_nonneg m (Int.ne_of_gt hP)
  have h4 := Int.emod_lt_of_pos m hP
  generalize hq : m / P = q at *
  have h5 : P * q = P * (q % 256) + P * 256 * (q / 256) := by rw [Int.mul_assoc, ← Int.mul_add, h2]
  have h6 : 0 ≤ P * (q % 256) := Int.mul_nonneg (by omega) (by omega)
  have h7 : P * (q % 256) ≤ P * 255 := Int.mul_le_mul_of_nonneg_left (by omega) (by omega)
  have e : m = (m % P + P * (q % 256)) + P * 256 * (q / 256) := by omega
  calc m % (P * 256) = ((m % P + P * (q % 256)) + P * 256 * (q / 256)) % (P * 256) := by rw [← e]
    _ = (m % P + P * (q % 256)) % (P * 256) := Int.add_mul_emod_self_left _ _ _
    _ = m % P + P * (q % 256) := Int.emod_eq_of_lt (by omega) (by omega)
theorem be_less (m n : Int) (s : Nat) : lexI (be m s) (be n s) < 0 ↔ m % 2 ^ (8 * s) < n % 2 ^ (8 * s) := by
  induction s with
  | zero => simp [be, lexI]
  | succ s ih =>
    have hp : (0 : Int) < 2 ^ (8 * s) := Int.pow_pos (by decide)
    have e : (2 : Int) ^ (8 * (s + 1)) = 2 ^ (8 * s) * 256 := by rw [Nat.mul_add, Int.pow_add]; rfl
    rw [e, emod_256 m _ hp, emod_256 n _ hp]
    have h1 := Int.emod_nonneg m (Int.ne_of_gt hp)
    have h2 := Int.emod_lt_of_pos m hp
    have h3 := Int.emod_nonneg n (Int.ne_of_gt hp)
    have h4 := Int.emod_lt_of_pos n hp
    simp only [be, lexI]
    generalize hP : (2 : Int) ^ (8 * s) = P at *
    generalize m / P % 256 = x at *
    generalize n / P % 256 = y at *
    generalize m % P = u at *
    generalize n % P = v at *
    by_cases hlt : x < y
    · have h5 : P * (x + 1) ≤ P * y := Int.mul_le_mul_of_nonneg_left (by omega) (by omega)
      rw [Int.mul_add] at h5
      simp only [hlt, if_true]
      constructor
      · intro _; omega
      · intro _; decide
    · by_cases hgt : y < x
      · have h5 : P * (y + 1) ≤ P * x := Int.mul_le_mul_of_nonneg_left (by omega) (by omega)
        rw [Int.mul_add] at h5
        simp only [hlt, hgt, if_true, if_false]
        constructor
        · intro h; exact absurd h (by decide)
        · intro _; omega
      · obtain rfl : x = y := by omega
        simp only [hlt, if_false, ih]
        omega
/-! ### Get -/
theorem or_byte (q c : Int) (hq : 0 ≤ q) (hc : 0 ≤ c ∧ c ≤ 255) (hb : q * 256 + c < 18446744073709551616) : Go.bits .or .u64 (IntKind.u64.wrap (q * 256)) (IntKind.u64.wrap c) = q * 256 + c := by
  have w (x : Int) (h0 : 0 ≤ x) (h1 : x < 18446744073709551616) : IntKind.u64.wrap x = x := by
    have : IntKind.u64.wrap x = x % 18446744073709551616 := by simp [IntKind.wrap, IntKind.bits, IntKind.signed]
    rw [this]; exact Int.emod_eq_of_lt h0 h1
  rw [w _ (by omega) (by omega), w _ (by omega) (by omega)]
  exact bits_join .u64 64 (by decide) (fun x h0 h1 => w x h0 (by simpa using h1)) 8 _ _ (by omega) (by omega) (by show q * 256 < 18446744073709551616; omega) hc.1 (by show c < 256; omega) (by show c < 18446744073709551616; omega)
theorem getI_be (n : Int) (s : Nat) : ∀ a : Int, 0 ≤ a → a * 2 ^ (8 * s) + n % 2 ^ (8 * s) < 18446744073709551616 → getI a (be n s) = a * 2 ^ (8 * s) + n % 2 ^ (8 * s) := by
  induction s with
  | zero => intro a _ _; simp [be, getI]
  | succ s ih =>
    intro a ha hb
    have hp : (0 : Int) < 2 ^ (8 * s) := Int.pow_pos (by decide)
    have e : (2 : Int) ^ (8 * (s + 1)) = 2 ^ (8 * s) * 256 := by rw [Nat.mul_add, Int.pow_add]; rfl
    rw [e, emod_256 n _ hp] at hb ⊢
    have h3 := Int.emod_nonneg n (Int.ne_of_gt hp)
    have h4 := Int.emod_lt_of_pos n hp
    generalize hP : (2 : Int) ^ (8 * s) = P at *
    show getI (Go.bits .or .u64 (IntKind.u64.wrap (a * 256)) (IntKind.u64.wrap (n / 2 ^ (8 * s) % 256))) (be n s) = _
    rw [hP]
    generalize hq : n / P % 256 = c at *
    have hc : 0 ≤ c ∧ c ≤ 255 := by omega
    have e2 : a * (P * 256) + (n % P + P * c) = (a * 256 + c) * P + n % P := by
      rw [Int.add_mul, Int.mul_comm P 256, ← Int.mul_assoc, Int.mul_comm P c]; omega
    rw [e2] at hb ⊢
    have h0 : 0 ≤ a * 256 + c := by omega
    have h5 : (a * 256 + c) * 1 ≤ (a * 256 + c) * P := Int.mul_le_mul_of_nonneg_left (by omega) h0
    rw [or_byte a c ha hc (by omega)]
    exact ih _ h0 hb
theorem evUp {α : Type} {g : Nat → Option α} {r : α} (h : Ev g r) : Ev (fun k => g (k + 1)) r := let ⟨K, hK⟩ := h; ⟨K, fun k hk => hK (k + 1) (Nat.le_trans hk (Nat.le_succ k))⟩
theorem evEq {α : Type} {f g : Nat → Option α} {r : α} (hf : ∀ k, f k = g k) (h : Ev g r) : Ev f r := by rw [funext hf]; exact h
theorem evNow {α : Type} {f : Nat → Option α} {r : α} (hf : ∀ k, f k = some r) : Ev f r := ⟨0, fun k _ => hf k⟩
theorem u64_of {a : Int} (h : (Lit.int .u64 a).wf = true) : 0 ≤ a ∧ a < 18446744073709551616 := by
  have h1 : IntKind.u64.min = 0 := rfl
  have h2 : IntKind.u64.max = 18446744073709551615 := rfl
  simp only [Lit.wf, Bool.and_eq_true, decide_eq_true_eq] at h
  omega
theorem i64_of {a : Int} (h : (Lit.int .i64 a).wf = true) : -9223372036854775808 ≤ a ∧ a ≤ 9223372036854775807 := by
  have h1 : IntKind.i64.min = -9223372036854775808 := rfl
  have h2 : IntKind.i64.max = 9223372036854775807 := rfl
  simp only [Lit.wf, Bool.and_eq_true, decide_eq_true_eq] at h
  omega
/-! ### Within -/
theorem within_w {n lo hi : Int} (h1 : -2199023255552 ≤ lo) (h2 : lo ≤ hi) (h3 : hi ≤ 2199023255552) (hn : -9223372036854775808 ≤ n ∧ n ≤ 9223372036854775807) : ∃ r, Ev (fun k => marigraphbook_Within.f k n lo hi) r ∧ lo ≤ r ∧ r ≤ hi ∧ (lo ≤ n → n ≤ hi → r = n) := by
  have e1 : wrap64 (wrap64 (hi - lo) + 1) = hi - lo + 1 := by unfold wrap64; omega
  have hj : ∀ b : Bool, (b = true ↔ (lo ≤ n ∧ n ≤ hi)) → ∃ r, (∀ k, marigraphbook_Within.j0 (k + 1) n lo hi b = some r) ∧ lo ≤ r ∧ r ≤ hi ∧ (lo ≤ n → n ≤ hi → r = n) := by
    intro b hb
    simp only [marigraphbook_Within.j0, e1]
    cases b with
    | true =>
      have := hb.1 rfl
      exact ⟨n, fun _ => by rw [if_pos rfl], this.1, this.2, fun _ _ => rfl⟩
    | false =>
      have hno : ¬ (lo ≤ n ∧ n ≤ hi) := fun h => by have := hb.2 h; cases this
      simp only [Bool.false_eq_true, if_false]
      rw [if_neg (by omega)]
      have hm : (0 : Int) < hi - lo + 1 := by omega
      have t1 : Int.tmod n (hi - lo + 1) < hi - lo + 1 := Int.tmod_lt_of_pos _ hm
      have t2 : -(hi - lo + 1) < Int.tmod n (hi - lo + 1) := by
        have := Int.tmod_lt_of_pos (-n) hm
        rw [Int.neg_tmod] at this
        omega
      generalize Int.tmod n (hi - lo + 1) = t at *
      by_cases ht : t < 0
      · rw [if_pos ht]
        have e : wrap64 (lo + wrap64 (wrap64 (wrap64 (t + hi) - lo) + 1)) = t + hi + 1 := by unfold wrap64; omega
        rw [e]
        exact ⟨_, fun _ => rfl, by omega, by omega, fun a b => absurd ⟨a, b⟩ hno⟩
      · rw [if_neg ht]
        have e : wrap64 (lo + t) = lo + t := by unfold wrap64; omega
        rw [e]
        exact ⟨_, fun _ => rfl, by omega, by omega, fun a b => absurd ⟨a, b⟩ hno⟩
  have fin : ∀ b : Bool, (∀ k, marigraphbook_Within.f k n lo hi = marigraphbook_Within.j0 k n lo hi b) → (b = true ↔ (lo ≤ n ∧ n ≤ hi)) → ∃ r, Ev (fun k => marigraphbook_Within.f k n lo hi) r ∧ lo ≤ r ∧ r ≤ hi ∧ (lo ≤ n → n ≤ hi → r = n) := by
    intro b hf hb
    obtain ⟨r, h, hr⟩ := hj b hb
    refine ⟨r, ⟨1, fun k hk => ?_⟩, hr⟩
    obtain ⟨k, rfl⟩ : ∃ m, k = m + 1 := ⟨k - 1, by omega⟩
    show marigraphbook_Within.f (k + 1) n lo hi = some r
    rw [hf]
    exact h k
  by_cases hlo : n ≥ lo
  · refine fin (decide (n ≤ hi)) (fun k => by unfold marigraphbook_Within.f; rw [if_pos hlo]) ?_
    rw [decide_eq_true_iff]
    exact ⟨fun h => ⟨hlo, h⟩, fun h => h.2⟩
  · refine fin false (fun k => by unfold marigraphbook_Within.f; rw [if_neg hlo]) ?_
    constructor
    · intro h; cases h
    · intro h; omega
/-! ### bytes as strings -/
theorem u8_eq {x y : Int} (hx : 0 ≤ x ∧ x ≤ 255) (hy : 0 ≤ y ∧ y ≤ 255) : (UInt8.ofNat x.toNat = UInt8.ofNat y.toNat) ↔ x = y := by
  constructor
  · intro h
    have h := congrArg UInt8.toNat h
    rw [UInt8.toNat_ofNat', UInt8.toNat_ofNat'] at h
    omega
  · rintro rfl; rfl
theorem bytesOf_inj : ∀ {a b : List Int}, Byt a → Byt b → (Lib.bytesOf a = Lib.bytesOf b ↔ a = b)
  | [], [], _, _ => by simp
  | [], _ :: _, _, _ => by simp [Lib.bytesOf]
  | _ :: _, [], _, _ => by simp [Lib.bytesOf]
  | x :: a, y :: b, ha, hb => by
    have ih := bytesOf_inj ha.cons.2 hb.cons.2
    have h1 := u8_eq ha.cons.1 hb.cons.1
    unfold Lib.bytesOf at ih ⊢
    rw [List.map_cons, List.map_cons, List.cons.injEq, List.cons.injEq, h1, ih]
theorem sn_eq {a b : List Int} (ha : Byt a) (hb : Byt b) : ((strOfNums a).toList = (strOfNums b).toList) ↔ a = b := by
  rw [Lib.strOfNums_toList, Lib.strOfNums_toList]
  exact bytesOf_inj ha hb
theorem sn_beq {a b : List Int} (ha : Byt a) (hb : Byt b) : ((strOfNums a).toList == (strOfNums b).toList) = decide (a = b) := by
  rw [Bool.eq_iff_iff, beq_iff_eq, decide_eq_true_iff]
  exact sn_eq ha hb
theorem bytesLess_lexI : ∀ {a b : List Int}, Byt a → Byt b → Op.bytesLess (Lib.bytesOf a) (Lib.bytesOf b) = decide (lexI a b < 0)
  | [], [], _, _ => rfl
  | [], _ :: _, _, _ => rfl
  | _ :: _, [], _, _ => rfl
  | x :: a, y :: b, ha, hb => by
    have ih := bytesLess_lexI ha.cons.2 hb.cons.2
    have h1 := u8_lt ha.cons.1 hb.cons.1
    have h2 := u8_eq ha.cons.1 hb.cons.1
    unfold Lib.bytesOf at ih ⊢
    rw [List.map_cons, List.map_cons, Op.bytesLess, lexI, ih]
    rw [Bool.eq_iff_iff]
    simp only [Bool.or_eq_true, Bool.and_eq_true, decide_eq_true_iff, beq_iff_eq, h1, h2]
    by_cases hlt : x < y
    · simp [hlt]
    · by_cases hgt : y < x
      · have hne : ¬ x = y := by omega
        simp [hlt, hgt, hne]
      · have he : x = y := by omega
        simp [he]
theorem sn_less {a b : List Int} (ha : Byt a) (hb : Byt b) : Op.bytesLess (strOfNums a).toList (strOfNums b).toList = decide (lexI a b < 0) := by
  rw [Lib.strOfNums_toList, Lib.strOfNums_toList]
  exact bytesLess_lexI ha hb
/-! ### points and their cells -/
def May (o v : Int) : Prop := 0 ≤ o ∧ o < 3600 ∧ -2147483647 ≤ v ∧ v ≤ 2147483647
instance (o v : Int) : Decidable (May o v) := by unfold May; exact inferInstance
def width (v : Int) : Nat := if -128 ≤ v ∧ v ≤ 127 then 1 else if -32768 ≤ v ∧ v ≤ 32767 then 2 else 4
theorem width_is (v : Int) : width v = 1 ∨ width v = 2 ∨ width v = 4 := by unfold width; split <;> (try split) <;> omega
theorem i8_w (n : Int) : IntKind.i8.wrap n = (n + 128) % 256 - 128 := by
  simp [IntKind.wrap, IntKind.bits, IntKind.signed]
  split <;> omega
theorem i16_w (n : Int) : IntKind.i16.wrap n = (n + 32768) % 65536 - 32768 := by
  simp [IntKind.wrap, IntKind.bits, IntKind.signed]
  split <;> omega
theorem width_tells {v : Int} : cell_Width.f v = some (width v : Int) := by
  unfold cell_Width.f width
  rw [i8_w, i16_w]
  have e1 : wrap64 ((v + 128) % 256 - 128) = (v + 128) % 256 - 128 := by unfold wrap64; omega
  have e2 : wrap64 ((v + 32768) % 65536 - 32768) = (v + 32768) % 65536 - 32768 := by unfold wrap64; omega
  rw [e1, e2]
  by_cases h1 : -128 ≤ v ∧ v ≤ 127
  · rw [if_pos (by omega), if_pos h1]; rfl
  · rw [if_neg (by omega), if_neg h1]
    by_cases h2 : -32768 ≤ v ∧ v ≤ 32767
    · rw [if_pos (by omega), if_pos h2]; rfl
    · rw [if_neg (by omega), if_neg h2]; rfl
/-- A point's qualifier; its value's bytes. -/
def qual (o v : Int) : List Int := be (o * 16 + width v - 1) 2
def val_ (v : Int) : List Int := be (IntKind.u64.wrap v) (width v)
theorem qual_len (o v : Int) : (qual o v).length = 2 := be_len _ _
theorem val_len (v : Int) : (val_ v).length = width v := be_len _ _
theorem put_ev (l : List Int) (n : Int) (s : Nat) (hs : s ≤ 8) (hl : l.length + 8 ≤ 140737488355328) : Ev (fun k => octet_Put.f k l n (s : Int)) (l ++ be n s) := ⟨9, fun k hk => put_tells l n s k hs (by omega) hl⟩
theorem wide_tells {o v : Int} (h : 0 ≤ o ∧ o < 3600) : Ev (fun k => cell_Wide.f k o (width v : Int)) (qual o v) := by
  have hw := width_is v
  have e : IntKind.u64.wrap (wrap64 ((wrap64 ((wrap64 (o * 16)) + (width v : Int))) - 1)) = o * 16 + width v - 1 := by
    rw [IntKind.wrap_u64]; unfold wrap64; omega
  have hp := put_ev [] (o * 16 + width v - 1) 2 (by decide) (by decide)
  rw [List.nil_append] at hp
  unfold cell_Wide.f
  simp only [e, if_neg (show ¬ o < 0 by omega), if_neg (show ¬ o ≥ 3600 by omega)]
  unfold qual
  rcases hw with h1 | h1 | h1
  all_goals
    rw [h1] at hp ⊢
    exact Ev.bind hp (Ev.now _)
theorem right_may (o v : Int) : cell_right.f o v = some (decide (May o v)) := by
  unfold cell_right.f
  by_cases h1 : 0 ≤ o
  · rw [if_pos (show o ≥ 0 from h1)]
    by_cases h2 : o < 3600
    · rw [if_pos h2]
      by_cases h3 : -2147483647 ≤ v
      · rw [if_pos (show v ≥ -2147483647 from h3)]
        congr 1
        rw [Bool.eq_iff_iff, decide_eq_true_iff, decide_eq_true_iff]
        exact ⟨fun h => ⟨h1, h2, h3, h⟩, fun h => h.2.2.2⟩
      · rw [if_neg h3, decide_eq_false (fun h => h3 h.2.2.1)]
    · rw [if_neg h2, decide_eq_false (fun h => h2 h.2.1)]
  · rw [if_neg h1, decide_eq_false (fun h => h1 h.1)]
theorem lay_tells {o v : Int} (h : May o v) (q x : List Int) (hq : q.length ≤ 1000000) (hx : x.length ≤ 1000000) : Ev (fun k => cell_lay.f k q x o v) (q ++ qual o v, x ++ val_ v) := by
  unfold cell_lay.f
  rw [width_tells]
  simp only [Option.bind_some]
  refine Ev.bind (wide_tells ⟨h.1, h.2.1⟩) ?_
  have hl := qual_len o v
  simp only [if_pos (show q.length + (qual o v).length < 140737488355328 by omega)]
  exact Ev.bind (put_ev x _ _ (by have := width_is v; omega) (by omega)) (Ev.now _)
theorem One_tells {o v : Int} (h : May o v) : Ev (fun k => cell_One.f k o v) (qual o v, val_ v, 0) := by
  unfold cell_One.f
  rw [right_may, decide_eq_true h]
  simp only [Option.bind_some, if_true]
  exact Ev.bind (lay_tells h [] [] (by decide) (by decide)) (Ev.now _)
theorem One_not {o v : Int} (h : ¬ May o v) : Ev (fun k => cell_One.f k o v) ([], [], 1) := by
  unfold cell_One.f
  rw [right_may, decide_eq_false h]
  simp only [Option.bind_some, Bool.false_eq_true, if_false]
  exact Ev.now _
/-- Points that rise, each may be. -/
def Rise : Int → List S45 → Prop
  | _, [] => True
  | b, o :: l => b < o.f0 ∧ May o.f0 o.f1 ∧ Rise o.f0 l
def quals : List S45 → List Int
  | [] => []
  | o :: l => qual o.f0 o.f1 ++ quals l
def vals : List S45 → List Int
  | [] => []
  | o :: l => val_ o.f1 ++ vals l
theorem quals_len : ∀ l : List S45, (quals l).length = 2 * l.length
  | [] => rfl
  | o :: l => by rw [quals, List.length_append, qual_len, quals_len l, List.length_cons]; omega
theorem vals_len : ∀ l : List S45, (vals l).length ≤ 4 * l.length
  | [] => by decide
  | o :: l => by
    have h := vals_len l
    have h2 := width_is o.f1
    rw [vals, List.length_append, val_len, List.length_cons]; omega
theorem rd_pre (pre : List S45) (o : S45) (suf : List S45) : rd_T45 (pre ++ o :: suf) (pre.length : Int) = o := by
  unfold rd_T45
  rw [Int.toNat_natCast, List.getD_eq_getElem?_getD, List.getElem?_append_right (Nat.le_refl _), Nat.sub_self]
  rfl
theorem quals_snoc (pre : List S45) (o : S45) : quals (pre ++ [o]) = quals pre ++ qual o.f0 o.f1 := by
  induction pre with
  | nil => simp [quals]
  | cons a pre ih => rw [List.cons_append, quals, ih, quals, List.append_assoc]
theorem vals_snoc (pre : List S45) (o : S45) : vals (pre ++ [o]) = vals pre ++ val_ o.f1 := by
  induction pre with
  | nil => simp [vals]
  | cons a pre ih => rw [List.cons_append, vals, ih, vals, List.append_assoc]
theorem wrap_nxt {n : Nat} (h : n < 1000000) : wrap64 ((n : Int) + 1) = ((n + 1 : Nat) : Int) := by unfold wrap64; omega
theorem many_loop (l : List S45) (hl : l.length ≤ 1000) : ∀ (suf pre : List S45) (b : Int), l = pre ++ suf → Rise b suf → (∀ p o, pre = p ++ [o] → b = o.f0) →
    Ev (fun k => cell_Many.l0 k l (quals pre) (vals pre) l (l.length : Int) (pre.length : Int)) (quals l, vals l ++ [0], 0) := by
  intro suf
  induction suf with
  | nil =>
    intro pre b e _ _
    rw [List.append_nil] at e
    subst e
    have h2 := vals_len l
    refine Ev.step (f := fun k => some (quals l, vals l ++ [0], 0)) (fun k => ?_) (Ev.now _)
    simp only [cell_Many.l0]
    rw [if_neg (by omega), if_pos (by omega)]
  | cons o suf ih =>
    intro pre b e hr hb
    obtain ⟨h1, h2, h3⟩ := hr
    have hll : l.length = pre.length + (suf.length + 1) := by rw [e, List.length_append, List.length_cons]
    have hq := quals_len pre
    have hv := vals_len pre
    have hlay := lay_tells h2 (quals pre) (vals pre) (by omega) (by omega)
    have e2 : l = (pre ++ [o]) ++ suf := by rw [e, List.append_assoc]; rfl
    have hnext := ih (pre ++ [o]) o.f0 e2 h3 (by
      intro p o' h
      obtain ⟨_, h⟩ := List.append_inj' h rfl
      rw [(List.cons.inj h).1])
    rw [quals_snoc, vals_snoc] at hnext
    have hrd : rd_T45 l (pre.length : Int) = o := by rw [e]; exact rd_pre pre o suf
    have hw : wrap64 ((pre.length : Int) + 1) = ((pre ++ [o]).length : Int) := by rw [wrap_nxt (by omega), List.length_append]; rfl
    refine Ev.step (f := fun k => (cell_lay.f k (quals pre) (vals pre) o.f0 o.f1).bind fun bt => cell_Many.l0 k l bt.1 bt.2 l (l.length : Int) (wrap64 ((pre.length : Int) + 1))) (fun k => ?_) ?_
    · simp only [cell_Many.l0]
      rw [if_pos (by omega), if_pos (by omega), if_pos (by omega), hrd, right_may, decide_eq_true h2]
      simp only [Option.bind_some, if_true]
      rcases List.eq_nil_or_concat pre with hp | ⟨p, o', hp⟩
      · rw [if_neg (by rw [hp]; decide)]
      · have hp' : pre = p ++ [o'] := by rw [hp]; exact List.concat_eq_append
        have hpl : pre.length = p.length + 1 := by rw [hp', List.length_append]; rfl
        have hwp : wrap64 ((pre.length : Int) - 1) = (p.length : Int) := by rw [hpl]; unfold wrap64; omega
        have hro : rd_T45 l (p.length : Int) = o' := by rw [e, hp', List.append_assoc]; exact rd_pre p o' _
        have hbo := hb p o' hp'
        rw [if_pos (by omega), hwp, if_pos (by omega), if_pos (by omega), hro, if_neg (by omega)]
    · refine Ev.bind hlay ?_
      rw [hw]
      exact hnext
theorem Many_tells {l : List S45} {b : Int} (h : Rise b l) (h2 : 2 ≤ l.length) (h64 : l.length ≤ 64) : Ev (fun k => cell_Many.f k l) (quals l, vals l ++ [0], 0) := by
  have hloop := many_loop l (by omega) l [] b rfl h (by intro p o e; cases p <;> cases e)
  unfold cell_Many.f
  simp only [if_neg (show ¬ (l.length : Int) < 2 by omega), decide_eq_false (show ¬ (l.length : Int) > 64 by omega)]
  refine Ev.step (f := fun k => cell_Many.l0 k l [] [] l (l.length : Int) 0) (fun k => ?_) hloop
  simp only [cell_Many.j0]
  rw [if_neg (by decide)]
theorem known_ev : Ev (fun k => marigraphlaw15_known.f k) true := Ev.of (fun k => marigraphlaw15_known.mono k) (k := 40) (by decide +kernel)
/-! ### points as they are drawn -/
def conv (o : S26) : S45 := ⟨o.f0, o.f1⟩
theorem rd_mem {l : List Int} {j : Nat} (h : j < l.length) : rd l (j : Int) ∈ l := by
  unfold rd
  rw [Int.toNat_natCast, List.getD_eq_getElem?_getD, List.getElem?_eq_getElem h]
  exact List.getElem_mem h
theorem offs_loop (l0 l1 : List Int) (h0 : ∀ x ∈ l0, (Lit.int .i64 x).wf = true) (h1 : ∀ x ∈ l1, (Lit.int .i64 x).wf = true) (n : Nat) (hn : n ≤ 60) : ∀ (d j : Nat) (acc : List S26) (b : Int), d = min l0.length n - j → acc.length = j → j ≤ 60 → -1 ≤ b → b ≤ 50 * j - 1 →
    ∃ m, Ev (fun k => marigraphlaw15_offs.l0 k l0 l1 (n : Int) acc b (j : Int)) (acc ++ m) ∧ Rise b (m.map conv) ∧ m.length = d := by
  intro d
  induction d with
  | zero =>
    intro j acc b hd ha hj hb1 hb2
    refine ⟨[], ?_, trivial, rfl⟩
    rw [List.append_nil]
    refine Ev.step (f := fun k => marigraphlaw15_offs.j1 k l0 l1 (n : Int) acc b (j : Int) false) (fun k => ?_) ?_
    · simp only [marigraphlaw15_offs.l0]
      by_cases hl : (j : Int) < (l0.length : Int)
      · rw [if_pos hl, decide_eq_false (by omega)]
      · rw [if_neg hl]
    · refine Ev.step (f := fun _ => some acc) (fun k => ?_) (Ev.now _)
      simp only [marigraphlaw15_offs.j1]
      rw [if_neg (by decide)]
  | succ d ih =>
    intro j acc b hd ha hj hb1 hb2
    have hlt : j < l0.length := by omega
    have hjn : j < n := by omega
    obtain ⟨t, ht, t1, t2, _⟩ := within_w (n := rd l0 (j : Int)) (lo := 1) (hi := 50) (by decide) (by decide) (by decide) (i64_of (h0 _ (rd_mem hlt)))
    have e1 : wrap64 (b + t) = b + t := by unfold wrap64; omega
    have e2 : wrap64 ((j : Int) + 1) = ((j + 1 : Nat) : Int) := by unfold wrap64; omega
    have hv : ∃ v, -2147483647 ≤ v ∧ v ≤ 2147483647 ∧ ∀ g, Ev (fun k => marigraphlaw15_offs.l0 k l0 l1 (n : Int) (acc ++ [⟨b + t, v⟩]) (b + t) ((j + 1 : Nat) : Int)) g → Ev (fun k => if (j : Int) < (l1.length : Int) then ((marigraphbook_Within.f k (rd l1 (j : Int)) (-2147483647) 2147483647).bind fun t196 => (if acc.length < 8796093022208 then (marigraphlaw15_offs.l0 k l0 l1 (n : Int) (acc ++ [(⟨wrap64 (b + t), t196⟩ : S26)]) (wrap64 (b + t)) (wrap64 ((j : Int) + 1))) else (none))) else (if acc.length < 8796093022208 then (marigraphlaw15_offs.l0 k l0 l1 (n : Int) (acc ++ [(⟨wrap64 (b + t), 0⟩ : S26)]) (wrap64 (b + t)) (wrap64 ((j : Int) + 1))) else (none))) g := by
      simp only [e1, e2, if_pos (show acc.length < 8796093022208 by omega)]
      by_cases hl1 : j < l1.length
      · obtain ⟨v, hv, v1, v2, _⟩ := within_w (n := rd l1 (j : Int)) (lo := -2147483647) (hi := 2147483647) (by decide) (by decide) (by decide) (i64_of (h1 _ (rd_mem hl1)))
        refine ⟨v, v1, v2, fun g hg => ?_⟩
        simp only [if_pos (show (j : Int) < (l1.length : Int) by omega)]
        exact Ev.bind hv hg
      · refine ⟨0, by decide, by decide, fun g hg => ?_⟩
        simp only [if_neg (show ¬ (j : Int) < (l1.length : Int) by omega)]
        exact hg
    obtain ⟨v, v1, v2, hv⟩ := hv
    obtain ⟨m, hm, hr, hml⟩ := ih (j + 1) (acc ++ [⟨b + t, v⟩]) (b + t) (by omega) (by rw [List.length_append, ha]; rfl) (by omega) (by omega) (by omega)
    refine ⟨⟨b + t, v⟩ :: m, ?_, ⟨show b < b + t by omega, ⟨show 0 ≤ b + t by omega, show b + t < 3600 by omega, v1, v2⟩, hr⟩, by rw [List.length_cons, hml]⟩
    rw [show acc ++ ⟨b + t, v⟩ :: m = (acc ++ [⟨b + t, v⟩]) ++ m by rw [List.append_assoc]; rfl]
    refine Ev.step (f := fun k => marigraphlaw15_offs.j1 k l0 l1 (n : Int) acc b (j : Int) true) (fun k => ?_) ?_
    · simp only [marigraphlaw15_offs.l0]
      rw [if_pos (by omega), decide_eq_true (by omega)]
    · refine Ev.step (f := fun k => (marigraphbook_Within.f k (rd l0 (j : Int)) 1 50).bind fun t => if (j : Int) < (l1.length : Int) then ((marigraphbook_Within.f k (rd l1 (j : Int)) (-2147483647) 2147483647).bind fun t196 => (if acc.length < 8796093022208 then (marigraphlaw15_offs.l0 k l0 l1 (n : Int) (acc ++ [(⟨wrap64 (b + t), t196⟩ : S26)]) (wrap64 (b + t)) (wrap64 ((j : Int) + 1))) else (none))) else (if acc.length < 8796093022208 then (marigraphlaw15_offs.l0 k l0 l1 (n : Int) (acc ++ [(⟨wrap64 (b + t), 0⟩ : S26)]) (wrap64 (b + t)) (wrap64 ((j : Int) + 1))) else (none))) (fun k => ?_) (Ev.bind ht (hv _ hm))
      simp only [marigraphlaw15_offs.j1]
      rw [if_pos trivial, if_pos (by omega), if_pos (by omega)]
theorem offs_tells (l0 l1 : List Int) (h0 : ∀ x ∈ l0, (Lit.int .i64 x).wf = true) (h1 : ∀ x ∈ l1, (Lit.int .i64 x).wf = true) (n : Nat) (hn : n ≤ 60) : ∃ m, Ev (fun k => marigraphlaw15_offs.f k l0 l1 (n : Int)) m ∧ Rise (-1) (m.map conv) ∧ m.length ≤ n := by
  obtain ⟨m, h, hr, hl⟩ := offs_loop l0 l1 h0 h1 n hn _ 0 [] (-1) rfl rfl (by omega) (by omega) (by omega)
  exact ⟨m, h, hr, by omega⟩
theorem theirs_loop (l : List S26) (hl : l.length ≤ 1000) : ∀ (suf pre : List S26), l = pre ++ suf → Ev (fun k => marigraphlaw15_theirs.l0 k l (pre.map conv) (pre.length : Int)) (l.map conv) := by
  intro suf
  induction suf with
  | nil =>
    intro pre e
    rw [List.append_nil] at e
    subst e
    refine Ev.step (f := fun _ => some (l.map conv)) (fun k => ?_) (Ev.now _)
    simp only [marigraphlaw15_theirs.l0]
    rw [if_neg (by omega)]
  | cons o suf ih =>
    intro pre e
    have hll : l.length = pre.length + (suf.length + 1) := by rw [e, List.length_append, List.length_cons]
    have hnext := ih (pre ++ [o]) (by rw [e, List.append_assoc]; rfl)
    have hrd : rd_T26 l (pre.length : Int) = o := by
      rw [e]; unfold rd_T26
      rw [Int.toNat_natCast, List.getD_eq_getElem?_getD, List.getElem?_append_right (Nat.le_refl _), Nat.sub_self]
      rfl
    refine Ev.step (fun k => ?_) hnext
    simp only [marigraphlaw15_theirs.l0]
    rw [if_pos (by omega), if_pos (by omega), if_pos (by rw [List.length_map]; omega), hrd, wrap_nxt (by omega), List.map_append, List.length_append]
    rfl
theorem theirs_tells (l : List S26) (hl : l.length ≤ 1000) : Ev (fun k => marigraphlaw15_theirs.f k l) (l.map conv) := theirs_loop l hl l [] rfl
/-! ### what is read of points that were written -/
theorem sx_val {v : Int} (h : -2147483647 ≤ v ∧ v ≤ 2147483647) : sx (width v) (v % 18446744073709551616 % 2 ^ (8 * width v)) = v := by
  rcases width_is v with e | e | e
  · have hv : -128 ≤ v ∧ v ≤ 127 := by
      unfold width at e
      split at e
      · assumption
      · split at e <;> omega
    rw [e]
    show wrap64 (IntKind.u64.wrap (v % 18446744073709551616 % 256 * 72057594037927936)) / 72057594037927936 = v
    rw [IntKind.wrap_u64]; unfold wrap64; omega
  · have hv : -32768 ≤ v ∧ v ≤ 32767 := by
      unfold width at e
      split at e
      · omega
      · split at e
        · assumption
        · omega
    rw [e]
    show wrap64 (IntKind.u64.wrap (v % 18446744073709551616 % 65536 * 281474976710656)) / 281474976710656 = v
    rw [IntKind.wrap_u64]; unfold wrap64; omega
  · rw [e]
    show wrap64 (IntKind.u64.wrap (v % 18446744073709551616 % 4294967296 * 4294967296)) / 4294967296 = v
    rw [IntKind.wrap_u64]; unfold wrap64; omega
theorem read_one {o v : Int} (h : May o v) (q w : List Int) (acc : List S45) (ha : acc.length < 8796093022207) : readI (qual o v ++ q) (val_ v ++ w) acc = readI q w (acc ++ [⟨o, v⟩]) := by
  have hw := width_is v
  obtain ⟨o0, o1, v0, v1⟩ := h
  have hq : getI 0 (qual o v) = o * 16 + width v - 1 := by
    unfold qual
    rw [getI_be _ _ 0 (by omega) (by rw [show (2 : Int) ^ (8 * 2) = 65536 from rfl]; omega), show (2 : Int) ^ (8 * 2) = 65536 from rfl]; omega
  have hv : getI 0 ((val_ v ++ w).take (width v)) = v % 18446744073709551616 % 2 ^ (8 * width v) := by
    have hp : (0 : Int) < 2 ^ (8 * width v) ∧ (2 : Int) ^ (8 * width v) ≤ 4294967296 := by rcases hw with e | e | e <;> rw [e] <;> decide
    have h1 := Int.emod_lt_of_pos (v % 18446744073709551616) hp.1
    rw [List.take_left' (val_len v)]
    unfold val_
    rw [IntKind.wrap_u64, getI_be _ _ 0 (by omega) (by omega)]
    omega
  obtain ⟨n, hn⟩ := Int.eq_ofNat_of_zero_le (show 0 ≤ o * 16 + (width v : Int) - 1 by omega)
  have e1 : n % 8 + 1 = width v := by omega
  have e2 : ((n / 16 : Nat) : Int) = o := by omega
  have hl : ¬ (val_ v ++ w).length < width v := by rw [List.length_append, val_len]; omega
  have hqq : qual o v = [(o * 16 + width v - 1) / 2 ^ (8 * 1) % 256, (o * 16 + width v - 1) / 2 ^ (8 * 0) % 256] := rfl
  rw [hqq] at hq ⊢
  rw [List.cons_append, List.cons_append, List.nil_append, readI, hq, hn, Int.toNat_natCast, e1, e2, if_pos (by omega), if_pos (by omega), if_pos ha, if_neg hl, hv, sx_val ⟨v0, v1⟩, List.drop_left' (val_len v)]
theorem read_all (w : List Int) : ∀ (l : List S45) (b : Int) (acc : List S45), Rise b l → acc.length + l.length < 1000000 → readI (quals l) (vals l ++ w) acc = some (acc ++ l)
  | [], _, acc, _, _ => by rw [quals, readI, List.append_nil]
  | o :: l, b, acc, h, hl => by
    rw [List.length_cons] at hl
    rw [quals, vals, List.append_assoc, read_one h.2.1 _ _ _ (by omega), read_all w l o.f0 _ h.2.2 (by rw [List.length_append, List.length_singleton]; omega), List.append_assoc]
    rfl
theorem Parse_one {o : S45} (h : May o.f0 o.f1) : Ev (fun k => cell_Parse.f k (qual o.f0 o.f1) (val_ o.f1)) ([o], 0) := by
  have hr : cell_read.f (qual o.f0 o.f1) (val_ o.f1) = some [o] := by
    have := read_one h [] [] [] (by decide)
    rw [List.append_nil, List.append_nil] at this
    unfold cell_read.f
    rw [this, readI]; rfl
  unfold cell_Parse.f
  simp only [hr, Option.bind_some, List.length_singleton, if_pos (show ((1 : Nat) : Int) = 1 from rfl), if_pos (show 0 < ((1 : Nat) : Int) by decide), show rd_T45 [o] 0 = o from rfl]
  refine Ev.bind (One_tells h) ?_
  simp only [if_true]
  exact Ev.now _
theorem Parse_many {l : List S45} {b : Int} (h : Rise b l) (h2 : 2 ≤ l.length) (h64 : l.length ≤ 64) : Ev (fun k => cell_Parse.f k (quals l) (vals l ++ [0])) (l, 0) := by
  have hr : cell_read.f (quals l) (vals l ++ [0]) = some l := by
    have := read_all [0] l b [] h (by rw [List.length_nil]; omega)
    exact this
  unfold cell_Parse.f
  simp only [hr, Option.bind_some, if_neg (show ¬ (l.length : Int) = 1 by omega), if_pos (show (l.length : Int) > 1 by omega)]
  refine Ev.bind (Many_tells h h2 h64) ?_
  simp only [if_true]
  exact Ev.now _
theorem off_loop (l : List S45) (hl : l.length ≤ 1000) : ∀ (d j : Nat), d + j = l.length → Ev (fun k => cell_Off.l0 k l l (j : Int)) true := by
  intro d
  induction d with
  | zero =>
    intro j hj
    refine Ev.step (f := fun _ => some true) (fun k => ?_) (Ev.now _)
    simp only [cell_Off.l0]
    rw [if_neg (by omega)]
  | succ d ih =>
    intro j hj
    refine Ev.step (fun k => ?_) (ih (j + 1) (by omega))
    simp only [cell_Off.l0]
    rw [if_pos (by omega), if_pos (by omega), if_pos (by omega), wrap_nxt (by omega), if_neg (by simp)]
theorem off_self (l : List S45) (hl : l.length ≤ 1000) : Ev (fun k => cell_Off.f k l l) true := by
  unfold cell_Off.f
  simp only [if_true]
  exact off_loop l hl l.length 0 rfl
theorem rise_may : ∀ (pre : List S45) (b : Int) (o : S45) (suf : List S45), Rise b (pre ++ o :: suf) → May o.f0 o.f1
  | [], _, _, _, h => h.2.1
  | a :: pre, _, o, suf, h => rise_may pre a.f0 o suf h.2.2
theorem back_end (l : List S45) (b : Int) (h : Rise b l) (h60 : l.length ≤ 60) : Ev (fun k => marigraphlaw15_CellBack.l0 k l (l.length : Int)) true := by
  refine Ev.step (f := fun k => marigraphlaw15_CellBack.l0 (k + 1) l (l.length : Int)) (fun _ => rfl) ?_
  simp only [marigraphlaw15_CellBack.l0, if_neg (Int.lt_irrefl _)]
  by_cases h2 : l.length < 2
  · simp only [if_pos (show (l.length : Int) < 2 by omega)]
    exact Ev.bind known_ev (Ev.now _)
  · simp only [if_neg (show ¬ (l.length : Int) < 2 by omega)]
    refine Ev.bind (Many_tells h (by omega) (by omega)) ?_
    refine Ev.bind (Parse_many h (by omega) (by omega)) ?_
    simp only [if_true]
    refine Ev.bind (off_self l (by omega)) ?_
    have hq := quals_len l
    simp only [if_true, if_pos (show ((quals l).length : Int) = wrap64 (2 * (l.length : Int)) by unfold wrap64; omega)]
    exact Ev.bind known_ev (Ev.now _)
theorem back_loop (l : List S45) (b : Int) (h : Rise b l) (h60 : l.length ≤ 60) : ∀ (suf pre : List S45), l = pre ++ suf → Ev (fun k => marigraphlaw15_CellBack.l0 k l (pre.length : Int)) true := by
  intro suf
  induction suf with
  | nil =>
    intro pre e
    rw [List.append_nil] at e
    rw [← e]
    exact back_end l b h h60
  | cons o suf ih =>
    intro pre e
    have hll : l.length = pre.length + (suf.length + 1) := by rw [e, List.length_append, List.length_cons]
    have hm : May o.f0 o.f1 := rise_may pre b o suf (e ▸ h)
    have hnext := ih (pre ++ [o]) (by rw [e, List.append_assoc]; rfl)
    have hrd : rd_T45 l (pre.length : Int) = o := by rw [e]; exact rd_pre pre o suf
    have hw : wrap64 ((pre.length : Int) + 1) = ((pre ++ [o]).length : Int) := by rw [wrap_nxt (by omega), List.length_append]; rfl
    refine Ev.step (f := fun k => marigraphlaw15_CellBack.l0 (k + 1) l (pre.length : Int)) (fun _ => rfl) ?_
    simp only [marigraphlaw15_CellBack.l0, if_pos (show (pre.length : Int) < (l.length : Int) by omega), if_pos (show 0 ≤ (pre.length : Int) by omega), hrd]
    refine Ev.bind (One_tells hm) ?_
    refine Ev.bind (Parse_one hm) ?_
    simp only [if_true, List.length_singleton, if_pos (show ((1 : Nat) : Int) = 1 from rfl), if_pos (show 0 < ((1 : Nat) : Int) by decide), show rd_T45 [o] 0 = o from rfl, beq_self_eq_true, Bool.not_true, Bool.or_self, Bool.false_eq_true, if_false, width_tells, Option.bind_some, val_len]
    refine Ev.bind (wide_tells ⟨hm.1, hm.2.1⟩) ?_
    simp only [if_true]
    rw [hw]
    exact hnext
theorem CellBack : marigraphlaw15_CellBack.Pure := by
  intro l0 l1 _ _ h0 _ _ h1
  refine Ev.rounds ?_
  unfold marigraphlaw15_CellBack.f
  obtain ⟨m, hm, hr, hml⟩ := offs_tells l0 l1 h0 h1 60 (by decide)
  refine Ev.bind hm ?_
  refine Ev.bind (theirs_tells m (by omega)) ?_
  exact back_loop _ (-1) hr (by rw [List.length_map]; exact hml) _ [] rfl

end Go.Proofs.Ytjafaojmbapkbaa.Pure

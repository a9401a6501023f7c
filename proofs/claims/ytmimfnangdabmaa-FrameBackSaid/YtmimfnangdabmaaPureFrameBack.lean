/- FrameBack: what was written is read, and of a beginning of a row the first records; for any records and entries. -/
import Derived.Test.YtmimfnangdabmaaPFrameBackx0
import Derived.Test.YtmimfnangdabmaaPFrameBackx1
import Derived.Test.YtmimfnangdabmaaPFrameBackx2
import Derived.Test.YtmimfnangdabmaaPFrameBackx3
import Derived.Test.YtmimfnangdabmaaPFrameBackx4
import Derived.Test.YtmimfnangdabmaaPFrameBackx5
import Derived.Test.YtmimfnangdabmaaPFrameBackx6
import Derived.Test.YtmimfnangdabmaaPFrameBackx7
namespace Go.Proofs.Ytmimfnangdabmaa.Pure
open Go.RowKit Go.Proofs.Ytmimfnangdabmaa.PFrameBack Go.Proofs.YtmimfnangdabmaaW.PrintWords Go.Proofs.YtmimfnangdabmaaW.PrintLast
set_option linter.unusedVariables false
set_option linter.unusedSimpArgs false

theorem i64_of {a : Int} (h : (Lit.int .i64 a).wf = true) : -9223372036854775808 ≤ a ∧ a ≤ 9223372036854775807 := by
  have h1 : IntKind.i64.min = -9223372036854775808 := rfl
  have h2 : IntKind.i64.max = 9223372036854775807 := rfl
  simp only [Lit.wf, Bool.and_eq_true, decide_eq_true_eq] at h
  omega
/-! ### bytes as whole numbers: in range, in order -/
def Byt (l : List Int) : Prop := ∀ x ∈ l, 0 ≤ x ∧ x ≤ 255
theorem Byt.of_wf {l : List Int} (h : ∀ x ∈ l, (Lit.int .u8 x).wf = true) : Byt l := by
  intro x hx
  have := h x hx
  have h1 : IntKind.u8.min = 0 := rfl
  have h2 : IntKind.u8.max = 255 := rfl
  simp only [Lit.wf, Bool.and_eq_true, decide_eq_true_eq] at this
  omega
theorem Byt.cons {x : Int} {l : List Int} (h : Byt (x :: l)) : (0 ≤ x ∧ x ≤ 255) ∧ Byt l := ⟨h x (by simp), fun y hy => h y (by simp [hy])⟩
theorem Byt.append {a b : List Int} (ha : Byt a) (hb : Byt b) : Byt (a ++ b) := by
  intro x hx
  rcases List.mem_append.1 hx with h | h
  · exact ha x h
  · exact hb x h
/-! ### Put -/
def be (n : Int) : Nat → List Int
  | 0 => []
  | s + 1 => (n / 2 ^ (8 * s)) % 256 :: be n s
theorem be_len (n : Int) (s : Nat) : (be n s).length = s := by induction s with | zero => rfl | succ s ih => simp [be, ih]
theorem be_byt (n : Int) (s : Nat) : Byt (be n s) := by
  induction s with
  | zero => intro x hx; cases hx
  | succ s ih =>
    intro x hx
    rcases List.mem_cons.1 hx with rfl | hx
    · omega
    · exact ih x hx
theorem wrap_8 (s : Nat) (h : s ≤ 8) : wrap64 (8 * (s : Int)) = ((8 * s : Nat) : Int) := by unfold wrap64; omega
theorem put_loop (n : Int) (s : Nat) : ∀ (k : Nat) (acc : List Int), s ≤ 8 → s < k → acc.length + s ≤ 140737488355328 → octet_Put.l0 k n acc ((s : Int) - 1) = some (acc ++ be n s) := by
  induction s with
  | zero =>
    intro k acc _ hk _
    obtain ⟨k, rfl⟩ : ∃ m, k = m + 1 := ⟨k - 1, by omega⟩
    simp only [octet_Put.l0]
    rw [if_neg (by omega)]
    simp [be]
  | succ s ih =>
    intro k acc hs hk hl
    obtain ⟨k, rfl⟩ : ∃ m, k = m + 1 := ⟨k - 1, by omega⟩
    have e : ((s + 1 : Nat) : Int) - 1 = (s : Int) := by omega
    rw [e]
    simp only [octet_Put.l0]
    rw [wrap_8 s (by omega), if_pos (by omega), if_pos (by omega), if_pos (by omega)]
    have e2 : wrap64 ((s : Int) - 1) = (s : Int) - 1 := by unfold wrap64; omega
    have e3 : shr .u64 n ((8 * s : Nat) : Int) = n / 2 ^ (8 * s) := by
      unfold shr
      have hb : IntKind.u64.bits = 64 := rfl
      rw [Int.toNat_natCast, hb, Nat.min_eq_left (by omega)]
    rw [e2, e3, ih k _ (by omega) (by omega) (by rw [List.length_append, List.length_singleton]; omega)]
    simp [be]
theorem put_tells (l : List Int) (n : Int) (s : Nat) (k : Nat) (hs : s ≤ 8) (hk : s < k) (hl : l.length + 8 ≤ 140737488355328) : octet_Put.f k l n (s : Int) = some (l ++ be n s) := by
  unfold octet_Put.f slices_Clone_byte_byte.f
  rw [if_pos (by omega)]
  simp only [Option.bind_some]
  have e : mx (mn (s : Int) 8) 0 = (s : Int) := by unfold mx mn; split <;> split <;> omega
  rw [e]
  exact put_loop n s k l hs hk (by omega)
theorem emod_256 (m P : Int) (hP : 0 < P) : m % (P * 256) = m % P + P * (m / P % 256) := by
  have h1 := Int.emod_add_mul_ediv m P
  have h2 := Int.emod_add_mul_ediv (m / P) 256
  have h3 := Int.emod_nonneg m (Int.ne_of_gt hP)
  have h4 := Int.emod_lt_of_pos m hP
  generalize hq : m / P = q at *
  have h5 : P * q = P * (q % 256) + P * 256 * (q / 256) := by rw [Int.mul_assoc, ← Int.mul_add, h2]
  have h6 : 0 ≤ P * (q % 256) := Int.mul_nonneg (by omega) (by omega)
  have h7 : P * (q % 256) ≤ P * 255 := Int.mul_le_mul_of_nonneg_left (by omega) (by omega)
  have e : m = (m % P + P * (q % 256)) + P * 256 * (q / 256) := by omega
  calc m % (P * 256) = ((m % P + P * (q % 256)) + P * 256 * (q / 256)) % (P * 256) := by rw [← e]
    _ = (m % P + P * (q % 256)) % (P * 256) := Int.add_mul_emod_self_left _ _ _
    _ = m % P + P * (q % 256) := Int.emod_eq_of_lt (by omega) (by omega)
/-! ### Get -/
theorem or_byte (q c : Int) (hq : 0 ≤ q) (hc : 0 ≤ c ∧ c ≤ 255) (hb : q * 256 + c < 18446744073709551616) : Go.bits .or .u64 (IntKind.u64.wrap (q * 256)) (IntKind.u64.wrap c) = q * 256 + c := by
  have w (x : Int) (h0 : 0 ≤ x) (h1 : x < 18446744073709551616) : IntKind.u64.wrap x = x := by
    have : IntKind.u64.wrap x = x % 18446744073709551616 := by simp [IntKind.wrap, IntKind.bits, IntKind.signed]
    rw [this]; exact Int.emod_eq_of_lt h0 h1
  rw [w _ (by omega) (by omega), w _ (by omega) (by omega)]
  exact bits_join .u64 64 (by decide) (fun x h0 h1 => w x h0 (by simpa using h1)) 8 _ _ (by omega) (by omega) (by show q * 256 < 18446744073709551616; omega) hc.1 (by show c < 256; omega) (by show c < 18446744073709551616; omega)
theorem getI_be (n : Int) (s : Nat) : ∀ a : Int, 0 ≤ a → a * 2 ^ (8 * s) + n % 2 ^ (8 * s) < 18446744073709551616 → getI a (be n s) = a * 2 ^ (8 * s) + n % 2 ^ (8 * s) := by
  induction s with
  | zero => intro a _ _; simp [be, getI]
  | succ s ih =>
    intro a ha hb
    have hp : (0 : Int) < 2 ^ (8 * s) := Int.pow_pos (by decide)
    have e : (2 : Int) ^ (8 * (s + 1)) = 2 ^ (8 * s) * 256 := by rw [Nat.mul_add, Int.pow_add]; rfl
    rw [e, emod_256 n _ hp] at hb ⊢
    have h3 := Int.emod_nonneg n (Int.ne_of_gt hp)
    have h4 := Int.emod_lt_of_pos n hp
    generalize hP : (2 : Int) ^ (8 * s) = P at *
    show getI (Go.bits .or .u64 (IntKind.u64.wrap (a * 256)) (IntKind.u64.wrap (n / 2 ^ (8 * s) % 256))) (be n s) = _
    rw [hP]
    generalize hq : n / P % 256 = c at *
    have hc : 0 ≤ c ∧ c ≤ 255 := by omega
    have e2 : a * (P * 256) + (n % P + P * c) = (a * 256 + c) * P + n % P := by
      rw [Int.add_mul, Int.mul_comm P 256, ← Int.mul_assoc, Int.mul_comm P c]; omega
    rw [e2] at hb ⊢
    have h0 : 0 ≤ a * 256 + c := by omega
    have h5 : (a * 256 + c) * 1 ≤ (a * 256 + c) * P := Int.mul_le_mul_of_nonneg_left (by omega) h0
    rw [or_byte a c ha hc (by omega)]
    exact ih _ h0 hb
/-! ### bytes as strings -/
theorem u8_eq {x y : Int} (hx : 0 ≤ x ∧ x ≤ 255) (hy : 0 ≤ y ∧ y ≤ 255) : (UInt8.ofNat x.toNat = UInt8.ofNat y.toNat) ↔ x = y := by
  constructor
  · intro h
    have h := congrArg UInt8.toNat h
    rw [UInt8.toNat_ofNat', UInt8.toNat_ofNat'] at h
    omega
  · rintro rfl; rfl
theorem bytesOf_inj : ∀ {a b : List Int}, Byt a → Byt b → (Lib.bytesOf a = Lib.bytesOf b ↔ a = b)
  | [], [], _, _ => by simp
  | [], _ :: _, _, _ => by simp [Lib.bytesOf]
  | _ :: _, [], _, _ => by simp [Lib.bytesOf]
  | x :: a, y :: b, ha, hb => by
    have ih := bytesOf_inj ha.cons.2 hb.cons.2
    have h1 := u8_eq ha.cons.1 hb.cons.1
    unfold Lib.bytesOf at ih ⊢
    rw [List.map_cons, List.map_cons, List.cons.injEq, List.cons.injEq, h1, ih]
theorem sn_eq {a b : List Int} (ha : Byt a) (hb : Byt b) : ((strOfNums a).toList = (strOfNums b).toList) ↔ a = b := by
  rw [Lib.strOfNums_toList, Lib.strOfNums_toList]
  exact bytesOf_inj ha hb
/-! ### Within -/
theorem within_w {n lo hi : Int} (h1 : -2199023255552 ≤ lo) (h2 : lo ≤ hi) (h3 : hi ≤ 2199023255552) (hn : -9223372036854775808 ≤ n ∧ n ≤ 9223372036854775807) : ∃ r, Ev (fun k => marigraphbook_Within.f k n lo hi) r ∧ lo ≤ r ∧ r ≤ hi ∧ (lo ≤ n → n ≤ hi → r = n) := by
  have e1 : wrap64 (wrap64 (hi - lo) + 1) = hi - lo + 1 := by unfold wrap64; omega
  have hj : ∀ b : Bool, (b = true ↔ (lo ≤ n ∧ n ≤ hi)) → ∃ r, (∀ k, marigraphbook_Within.j0 (k + 1) n lo hi b = some r) ∧ lo ≤ r ∧ r ≤ hi ∧ (lo ≤ n → n ≤ hi → r = n) := by
    intro b hb
    simp only [marigraphbook_Within.j0, e1]
    cases b with
    | true =>
      have := hb.1 rfl
      exact ⟨n, fun _ => by rw [if_pos rfl], this.1, this.2, fun _ _ => rfl⟩
    | false =>
      have hno : ¬ (lo ≤ n ∧ n ≤ hi) := fun h => by have := hb.2 h; cases this
      simp only [Bool.false_eq_true, if_false]
      rw [if_neg (by omega)]
      have hm : (0 : Int) < hi - lo + 1 := by omega
      have t1 : Int.tmod n (hi - lo + 1) < hi - lo + 1 := Int.tmod_lt_of_pos _ hm
      have t2 : -(hi - lo + 1) < Int.tmod n (hi - lo + 1) := by
        have := Int.tmod_lt_of_pos (-n) hm
        rw [Int.neg_tmod] at this
        omega
      generalize Int.tmod n (hi - lo + 1) = t at *
      by_cases ht : t < 0
      · rw [if_pos ht]
        have e : wrap64 (lo + wrap64 (wrap64 (wrap64 (t + hi) - lo) + 1)) = t + hi + 1 := by unfold wrap64; omega
        rw [e]
        exact ⟨_, fun _ => rfl, by omega, by omega, fun a b => absurd ⟨a, b⟩ hno⟩
      · rw [if_neg ht]
        have e : wrap64 (lo + t) = lo + t := by unfold wrap64; omega
        rw [e]
        exact ⟨_, fun _ => rfl, by omega, by omega, fun a b => absurd ⟨a, b⟩ hno⟩
  have fin : ∀ b : Bool, (∀ k, marigraphbook_Within.f k n lo hi = marigraphbook_Within.j0 k n lo hi b) → (b = true ↔ (lo ≤ n ∧ n ≤ hi)) → ∃ r, Ev (fun k => marigraphbook_Within.f k n lo hi) r ∧ lo ≤ r ∧ r ≤ hi ∧ (lo ≤ n → n ≤ hi → r = n) := by
    intro b hf hb
    obtain ⟨r, h, hr⟩ := hj b hb
    refine ⟨r, ⟨1, fun k hk => ?_⟩, hr⟩
    obtain ⟨k, rfl⟩ : ∃ m, k = m + 1 := ⟨k - 1, by omega⟩
    show marigraphbook_Within.f (k + 1) n lo hi = some r
    rw [hf]
    exact h k
  by_cases hlo : n ≥ lo
  · refine fin (decide (n ≤ hi)) (fun k => by unfold marigraphbook_Within.f; rw [if_pos hlo]) ?_
    rw [decide_eq_true_iff]
    exact ⟨fun h => ⟨hlo, h⟩, fun h => h.2⟩
  · refine fin false (fun k => by unfold marigraphbook_Within.f; rw [if_neg hlo]) ?_
    constructor
    · intro h; cases h
    · intro h; omega
/-! ### a number and its other half -/
theorem xor_nat {a b : Nat} (ha : a < 16777216) (hb : b < 16777216) : Go.bits .xor .u64 (a : Int) (b : Int) = ((a ^^^ b : Nat) : Int) := by
  have ha' : a % 2 ^ 64 = a := Nat.mod_eq_of_lt (by omega)
  have hb' : b % 2 ^ 64 = b := Nat.mod_eq_of_lt (by omega)
  have hx : a ^^^ b < 2 ^ 24 := Nat.xor_lt_two_pow (by omega) (by omega)
  have hbits : IntKind.u64.bits = 64 := rfl
  simp only [Go.bits, hbits, BitVec.ofInt_natCast, BitVec.toNat_xor, BitVec.toNat_ofNat, ha', hb']
  have : IntKind.u64.wrap ((a ^^^ b : Nat) : Int) = ((a ^^^ b : Nat) : Int) % 18446744073709551616 := by simp [IntKind.wrap, IntKind.bits, IntKind.signed]
  rw [this]
  exact Int.emod_eq_of_lt (by omega) (by omega)
theorem xor_half {a b : Nat} (ha : a < 16777216) (hb : b < 16777216) : a ^^^ b = 16777215 ↔ a + b = 16777215 := by
  have hx : (BitVec.ofNat 24 a).toNat = a := by rw [BitVec.toNat_ofNat]; exact Nat.mod_eq_of_lt ha
  have hy : (BitVec.ofNat 24 b).toNat = b := by rw [BitVec.toNat_ofNat]; exact Nat.mod_eq_of_lt hb
  have hn : (~~~(BitVec.ofNat 24 a)).toNat = 2 ^ 24 - 1 - a := by rw [BitVec.toNat_not, hx]
  have ho : (BitVec.allOnes 24).toNat = 2 ^ 24 - 1 := BitVec.toNat_allOnes
  constructor
  · intro h
    have h1 : BitVec.ofNat 24 a ^^^ BitVec.ofNat 24 b = BitVec.allOnes 24 := BitVec.eq_of_toNat_eq (by rw [BitVec.toNat_xor, hx, hy, h, ho])
    have h2 : BitVec.ofNat 24 b = ~~~(BitVec.ofNat 24 a) := by
      rw [← BitVec.xor_allOnes, ← h1, ← BitVec.xor_assoc, BitVec.xor_self, BitVec.zero_xor]
    have h3 := congrArg BitVec.toNat h2
    rw [hy, hn] at h3
    omega
  · intro h
    have h2 : BitVec.ofNat 24 b = ~~~(BitVec.ofNat 24 a) := BitVec.eq_of_toNat_eq (by rw [hy, hn]; omega)
    have h1 : BitVec.ofNat 24 a ^^^ BitVec.ofNat 24 b = BitVec.allOnes 24 := by rw [h2, ← BitVec.xor_allOnes, ← BitVec.xor_assoc, BitVec.xor_self, BitVec.zero_xor]
    have h3 := congrArg BitVec.toNat h1
    rw [BitVec.toNat_xor, hx, hy, ho] at h3
    exact h3
theorem xor_sum {n m : Int} (hn : 0 ≤ n ∧ n < 16777216) (hm : 0 ≤ m ∧ m < 16777216) : Go.bits .xor .u64 n m = 16777215 ↔ n + m = 16777215 := by
  obtain ⟨a, rfl⟩ := Int.eq_ofNat_of_zero_le hn.1
  obtain ⟨b, rfl⟩ := Int.eq_ofNat_of_zero_le hm.1
  rw [xor_nat (by omega) (by omega)]
  have := xor_half (a := a) (b := b) (by omega) (by omega)
  omega
theorem xor_less {n : Int} (hn : 0 ≤ n ∧ n < 16777216) : Go.bits .xor .u64 n 16777215 = 16777215 - n := by
  obtain ⟨a, rfl⟩ := Int.eq_ofNat_of_zero_le hn.1
  have h := (xor_half (a := a) (b := 16777215 - a) (by omega) (by omega)).2 (by omega)
  have e := xor_nat (a := a) (b := 16777215) (by omega) (by omega)
  have h2 : a ^^^ 16777215 = 16777215 - a := by
    have h3 : a ^^^ (a ^^^ (16777215 - a)) = 16777215 - a := by rw [← Nat.xor_assoc, Nat.xor_self, Nat.zero_xor]
    rwa [h] at h3
  rw [show (16777215 : Int) = ((16777215 : Nat) : Int) from rfl, e, h2]
  omega
/-! ### records in a row of bytes: both read alike, whatever the bytes are -/
theorem evDown {α : Type} {g : Nat → Option α} {r : α} (h : Ev (fun k => g (k + 1)) r) : Ev g r := let ⟨K, hK⟩ := h; ⟨K + 1, fun k hk => by
  obtain ⟨m, rfl⟩ : ∃ m, k = m + 1 := ⟨k - 1, by omega⟩
  exact hK m (by omega)⟩
def v3 (l : List Int) : Int := getI 0 (l.take 3)
theorem v3_in {l : List Int} (h : Byt l) (hl : 3 ≤ l.length) : 0 ≤ v3 l ∧ v3 l < 16777216 := by
  match l, hl with
  | x :: y :: z :: r, _ =>
    have hx := h x (by simp)
    have hy := h y (by simp)
    have hz := h z (by simp)
    have e1 := or_byte 0 x (by decide) hx (by omega)
    have e2 := or_byte x y hx.1 hy (by omega)
    have e3 := or_byte (x * 256 + y) z (by omega) hz (by omega)
    show 0 ≤ getI 0 [x, y, z] ∧ getI 0 [x, y, z] < 16777216
    rw [getI, getI, getI, getI, e1, show (0 : Int) * 256 + x = x by omega, e2, e3]
    omega
  | [], hl => simp at hl
  | [_], hl => simp at hl
  | [_, _], hl => simp at hl
theorem Byt.drop {l : List Int} (h : Byt l) (n : Nat) : Byt (l.drop n) := fun x hx => h x (List.mem_of_mem_drop hx)
theorem Byt.take {l : List Int} (h : Byt l) (n : Nat) : Byt (l.take n) := fun x hx => h x (List.mem_of_mem_take hx)
theorem get3 {l : List Int} (hl : 3 ≤ l.length) : octet_Get.f l 3 = some (v3 l, true) := by
  unfold octet_Get.f v3
  rw [if_neg (by decide), if_neg (by decide), if_neg (by omega)]
  rfl
theorem get3_not {l : List Int} (hl : l.length < 3) : octet_Get.f l 3 = some (0, false) := by
  unfold octet_Get.f
  rw [if_neg (by decide), if_neg (by decide), if_pos (by omega)]
theorem len_short {l : List Int} (hl : l.length < 6) : frame_length.f l = some (0, false) := by
  unfold frame_length.f
  by_cases h : l.length < 3
  · rw [get3_not h]; rfl
  · rw [get3 (by omega)]
    simp only [Option.bind_some, if_true, if_pos (show (l.length : Int) < 6 by omega)]
/-- What a head says: how many bytes; may it be? -/
def headOk (l : List Int) : Bool := decide (v3 l + v3 (l.drop 3) = 16777215) && decide (v3 l ≤ 1048576)
theorem len_tells {l : List Int} (h : Byt l) (hl : 6 ≤ l.length) : frame_length.f l = some (v3 l, headOk l) := by
  have h1 := v3_in h (by omega)
  have h2 := v3_in (h.drop 3) (by rw [List.length_drop]; omega)
  have hx := xor_sum h1 h2
  have hw : wrap64 (v3 l) = v3 l := by unfold wrap64; omega
  unfold frame_length.f headOk
  rw [get3 (by omega)]
  simp only [Option.bind_some, if_true, if_neg (show ¬ (l.length : Int) < 6 by omega), if_pos (show 3 ≤ (l.length : Int) by omega), get3 (l := l.drop 3) (by rw [List.length_drop]; omega), hw]
  by_cases he : v3 l + v3 (l.drop 3) = 16777215
  · rw [if_pos (hx.2 he), decide_eq_true he, Bool.true_and]
  · rw [if_neg (fun h => he (hx.1 h)), decide_eq_false he, Bool.false_and]
theorem wadd {a c : Nat} (h : a + c ≤ 10000000) : wrap64 ((a : Int) + (c : Int)) = ((a + c : Nat) : Int) := by unfold wrap64; omega
theorem wadd1 {a : Nat} (h : a ≤ 10000000) : wrap64 ((a : Int) + 1) = ((a + 1 : Nat) : Int) := by unfold wrap64; omega
theorem w6add {a : Nat} (h : a ≤ 10000000) : wrap64 (6 + (a : Int)) = ((6 + a : Nat) : Int) := by unfold wrap64; omega
theorem wsub6 {a : Nat} (h : a ≤ 10000000) : wrap64 ((a : Int) - 6) = (a : Int) - 6 := by unfold wrap64; omega
theorem lists_loop (o : List (List Int)) (ho : o.length ≤ 100000) : ∀ n j : Nat, o.length - j = n → j ≤ o.length → Ev (fun k => marigraphkeep_Lists.l0 k o o (j : Int)) true := by
  intro n
  induction n with
  | zero =>
    intro j hj hle
    refine evDown ?_
    simp only [marigraphkeep_Lists.l0, if_neg (show ¬ (j : Int) < (o.length : Int) by omega)]
    exact Ev.now _
  | succ n ih =>
    intro j hj hle
    have hw : wrap64 ((j : Int) + 1) = ((j + 1 : Nat) : Int) := by unfold wrap64; omega
    refine evDown ?_
    simp only [marigraphkeep_Lists.l0, if_pos (show (j : Int) < (o.length : Int) by omega), if_pos (show 0 ≤ (j : Int) by omega), if_true, hw]
    exact ih (j + 1) (by omega) (by omega)
theorem lists_same (o : List (List Int)) (ho : o.length ≤ 100000) : Ev (fun k => marigraphkeep_Lists.f k o o) true := by
  unfold marigraphkeep_Lists.f
  simp only [if_true]
  exact lists_loop o ho o.length 0 rfl (Nat.zero_le _)
/-! ### a record's head -/
/-! ### cuts; a record laid -/
theorem cutI_byt {a : List Int} (h : Byt a) (n : Nat) : Byt (cutI a n) := by
  unfold cutI
  split
  · exact h.take n
  · exact h
theorem cutI_len (a : List Int) (n : Nat) : (cutI a n).length ≤ n := by
  unfold cutI
  split
  · rw [List.length_take]; omega
  · omega
theorem cut_tells {a : List Int} {n : Int} (hn : 0 ≤ n) : marigraphkeep_Cut.f a n = some (cutI a n.toNat) := by
  obtain ⟨m, rfl⟩ := Int.eq_ofNat_of_zero_le hn
  unfold marigraphkeep_Cut.f cutI
  rw [Int.toNat_natCast]
  by_cases h : (a.length : Int) > (m : Int)
  · rw [if_pos h, if_pos (by omega), if_pos (by omega), if_pos (by omega)]
  · rw [if_neg h, if_neg (by omega)]
theorem u64w {x : Int} (h0 : 0 ≤ x) (h1 : x < 18446744073709551616) : IntKind.u64.wrap x = x := by
  have : IntKind.u64.wrap x = x % 18446744073709551616 := by simp [IntKind.wrap, IntKind.bits, IntKind.signed]
  rw [this]; exact Int.emod_eq_of_lt h0 h1
/-- A record's head and the record. -/
def rec_ (r : List Int) : List Int := be (r.length : Int) 3 ++ (be (16777215 - (r.length : Int)) 3 ++ r)
theorem rec_len (r : List Int) : (rec_ r).length = r.length + 6 := by
  unfold rec_
  rw [List.length_append, List.length_append, be_len, be_len]
  omega
theorem rec_byt {r : List Int} (h : Byt r) : Byt (rec_ r) := (be_byt _ _).append ((be_byt _ _).append h)
theorem put_ev (l : List Int) (n : Int) (s : Nat) (hs : s ≤ 8) (hl : l.length + 8 ≤ 140737488355328) : Ev (fun k => octet_Put.f k l n (s : Int)) (l ++ be n s) := ⟨9, fun k hk => put_tells l n s k hs (by omega) hl⟩
theorem myPut_tells {b r : List Int} (hb : b.length ≤ 1000000) (hr : r.length ≤ 1048576) : Ev (fun k => frame_Put.f k b r) (b ++ rec_ r, 0) := by
  have u1 := u64w (x := (r.length : Int)) (by omega) (by omega)
  have x1 := xor_less (n := (r.length : Int)) ⟨by omega, by omega⟩
  unfold frame_Put.f
  rw [u1, x1]
  simp only [if_neg (show ¬ (r.length : Int) > 1048576 by omega)]
  refine Ev.bind (put_ev b (r.length : Int) 3 (by decide) (by omega)) ?_
  refine Ev.bind (put_ev (b ++ be (r.length : Int) 3) (16777215 - (r.length : Int)) 3 (by decide) (by rw [List.length_append, be_len]; omega)) ?_
  rw [if_pos (by rw [List.length_append, List.length_append, be_len, be_len]; omega)]
  unfold rec_
  rw [List.append_assoc, List.append_assoc]
  exact Ev.now _
/-! ### few records -/
theorem rdL_at {l : List (List Int)} {j : Nat} (h : j < l.length) : rd_L1 l (j : Int) = l[j] := by
  unfold rd_L1
  rw [Int.toNat_natCast, List.getD_eq_getElem?_getD, List.getElem?_eq_getElem h]
  rfl
theorem few_loop {l : List (List Int)} {n m : Nat} : ∀ (d j : Nat) (out : List (List Int)), min l.length n - j = d → j ≤ l.length → j ≤ n → n ≤ 1000 → out.length = j → Ev (fun k => marigraphlaw4_few.l0 k l (n : Int) (m : Int) out (j : Int)) (out ++ ((l.take n).drop j).map (fun x => cutI x m)) := by
  intro d
  induction d with
  | zero =>
    intro j out hd h1 h2 hn ho
    have e : (l.take n).drop j = [] := List.drop_of_length_le (by rw [List.length_take]; omega)
    rw [e, List.map_nil, List.append_nil]
    refine evDown ?_
    simp only [marigraphlaw4_few.l0]
    by_cases h : (j : Int) < (l.length : Int)
    · simp only [if_pos h, if_neg (show ¬ (j : Int) < (n : Int) by omega)]
      exact Ev.now _
    · simp only [if_neg h]
      exact Ev.now _
  | succ d ih =>
    intro j out hd h1 h2 hn ho
    have hlt : j < l.length := by omega
    have e : (l.take n).drop j = l[j] :: (l.take n).drop (j + 1) := by
      rw [List.drop_eq_getElem_cons (show j < (l.take n).length by rw [List.length_take]; omega), List.getElem_take]
    rw [e, List.map_cons]
    refine evDown ?_
    simp only [marigraphlaw4_few.l0, if_pos (show (j : Int) < (l.length : Int) by omega), if_pos (show (j : Int) < (n : Int) by omega), if_pos (show 0 ≤ (j : Int) by omega), rdL_at hlt, cut_tells (a := l[j]) (n := (m : Int)) (by omega), Int.toNat_natCast, Option.bind_some, if_pos (show out.length < 5864062014805 by omega), wadd1 (show j ≤ 10000000 by omega)]
    have := ih (j + 1) (out ++ [cutI l[j] m]) (by omega) (by omega) (by omega) hn (by rw [List.length_append, ho]; rfl)
    rw [List.append_assoc] at this
    exact this
theorem few_tells (l : List (List Int)) (n m : Nat) (hn : n ≤ 1000) : Ev (fun k => marigraphlaw4_few.f k l (n : Int) (m : Int)) ((l.take n).map (fun x => cutI x m)) := by
  have := few_loop (l := l) (n := n) (m := m) _ 0 [] rfl (Nat.zero_le _) (Nat.zero_le _) hn rfl
  rw [List.drop_zero, List.nil_append] at this
  exact this
/-! ### entries, written -/
def encE (x : S49) : List Int := if x.f2 = true then [0, (x.f0.length : Int) % 256] ++ x.f0 else ([1, (x.f0.length : Int) % 256] ++ x.f0) ++ (be (x.f1.length : Int) 2 ++ x.f1)
def encs : List S49 → List Int
  | [] => []
  | x :: r => encE x ++ encs r
/-- An entry that may be in a small batch. -/
structure SmE (x : S49) : Prop where
  k0 : 1 ≤ x.f0.length
  k1 : x.f0.length ≤ 60
  v1 : x.f1.length ≤ 80
  kb : Byt x.f0
  vb : Byt x.f1
  gn : x.f2 = true → x.f1 = []
theorem encE_len {x : S49} (h : SmE x) : (encE x).length ≤ 144 := by
  have a := h.k1; have b := h.v1
  unfold encE
  split
  · simp only [List.length_append, List.length_cons, List.length_nil]; omega
  · simp only [List.length_append, List.length_cons, List.length_nil, be_len]; omega
theorem bit_byt {a b : Int} (ha : 0 ≤ a ∧ a ≤ 255) (hb : 0 ≤ b ∧ b ≤ 255) : Byt [a, b] := fun x hx => by
  simp only [List.mem_cons, List.not_mem_nil, or_false] at hx
  rcases hx with rfl | rfl
  · exact ha
  · exact hb
theorem encE_byt {x : S49} (h : SmE x) : Byt (encE x) := by
  unfold encE
  split
  · exact (bit_byt (by omega) (by omega)).append h.kb
  · exact ((bit_byt (by omega) (by omega)).append h.kb).append ((be_byt _ _).append h.vb)
theorem encs_all : ∀ {l : List S49}, (∀ x ∈ l, SmE x) → (encs l).length ≤ 144 * l.length ∧ Byt (encs l)
  | [], _ => ⟨Nat.le_refl _, fun _ h => by cases h⟩
  | x :: r, h => by
    have hx := h x (List.mem_cons_self ..)
    obtain ⟨i1, i2⟩ := encs_all (l := r) (fun y hy => h y (List.mem_cons_of_mem _ hy))
    have := encE_len hx
    refine ⟨?_, (encE_byt hx).append i2⟩
    show (encE x ++ encs r).length ≤ _
    rw [List.length_append, List.length_cons]
    omega
def batch_ (l : List S49) : List Int := be (l.length : Int) 2 ++ encs l
theorem rdE_at {l : List S49} {j : Nat} (h : j < l.length) : rd_T49 l (j : Int) = l[j] := by
  unfold rd_T49
  rw [Int.toNat_natCast, List.getD_eq_getElem?_getD, List.getElem?_eq_getElem h]
  rfl
theorem batch_loop {l : List S49} (hl : ∀ x ∈ l, SmE x) (hn : l.length ≤ 100) : ∀ (d j : Nat) (b : List Int), l.length - j = d → j ≤ l.length → b.length ≤ 2 + 144 * j → Ev (fun k => frame_Batch.l0 k b l (l.length : Int) (j : Int)) (b ++ encs (l.drop j), 0) := by
  intro d
  induction d with
  | zero =>
    intro j b hd hj hb
    rw [List.drop_of_length_le (by omega)]
    refine evDown ?_
    simp only [frame_Batch.l0, if_neg (show ¬ (j : Int) < (l.length : Int) by omega), encs, List.append_nil]
    exact Ev.now _
  | succ d ih =>
    intro j b hd hj hb
    have hlt : j < l.length := by omega
    have hx := hl _ (List.getElem_mem hlt)
    rw [List.drop_eq_getElem_cons hlt]
    generalize hxx : l[j] = x at hx
    have k0 := hx.k0; have k1 := hx.k1; have v1 := hx.v1
    have ec : b ++ encs (x :: l.drop (j + 1)) = (b ++ encE x) ++ encs (l.drop (j + 1)) := by rw [List.append_assoc]; rfl
    rw [ec]
    have hel := encE_len hx
    have hi := ih (j + 1) (b ++ encE x) (by omega) (by omega) (by rw [List.length_append]; omega)
    have hkm : (x.f0.length : Int) % 256 = (x.f0.length : Int) % 256 := rfl
    refine evDown ?_
    simp only [frame_Batch.l0, if_pos (show (j : Int) < (l.length : Int) by omega), if_pos (show 0 ≤ (j : Int) by omega), rdE_at hlt, hxx]
    have e3 : wrap64 ((j : Int) + 1) = ((j + 1 : Nat) : Int) := wadd1 (by omega)
    by_cases hg : x.f2 = true
    · have hv : x.f1 = [] := hx.gn hg
      have he : encE x = [0, (x.f0.length : Int) % 256] ++ x.f0 := by unfold encE; rw [if_pos hg]
      rw [he] at hi ⊢
      simp only [frame_value.f, if_pos hg, Option.bind_some, if_neg (show ¬ (x.f0.length : Int) < 1 by omega), if_neg (show ¬ (x.f0.length : Int) > 255 by omega), List.length_nil, show decide (((0 : Nat) : Int) > 4095) = false from rfl]
      refine evDown ?_
      simp only [frame_Batch.j1, Bool.false_eq_true, if_false, if_pos hg, Option.bind_some, e3, List.length_cons, List.length_nil, List.length_append]
      simp only [if_pos (show b.length + (0 + 1 + 1) < 140737488355328 by omega), if_pos (show b.length + (0 + 1 + 1) + x.f0.length < 140737488355328 by omega)]
      rw [List.append_assoc b]
      exact hi
    · have he : encE x = ([1, (x.f0.length : Int) % 256] ++ x.f0) ++ (be (x.f1.length : Int) 2 ++ x.f1) := by unfold encE; rw [if_neg hg]
      rw [he] at hi ⊢
      have u1 := u64w (x := (x.f1.length : Int)) (by omega) (by omega)
      simp only [frame_value.f, if_neg hg, Option.bind_some, if_neg (show ¬ (x.f0.length : Int) < 1 by omega), if_neg (show ¬ (x.f0.length : Int) > 255 by omega), decide_eq_false (show ¬ (x.f1.length : Int) > 4095 by omega)]
      refine evDown ?_
      simp only [frame_Batch.j1, Bool.false_eq_true, if_false, if_neg hg, Option.bind_some, e3, List.length_cons, List.length_nil, List.length_append, u1]
      simp only [if_pos (show b.length + (0 + 1 + 1) < 140737488355328 by omega), if_pos (show b.length + (0 + 1 + 1) + x.f0.length < 140737488355328 by omega)]
      refine Ev.bind (put_ev _ (x.f1.length : Int) 2 (by decide) (by simp only [List.length_append, List.length_cons, List.length_nil]; omega)) ?_
      simp only [List.length_append, List.length_cons, List.length_nil, be_len]
      simp only [if_pos (show b.length + (0 + 1 + 1) + x.f0.length + 2 + x.f1.length < 140737488355328 by omega)]
      have ea : b ++ [1, (x.f0.length : Int) % 256] ++ x.f0 ++ be (x.f1.length : Int) 2 ++ x.f1 = b ++ (([1, (x.f0.length : Int) % 256] ++ x.f0) ++ (be (x.f1.length : Int) 2 ++ x.f1)) := by simp only [List.append_assoc]
      rw [ea]
      exact hi
theorem batch_tells {l : List S49} (hl : ∀ x ∈ l, SmE x) (hn : l.length ≤ 100) : Ev (fun k => frame_Batch.f k l) (batch_ l, 0) := by
  have u1 := u64w (x := (l.length : Int)) (by omega) (by omega)
  unfold frame_Batch.f
  simp only [if_neg (show ¬ (l.length : Int) > 8191 by omega), u1]
  refine Ev.bind (put_ev [] (l.length : Int) 2 (by decide) (by simp)) ?_
  have := batch_loop hl hn l.length 0 ([] ++ be (l.length : Int) 2) rfl (Nat.zero_le _) (by simp [be_len])
  rw [List.drop_zero, List.nil_append] at this
  rw [List.nil_append]
  exact this
theorem batch_len {l : List S49} (hl : ∀ x ∈ l, SmE x) : (batch_ l).length ≤ 2 + 144 * l.length := by
  unfold batch_
  rw [List.length_append, be_len]
  have := (encs_all hl).1
  omega
/-! ### entries as they are drawn -/
def normE (key value : Nat) (x : S49) : S49 := ⟨if (cutI x.f0 key).length = 0 then [107] else cutI x.f0 key, if x.f2 = true then [] else cutI x.f1 value, x.f2⟩
def WfE (x : S49) : Prop := Byt x.f0 ∧ Byt x.f1
theorem normE_sm {key value : Nat} (h1 : 1 ≤ key) (hk : key ≤ 60) (hv : value ≤ 80) {x : S49} (h : WfE x) : SmE (normE key value x) := by
  have a := cutI_len x.f0 key
  have b := cutI_len x.f1 value
  unfold normE
  refine ⟨?_, ?_, ?_, ?_, ?_, fun hg => ?_⟩
  · show 1 ≤ (if (cutI x.f0 key).length = 0 then [107] else cutI x.f0 key).length
    split
    · simp
    · omega
  · show (if (cutI x.f0 key).length = 0 then [107] else cutI x.f0 key).length ≤ 60
    split
    · simp
    · omega
  · show (if x.f2 = true then [] else cutI x.f1 value).length ≤ 80
    split
    · simp
    · omega
  · show Byt (if (cutI x.f0 key).length = 0 then [107] else cutI x.f0 key)
    split
    · exact fun y hy => by obtain rfl := List.mem_singleton.1 hy; decide
    · exact cutI_byt h.1 _
  · show Byt (if x.f2 = true then [] else cutI x.f1 value)
    split
    · exact fun _ hy => by cases hy
    · exact cutI_byt h.2 _
  · show (if x.f2 = true then [] else cutI x.f1 value) = []
    rw [if_pos hg]
theorem ent_loop {l : List S49} {n key value : Nat} (hn : n ≤ 1000) : ∀ (d j : Nat) (out : List S49), min l.length n - j = d → j ≤ l.length → j ≤ n → out.length = j → Ev (fun k => marigraphkeep_Entries.l0 k l (n : Int) (key : Int) (value : Int) out (j : Int)) (out ++ ((l.take n).drop j).map (normE key value)) := by
  intro d
  induction d with
  | zero =>
    intro j out hd h1 h2 ho
    have e : (l.take n).drop j = [] := List.drop_of_length_le (by rw [List.length_take]; omega)
    rw [e, List.map_nil, List.append_nil]
    have hj : Ev (fun k => marigraphkeep_Entries.j1 k l (n : Int) (key : Int) (value : Int) out (j : Int) false) out := by
      refine evDown ?_
      simp only [marigraphkeep_Entries.j1, Bool.false_eq_true, if_false]
      exact Ev.now _
    refine evDown ?_
    simp only [marigraphkeep_Entries.l0]
    by_cases h : (j : Int) < (l.length : Int)
    · simp only [if_pos h, decide_eq_false (show ¬ (j : Int) < (n : Int) by omega)]
      exact hj
    · simp only [if_neg h]
      exact hj
  | succ d ih =>
    intro j out hd h1 h2 ho
    have hlt : j < l.length := by omega
    have e : (l.take n).drop j = l[j] :: (l.take n).drop (j + 1) := by
      rw [List.drop_eq_getElem_cons (show j < (l.take n).length by rw [List.length_take]; omega), List.getElem_take]
    rw [e, List.map_cons]
    have hi := ih (j + 1) (out ++ [normE key value l[j]]) (by omega) (by omega) (by omega) (by rw [List.length_append, ho]; rfl)
    rw [List.append_assoc] at hi
    have hrd := rdE_at hlt
    generalize l[j] = x at hi hrd ⊢
    refine evDown ?_
    simp only [marigraphkeep_Entries.l0, if_pos (show (j : Int) < (l.length : Int) by omega), decide_eq_true (show (j : Int) < (n : Int) by omega)]
    refine evDown ?_
    simp only [marigraphkeep_Entries.j1, if_true, if_pos (show 0 ≤ (j : Int) by omega), if_pos (show (j : Int) < (l.length : Int) by omega), hrd, cut_tells (a := x.f0) (n := (key : Int)) (by omega), cut_tells (a := x.f1) (n := (value : Int)) (by omega), Int.toNat_natCast, Option.bind_some, if_pos (show out.length < 2513169434916 by omega), wadd1 (show j ≤ 10000000 by omega)]
    by_cases hk : (cutI x.f0 key).length = 0
    · simp only [if_pos (show ((cutI x.f0 key).length : Int) = 0 by omega)]
      by_cases hg : x.f2 = true
      · have hne : normE key value x = ⟨[107], [], x.f2⟩ := by unfold normE; rw [if_pos hk, if_pos hg]
        rw [hne] at hi ⊢
        simp only [if_pos hg]
        exact hi
      · have hne : normE key value x = ⟨[107], cutI x.f1 value, x.f2⟩ := by unfold normE; rw [if_pos hk, if_neg hg]
        rw [hne] at hi ⊢
        simp only [if_neg hg]
        exact hi
    · simp only [if_neg (show ¬ ((cutI x.f0 key).length : Int) = 0 by omega)]
      by_cases hg : x.f2 = true
      · have hne : normE key value x = ⟨cutI x.f0 key, [], x.f2⟩ := by unfold normE; rw [if_neg hk, if_pos hg]
        rw [hne] at hi ⊢
        simp only [if_pos hg]
        exact hi
      · have hne : normE key value x = ⟨cutI x.f0 key, cutI x.f1 value, x.f2⟩ := by unfold normE; rw [if_neg hk, if_neg hg]
        rw [hne] at hi ⊢
        simp only [if_neg hg]
        exact hi
theorem ent_tells (l : List S49) (n key value : Nat) (hn : n ≤ 1000) : Ev (fun k => marigraphkeep_Entries.f k l (n : Int) (key : Int) (value : Int)) ((l.take n).map (normE key value)) := by
  have := ent_loop (l := l) (n := n) (key := key) (value := value) hn _ 0 [] rfl (Nat.zero_le _) (Nat.zero_le _) rfl
  rw [List.drop_zero, List.nil_append] at this
  exact this
/-! ### the same entries -/
theorem esame_loop {p q : List S49} (hp : ∀ x ∈ p, SmE x) (hq : ∀ x ∈ q, SmE x) (hl : p.length = q.length) (hn : p.length ≤ 100) : ∀ (d j : Nat), p.length - j = d → j ≤ p.length → ∃ b : Bool, (b = true ↔ p.drop j = q.drop j) ∧ Ev (fun k => marigraphref8_Same.l0 k p q (j : Int)) b := by
  intro d
  induction d with
  | zero =>
    intro j hd hj
    refine ⟨true, ?_, evDown ?_⟩
    · rw [List.drop_of_length_le (by omega), List.drop_of_length_le (by omega)]
      simp
    · simp only [marigraphref8_Same.l0, if_neg (show ¬ (j : Int) < (p.length : Int) by omega)]
      exact Ev.now _
  | succ d ih =>
    intro j hd hj
    have hlt : j < p.length := by omega
    have hlt2 : j < q.length := by omega
    have hx := hp _ (List.getElem_mem hlt)
    have hy := hq _ (List.getElem_mem hlt2)
    obtain ⟨b, hb, eb⟩ := ih (j + 1) (by omega) (by omega)
    rw [List.drop_eq_getElem_cons hlt, List.drop_eq_getElem_cons hlt2]
    have r1 := rdE_at hlt
    have r2 := rdE_at hlt2
    generalize p[j] = x at hx r1 ⊢
    generalize q[j] = y at hy r2 ⊢
    have step : ∀ c : Bool, (c = true ↔ x :: p.drop (j + 1) = y :: q.drop (j + 1)) → Ev (fun k => if (strOfNums x.f0).toList = (strOfNums y.f0).toList then (if (x.f2 != y.f2) = true then (some false) else (if x.f2 = true then (marigraphref8_Same.l0 k p q ((j + 1 : Nat) : Int)) else (if (strOfNums x.f1).toList = (strOfNums y.f1).toList then (marigraphref8_Same.l0 k p q ((j + 1 : Nat) : Int)) else (some false)))) else (some false)) c → ∃ b : Bool, (b = true ↔ x :: p.drop (j + 1) = y :: q.drop (j + 1)) ∧ Ev (fun k => marigraphref8_Same.l0 k p q (j : Int)) b := by
      intro c hc he
      refine ⟨c, hc, evDown ?_⟩
      simp only [marigraphref8_Same.l0, if_pos (show (j : Int) < (p.length : Int) by omega), if_pos (show 0 ≤ (j : Int) by omega), if_pos (show (j : Int) < (q.length : Int) by omega), r1, r2, wadd1 (show j ≤ 10000000 by omega)]
      exact he
    have e0 := sn_eq hx.kb hy.kb
    have e1 := sn_eq hx.vb hy.vb
    obtain ⟨xk, xv, xg⟩ := x
    obtain ⟨yk, yv, yg⟩ := y
    simp only at e0 e1
    by_cases hk : xk = yk
    · subst hk
      by_cases hg : xg = yg
      · subst hg
        cases xg with
        | true =>
          have v1 : xv = [] := hx.gn rfl
          have v2 : yv = [] := hy.gn rfl
          subst v1; subst v2
          refine step b ⟨fun h => by rw [hb.1 h], fun h => hb.2 (List.cons.inj h).2⟩ ?_
          simp only [if_true, bne_self_eq_false, Bool.false_eq_true, if_false]
          exact eb
        | false =>
          by_cases hv : xv = yv
          · subst hv
            refine step b ⟨fun h => by rw [hb.1 h], fun h => hb.2 (List.cons.inj h).2⟩ ?_
            simp only [if_true, bne_self_eq_false, Bool.false_eq_true, if_false]
            exact eb
          · refine step false ⟨fun h => (by cases h), fun h => absurd (S49.mk.inj (List.cons.inj h).1).2.1 hv⟩ ?_
            simp only [if_true, bne_self_eq_false, Bool.false_eq_true, if_false, if_neg (fun h => hv (e1.1 h))]
            exact Ev.now _
      · refine step false ⟨fun h => (by cases h), fun h => absurd (S49.mk.inj (List.cons.inj h).1).2.2 hg⟩ ?_
        have hbn : (xg != yg) = true := by simpa using hg
        simp only [if_true, hbn]
        exact Ev.now _
    · refine step false ⟨fun h => (by cases h), fun h => absurd (S49.mk.inj (List.cons.inj h).1).1 hk⟩ ?_
      simp only [if_neg (fun h => hk (e0.1 h))]
      exact Ev.now _
theorem esame_tells {p q : List S49} (hp : ∀ x ∈ p, SmE x) (hq : ∀ x ∈ q, SmE x) (h1 : p.length ≤ 100) (h2 : q.length ≤ 100) : ∃ b : Bool, (b = true ↔ p = q) ∧ Ev (fun k => marigraphref8_Same.f k p q) b := by
  unfold marigraphref8_Same.f
  by_cases hl : p.length = q.length
  · obtain ⟨b, hb, eb⟩ := esame_loop hp hq hl h1 p.length 0 rfl (Nat.zero_le _)
    rw [List.drop_zero, List.drop_zero] at hb
    refine ⟨b, hb, ?_⟩
    simp only [if_pos (show (p.length : Int) = (q.length : Int) by omega)]
    exact eb
  · refine ⟨false, ⟨fun h => (by cases h), fun h => absurd (by rw [h]) hl⟩, ?_⟩
    simp only [if_neg (show ¬ (p.length : Int) = (q.length : Int) by omega)]
    exact Ev.now _
/-! ### what was written is read -/
theorem i64w_ {x : Int} (h0 : -9223372036854775808 ≤ x) (h1 : x ≤ 9223372036854775807) : wrap64 x = x := by unfold wrap64; omega
theorem getI_one {a : Int} (h : 0 ≤ a ∧ a ≤ 255) : getI 0 [a] = a := by
  have e1 := or_byte 0 a (by decide) h (by omega)
  rw [getI, getI, e1]
  omega
theorem num1 {a : Int} (h : 0 ≤ a ∧ a ≤ 255) (q : List Int) : num 1 (a :: q) = a := by
  unfold num
  rw [List.take_succ_cons, List.take_zero, getI_one h]
  exact i64w_ (by omega) (by omega)
theorem num2 {n : Nat} (h : n < 65536) (q : List Int) : num 2 (be (n : Int) 2 ++ q) = (n : Int) := by
  unfold num
  rw [List.take_left' (be_len _ _)]
  have := getI_be (n : Int) 2 0 (by decide) (by omega)
  rw [i64w_] <;> omega
theorem entry_enc {x : S49} (h : SmE x) (r : List Int) : entryI (encE x ++ r) = some (some (x, r)) := by
  obtain ⟨k, v, g⟩ := x
  have k0 := h.k0; have k1 := h.k1; have v1 := h.v1
  simp only at k0 k1 v1
  have km : (k.length : Int) % 256 = (k.length : Int) := by omega
  have hk : ∀ q : List Int, num 1 ((k.length : Int) :: q) = (k.length : Int) := fun q => num1 ⟨by omega, by omega⟩ q
  unfold entryI encE
  cases g with
  | true =>
    obtain rfl : v = [] := h.gn rfl
    simp only [if_true, List.cons_append, List.nil_append, km, List.drop_succ_cons, List.drop_zero, List.length_cons, hk, Int.toNat_natCast, num1 (show (0 : Int) ≤ 0 ∧ (0 : Int) ≤ 255 by decide)]
    rw [if_neg (by omega), if_neg (by omega), if_pos (by omega), if_neg (by rw [List.length_append]; omega), List.take_left' rfl, List.drop_left' rfl]
  | false =>
    simp only [Bool.false_eq_true, if_false, List.cons_append, List.nil_append, List.append_assoc, km, List.drop_succ_cons, List.drop_zero, List.length_cons, hk, Int.toNat_natCast, num1 (show (0 : Int) ≤ 1 ∧ (1 : Int) ≤ 255 by decide), List.take_left' (rfl : k.length = k.length), List.drop_left' (rfl : k.length = k.length), num2 (show v.length < 65536 by omega), List.drop_left' (be_len (v.length : Int) 2), List.take_left' (rfl : v.length = v.length), List.drop_left' (rfl : v.length = v.length)]
    rw [if_neg (by omega), if_neg (by omega), if_pos (by omega), if_neg (by rw [List.length_append]; omega), if_neg (by decide), if_neg (by rw [List.length_append, be_len]; omega), if_pos (by omega), if_neg (by rw [List.length_append]; omega)]
theorem read_encs : ∀ (l : List S49) (acc : List S49), (∀ x ∈ l, SmE x) → acc.length + l.length ≤ 100000 → readI l.length (encs l) acc = some (acc ++ l)
  | [], acc, _, _ => by rw [List.append_nil]; rfl
  | x :: l, acc, h, hl => by
    have hx := h x (List.mem_cons_self ..)
    rw [List.length_cons] at hl
    have hi := read_encs l (acc ++ [x]) (fun y hy => h y (List.mem_cons_of_mem _ hy)) (by rw [List.length_append, List.length_singleton]; omega)
    show readI (l.length + 1) (encE x ++ encs l) acc = _
    rw [readI, if_pos (by omega), entry_enc hx]
    show readI l.length (encs l) (acc ++ [x]) = _
    rw [hi, List.append_assoc]
    rfl
theorem read_batch {l : List S49} (h : ∀ x ∈ l, SmE x) (hl : l.length ≤ 100) : frame_read.f (batch_ l) = some l := by
  have hn := num2 (n := l.length) (by omega) (encs l)
  have hb := batch_len h
  unfold frame_read.f
  rw [if_pos (by omega), if_neg (by unfold batch_; rw [List.length_append, be_len]; omega)]
  unfold batch_
  rw [hn, if_pos (by omega), Int.toNat_natCast, List.drop_left' (be_len _ _), read_encs l [] h (by simp; omega)]
  rfl
theorem entries_batch {l : List S49} (h : ∀ x ∈ l, SmE x) (hl : l.length ≤ 100) : Ev (fun k => frame_Entries.f k (batch_ l)) (l, 0) := by
  unfold frame_Entries.f
  rw [read_batch h hl]
  simp only [Option.bind_some]
  refine Ev.bind (batch_tells h hl) ?_
  simp only [if_true]
  exact Ev.now _
/-! ### a row of records, and a beginning of it -/
def flat : List (List Int) → List Int
  | [] => []
  | r :: l => rec_ r ++ flat l
theorem flat_byt : ∀ {l : List (List Int)}, (∀ x ∈ l, x.length ≤ 60 ∧ Byt x) → Byt (flat l)
  | [], _ => fun _ h => by cases h
  | r :: l, h => (rec_byt (h r (List.mem_cons_self ..)).2).append (flat_byt (fun y hy => h y (List.mem_cons_of_mem _ hy)))
theorem flat_len : ∀ {l : List (List Int)}, (∀ x ∈ l, x.length ≤ 60 ∧ Byt x) → (flat l).length ≤ 66 * l.length
  | [], _ => Nat.le_refl _
  | r :: l, h => by
    have h1 := (h r (List.mem_cons_self ..)).1
    have h2 := flat_len (l := l) (fun y hy => h y (List.mem_cons_of_mem _ hy))
    show (rec_ r ++ flat l).length ≤ _
    rw [List.length_append, rec_len, List.length_cons]
    omega
theorem head_of {r m : List Int} (hl : r.length ≤ 60) {n : Nat} (hn : 6 ≤ n) : v3 ((rec_ r ++ m).take n) = (r.length : Int) ∧ headOk ((rec_ r ++ m).take n) = true := by
  have hz3 : rec_ r ++ m = be (r.length : Int) 3 ++ (be (16777215 - (r.length : Int)) 3 ++ (r ++ m)) := by unfold rec_; simp only [List.append_assoc]
  have v1 : v3 ((rec_ r ++ m).take n) = (r.length : Int) := by
    unfold v3
    rw [List.take_take, Nat.min_eq_left (by omega), hz3, List.take_left' (be_len _ _)]
    have := getI_be (r.length : Int) 3 0 (by decide) (by omega)
    omega
  have v2 : v3 (((rec_ r ++ m).take n).drop 3) = 16777215 - (r.length : Int) := by
    unfold v3
    rw [List.drop_take, List.take_take, Nat.min_eq_left (by omega), hz3, List.drop_left' (be_len _ _), List.take_left' (be_len _ _)]
    have := getI_be (16777215 - (r.length : Int)) 3 0 (by decide) (by omega)
    omega
  refine ⟨v1, ?_⟩
  unfold headOk
  rw [v1, v2]
  simp only [Bool.and_eq_true, decide_eq_true_eq]
  omega
theorem all_flat {l : List Int} (hlen : l.length ≤ 100000) (hB : Byt l) : ∀ (rs : List (List Int)) (m at_ : Nat) (out : List (List Int)), (∀ x ∈ rs, x.length ≤ 60 ∧ Byt x) → l.drop at_ = (flat rs).take m → at_ ≤ l.length → out.length + rs.length ≤ 100000 →
    ∃ (j p : Nat), j ≤ rs.length ∧ p ≤ l.length ∧ ((flat rs).length ≤ m → j = rs.length ∧ p = l.length) ∧ Ev (fun k => frame_All.l0 k l out (at_ : Int)) (out ++ rs.take j, (p : Int), 0) := by
  intro rs
  induction rs with
  | nil =>
    intro m at_ out _ hd hat _
    have h0 : l.length - at_ = 0 := by
      have := congrArg List.length hd
      rw [List.length_drop] at this
      simpa [flat] using this
    refine ⟨0, at_, Nat.le_refl _, hat, fun _ => ⟨rfl, by omega⟩, ?_⟩
    rw [List.take_nil, List.append_nil]
    refine evDown ?_
    simp only [frame_All.l0, if_pos (show 0 ≤ (at_ : Int) by omega), if_pos (show (at_ : Int) ≤ (l.length : Int) by omega), Int.toNat_natCast, len_short (show (l.drop at_).length < 6 by rw [List.length_drop]; omega), Option.bind_some, if_pos (show ((l.drop at_).length : Int) < 6 by rw [List.length_drop]; omega)]
    refine evDown ?_
    simp only [frame_All.j1, if_true]
    exact Ev.now _
  | cons r rs ih =>
    intro m at_ out hr hd hat hout
    obtain ⟨h1, h2⟩ := hr r (List.mem_cons_self ..)
    have hr' : ∀ x ∈ rs, x.length ≤ 60 ∧ Byt x := fun y hy => hr y (List.mem_cons_of_mem _ hy)
    obtain ⟨z, hz⟩ : ∃ z, z = l.drop at_ := ⟨_, rfl⟩
    have hzl : z.length = l.length - at_ := by rw [hz, List.length_drop]
    have hzb : Byt z := by rw [hz]; exact hB.drop _
    have hzf : z = (rec_ r ++ flat rs).take m := by rw [hz]; exact hd
    have hzm : z.length = min m (r.length + 6 + (flat rs).length) := by rw [hzf, List.length_take, List.length_append, rec_len]
    have hfl : (flat (r :: rs)).length = r.length + 6 + (flat rs).length := by show (rec_ r ++ flat rs).length = _; rw [List.length_append, rec_len]
    have t1 : ((at_ : Int)).toNat = at_ := Int.toNat_natCast _
    rw [List.length_cons] at hout
    by_cases h6 : z.length < 6
    · refine ⟨0, at_, Nat.zero_le _, hat, fun h => by omega, ?_⟩
      rw [List.take_zero, List.append_nil]
      refine evDown ?_
      simp only [frame_All.l0, if_pos (show 0 ≤ (at_ : Int) by omega), if_pos (show (at_ : Int) ≤ (l.length : Int) by omega), t1, ← hz, len_short h6, Option.bind_some, if_pos (show (z.length : Int) < 6 by omega)]
      refine evDown ?_
      simp only [frame_All.j1, if_true]
      exact Ev.now _
    · obtain ⟨e1, e2⟩ := head_of (r := r) (m := flat rs) h1 (n := m) (by omega)
      rw [← hzf] at e1 e2
      by_cases hlong : z.length < r.length + 6
      · refine ⟨0, at_, Nat.zero_le _, hat, fun h => by omega, ?_⟩
        rw [List.take_zero, List.append_nil]
        refine evDown ?_
        simp only [frame_All.l0, if_pos (show 0 ≤ (at_ : Int) by omega), if_pos (show (at_ : Int) ≤ (l.length : Int) by omega), t1, ← hz, len_tells hzb (show 6 ≤ z.length by omega), e1, e2, Option.bind_some, if_neg (show ¬ (z.length : Int) < 6 by omega), if_true, wsub6 (show z.length ≤ 10000000 by omega), decide_eq_true (show (r.length : Int) > (z.length : Int) - 6 by omega)]
        refine evDown ?_
        simp only [frame_All.j1, if_true]
        exact Ev.now _
      · have hcut : (z.take (6 + r.length)).drop 6 = r := by
          rw [hzf, List.take_take, Nat.min_eq_left (by omega), show 6 + r.length = (rec_ r).length by rw [rec_len]; omega, List.take_left' rfl]
          unfold rec_
          rw [← List.append_assoc]
          exact List.drop_left' (by rw [List.length_append, be_len, be_len])
        have hd2 : l.drop (at_ + (6 + r.length)) = (flat rs).take (m - (6 + r.length)) := by
          rw [← List.drop_drop, ← hz, hzf, List.drop_take, List.drop_left' (by rw [rec_len]; omega)]
        obtain ⟨j, p, hj, hp, hall, e⟩ := ih (m - (6 + r.length)) (at_ + (6 + r.length)) (out ++ [r]) hr' hd2 (by omega) (by rw [List.length_append, List.length_singleton]; omega)
        refine ⟨j + 1, p, by rw [List.length_cons]; omega, hp, fun h => ?_, ?_⟩
        · obtain ⟨g1, g2⟩ := hall (by omega)
          exact ⟨by rw [List.length_cons]; omega, g2⟩
        · rw [List.take_succ_cons, show out ++ r :: rs.take j = (out ++ [r]) ++ rs.take j by rw [List.append_assoc]; rfl]
          refine evDown ?_
          simp only [frame_All.l0, if_pos (show 0 ≤ (at_ : Int) by omega), if_pos (show (at_ : Int) ≤ (l.length : Int) by omega), t1, ← hz, len_tells hzb (show 6 ≤ z.length by omega), e1, e2, Option.bind_some, if_neg (show ¬ (z.length : Int) < 6 by omega), if_true, wsub6 (show z.length ≤ 10000000 by omega), decide_eq_false (show ¬ (r.length : Int) > (z.length : Int) - 6 by omega)]
          refine evDown ?_
          simp only [frame_All.j1, Bool.false_eq_true, if_false, if_true, w6add (show r.length ≤ 10000000 by omega), if_pos (show 6 ≤ ((6 + r.length : Nat) : Int) by omega), if_pos (show ((6 + r.length : Nat) : Int) ≤ (z.length : Int) by omega), Int.toNat_natCast, hcut, slices_Clone_byte_byte.f, if_pos (show r.length < 140737488355328 by omega), Option.bind_some, if_pos (show out.length < 5864062014805 by omega), wadd (show at_ + (6 + r.length) ≤ 10000000 by omega)]
          exact e
theorem all_cut {w : List (List Int)} (hw : ∀ x ∈ w, x.length ≤ 60 ∧ Byt x) (hl : w.length ≤ 100) (m : Nat) : ∃ (j p : Nat), j ≤ w.length ∧ p ≤ ((flat w).take m).length ∧ ((flat w).length ≤ m → j = w.length ∧ p = (flat w).length) ∧ Ev (fun k => frame_All.f k ((flat w).take m)) (w.take j, (p : Int), 0) := by
  have hf := flat_len hw
  obtain ⟨j, p, h1, h2, h3, h4⟩ := all_flat (l := (flat w).take m) (by rw [List.length_take]; omega) ((flat_byt hw).take m) w m 0 [] hw rfl (Nat.zero_le _) (by simp; omega)
  refine ⟨j, p, h1, h2, fun h => ⟨(h3 h).1, by rw [(h3 h).2, List.length_take]; omega⟩, ?_⟩
  rw [List.nil_append] at h4
  exact h4
/-- The law's plain form. -/
def FrameBackPure : Prop := ∀ (l0 : List (List Int)) (l1 : List S49) (a2 : Int), (∀ x ∈ l0, ∀ y ∈ x, (Lit.int .u8 y).wf = true) → (∀ x ∈ l1, WfE x) → (Lit.int .i64 a2).wf = true → ∃ k, marigraphlaw4_FrameBack.f k l0 l1 a2 = some true
theorem known4b : Ev (fun k => marigraphlaw4_known.f k) true := Ev.of (k := 40) marigraphlaw4_known.mono (by decide +kernel)
theorem back_loop {w : List (List Int)} (hw : ∀ x ∈ w, x.length ≤ 60 ∧ Byt x) (hl : w.length ≤ 8) (l1 : List S49) (a2 : Int) (R : Bool) : ∀ (d j : Nat) (b : List Int), w.length - j = d → j ≤ w.length → b.length ≤ j * 66 → Ev (fun k => marigraphlaw4_FrameBack.l0 k w l1 a2 (b ++ flat (w.drop j)) (w.length : Int)) R → Ev (fun k => marigraphlaw4_FrameBack.l0 k w l1 a2 b (j : Int)) R := by
  intro d
  induction d with
  | zero =>
    intro j b hd hj hb hR
    obtain rfl : j = w.length := by omega
    rw [List.drop_of_length_le (Nat.le_refl _)] at hR
    rw [show b ++ flat [] = b by exact List.append_nil b] at hR
    exact hR
  | succ d ih =>
    intro j b hd hj hb hR
    have hlt : j < w.length := by omega
    obtain ⟨h1, h2⟩ := hw _ (List.getElem_mem hlt)
    have hrd := rdL_at hlt
    rw [List.drop_eq_getElem_cons hlt] at hR
    generalize w[j] = r at h1 h2 hrd hR
    refine evDown ?_
    simp only [marigraphlaw4_FrameBack.l0, if_pos (show (j : Int) < (w.length : Int) by omega), if_pos (show 0 ≤ (j : Int) by omega), hrd, wadd1 (show j ≤ 10000000 by omega)]
    refine Ev.bind (myPut_tells (b := b) (r := r) (by omega) (by omega)) ?_
    simp only [if_true]
    refine ih (j + 1) (b ++ rec_ r) (by omega) (by omega) (by rw [List.length_append, rec_len]; omega) ?_
    rw [List.append_assoc]
    exact hR
theorem FrameBack : FrameBackPure := by
  intro l0 l1 a2 h0 h1 h2
  obtain ⟨w, hw⟩ : ∃ w, w = (l0.take 8).map (fun x => cutI x 60) := ⟨_, rfl⟩
  have hwl : w.length ≤ 8 := by rw [hw, List.length_map, List.length_take]; omega
  have hwr : ∀ x ∈ w, x.length ≤ 60 ∧ Byt x := by
    intro x hx
    rw [hw] at hx
    obtain ⟨y, hy, rfl⟩ := List.mem_map.1 hx
    exact ⟨cutI_len _ _, cutI_byt (Byt.of_wf (h0 y (List.mem_of_mem_take hy))) _⟩
  have ef : Ev (fun k => marigraphlaw4_few.f k l0 8 60) w := by rw [hw]; exact few_tells l0 8 60 (by decide)
  have hfl := flat_len hwr
  obtain ⟨p, hp⟩ : ∃ p, p = (l1.take 12).map (normE 60 80) := ⟨_, rfl⟩
  have ep : Ev (fun k => marigraphkeep_Entries.f k l1 12 60 80) p := by rw [hp]; exact ent_tells l1 12 60 80 (by decide)
  have pl : p.length ≤ 12 := by rw [hp, List.length_map, List.length_take]; omega
  have ps : ∀ x ∈ p, SmE x := by
    intro x hx
    rw [hp] at hx
    obtain ⟨y, hy, rfl⟩ := List.mem_map.1 hx
    exact normE_sm (by decide) (by decide) (by decide) (h1 y (List.mem_of_mem_take hy))
  have e2 : Ev (fun k => marigraphlaw4_FrameBack.j2 k l1 false) true := by
    obtain ⟨b, hb, eb⟩ := esame_tells ps ps (by omega) (by omega)
    obtain rfl : b = true := hb.2 rfl
    refine evDown ?_
    simp only [marigraphlaw4_FrameBack.j2, Bool.false_eq_true, if_false]
    refine Ev.bind ep (Ev.bind (batch_tells ps (by omega)) (Ev.bind (entries_batch ps (by omega)) ?_))
    simp only [if_true]
    refine Ev.bind eb ?_
    simp only [if_true]
    exact Ev.bind known4b (Ev.now _)
  have e1 : Ev (fun k => marigraphlaw4_FrameBack.j1 k w l1 a2 (flat w) false) true := by
    obtain ⟨t, et, t0, t1, _⟩ := within_w (n := a2) (lo := 0) (hi := ((flat w).length : Int)) (by omega) (by omega) (by omega) (i64_of h2)
    obtain ⟨m, rfl⟩ := Int.eq_ofNat_of_zero_le t0
    obtain ⟨j, q, g1, g2, -, g4⟩ := all_cut hwr (by omega) m
    have hq : q ≤ (flat w).length := by rw [List.length_take] at g2; omega
    have htl : (w.take j).length = j := by rw [List.length_take]; omega
    refine evDown ?_
    simp only [marigraphlaw4_FrameBack.j1, Bool.false_eq_true, if_false]
    refine Ev.bind et ?_
    simp only [if_pos (show 0 ≤ (m : Int) by omega), if_pos t1, Int.toNat_natCast]
    refine Ev.bind g4 ?_
    simp only [if_true, if_neg (show ¬ (q : Int) > ((flat w).length : Int) by omega), htl, if_neg (show ¬ (j : Int) > (w.length : Int) by omega), if_pos (show 0 ≤ (j : Int) by omega), if_pos (show (j : Int) ≤ (w.length : Int) by omega), Int.toNat_natCast]
    refine Ev.bind (lists_same (w.take j) (by omega)) ?_
    exact e2
  have e0 : Ev (fun k => marigraphlaw4_FrameBack.l0 k w l1 a2 (flat w) (w.length : Int)) true := by
    obtain ⟨j, q, -, -, g3, g4⟩ := all_cut hwr (by omega) (flat w).length
    obtain ⟨rfl, rfl⟩ := g3 (Nat.le_refl _)
    rw [List.take_length, List.take_length] at g4
    refine evDown ?_
    simp only [marigraphlaw4_FrameBack.l0, if_neg (show ¬ (w.length : Int) < (w.length : Int) by omega)]
    refine Ev.bind g4 ?_
    simp only [if_true]
    refine Ev.bind (lists_same w (by omega)) ?_
    exact e1
  obtain ⟨K, hK⟩ : Ev (fun k => marigraphlaw4_FrameBack.f k l0 l1 a2) true := by
    unfold marigraphlaw4_FrameBack.f
    refine Ev.bind ef ?_
    refine back_loop hwr hwl l1 a2 true w.length 0 [] rfl (Nat.zero_le _) (Nat.zero_le _) ?_
    rw [List.drop_zero, List.nil_append]
    exact e0
  exact ⟨K, hK K (Nat.le_refl _)⟩

end Go.Proofs.Ytmimfnangdabmaa.Pure

/- FrameTells: rows of records are read as the document says: any bytes, rows with one byte turned, cut off. -/
import Derived.Test.YtmimfnangdabmaaPFrameTellsx0
import Derived.Test.YtmimfnangdabmaaPFrameTellsx1
import Derived.Test.YtmimfnangdabmaaPFrameTellsx2
import Derived.Test.YtmimfnangdabmaaPFrameTellsx3
import Derived.Test.YtmimfnangdabmaaPFrameTellsx4
import Derived.Test.YtmimfnangdabmaaPFrameTellsx5
namespace Go.Proofs.Ytmimfnangdabmaa.Pure
open Go.RowKit Go.Proofs.Ytmimfnangdabmaa.PFrameTells Go.Proofs.YtmimfnangdabmaaW.PrintWords Go.Proofs.YtmimfnangdabmaaW.PrintLast
set_option linter.unusedVariables false
set_option linter.unusedSimpArgs false

theorem i64_of {a : Int} (h : (Lit.int .i64 a).wf = true) : -9223372036854775808 ≤ a ∧ a ≤ 9223372036854775807 := by
  have h1 : IntKind.i64.min = -9223372036854775808 := rfl
  have h2 : IntKind.i64.max = 9223372036854775807 := rfl
  simp only [Lit.wf, Bool.and_eq_true, decide_eq_true_eq] at h
  omega
/-! ### bytes as whole numbers: in range, in order -/
def Byt (l : List Int) : Prop := ∀ x ∈ l, 0 ≤ x ∧ x ≤ 255
theorem Byt.of_wf {l : List Int} (h : ∀ x ∈ l, (Lit.int .u8 x).wf = true) : Byt l := by
  intro x hx
  have := h x hx
  have h1 : IntKind.u8.min = 0 := rfl
  have h2 : IntKind.u8.max = 255 := rfl
  simp only [Lit.wf, Bool.and_eq_true, decide_eq_true_eq] at this
  omega
theorem Byt.append {a b : List Int} (ha : Byt a) (hb : Byt b) : Byt (a ++ b) := by
  intro x hx
  rcases List.mem_append.1 hx with h | h
  · exact ha x h
  · exact hb x h
/-! ### Put -/
def be (n : Int) : Nat → List Int
  | 0 => []
  | s + 1 => (n / 2 ^ (8 * s)) % 256 :: be n s
theorem be_len (n : Int) (s : Nat) : (be n s).length = s := by induction s with | zero => rfl | succ s ih => simp [be, ih]
theorem be_byt (n : Int) (s : Nat) : Byt (be n s) := by
  induction s with
  | zero => intro x hx; cases hx
  | succ s ih =>
    intro x hx
    rcases List.mem_cons.1 hx with rfl | hx
    · omega
    · exact ih x hx
theorem wrap_8 (s : Nat) (h : s ≤ 8) : wrap64 (8 * (s : Int)) = ((8 * s : Nat) : Int) := by unfold wrap64; omega
theorem put_loop (n : Int) (s : Nat) : ∀ (k : Nat) (acc : List Int), s ≤ 8 → s < k → acc.length + s ≤ 140737488355328 → octet_Put.l0 k n acc ((s : Int) - 1) = some (acc ++ be n s) := by
  induction s with
  | zero =>
    intro k acc _ hk _
    obtain ⟨k, rfl⟩ : ∃ m, k = m + 1 := ⟨k - 1, by omega⟩
    simp only [octet_Put.l0]
    rw [if_neg (by omega)]
    simp [be]
  | succ s ih =>
    intro k acc hs hk hl
    obtain ⟨k, rfl⟩ : ∃ m, k = m + 1 := ⟨k - 1, by omega⟩
    have e : ((s + 1 : Nat) : Int) - 1 = (s : Int) := by omega
    rw [e]
    simp only [octet_Put.l0]
    rw [wrap_8 s (by omega), if_pos (by omega), if_pos (by omega), if_pos (by omega)]
    have e2 : wrap64 ((s : Int) - 1) = (s : Int) - 1 := by unfold wrap64; omega
    have e3 : shr .u64 n ((8 * s : Nat) : Int) = n / 2 ^ (8 * s) := by
      unfold shr
      have hb : IntKind.u64.bits = 64 := rfl
      rw [Int.toNat_natCast, hb, Nat.min_eq_left (by omega)]
    rw [e2, e3, ih k _ (by omega) (by omega) (by rw [List.length_append, List.length_singleton]; omega)]
    simp [be]
theorem put_tells (l : List Int) (n : Int) (s : Nat) (k : Nat) (hs : s ≤ 8) (hk : s < k) (hl : l.length + 8 ≤ 140737488355328) : octet_Put.f k l n (s : Int) = some (l ++ be n s) := by
  unfold octet_Put.f slices_Clone_byte_byte.f
  rw [if_pos (by omega)]
  simp only [Option.bind_some]
  have e : mx (mn (s : Int) 8) 0 = (s : Int) := by unfold mx mn; split <;> split <;> omega
  rw [e]
  exact put_loop n s k l hs hk (by omega)
/-! ### Get -/
theorem or_byte (q c : Int) (hq : 0 ≤ q) (hc : 0 ≤ c ∧ c ≤ 255) (hb : q * 256 + c < 18446744073709551616) : Go.bits .or .u64 (IntKind.u64.wrap (q * 256)) (IntKind.u64.wrap c) = q * 256 + c := by
  have w (x : Int) (h0 : 0 ≤ x) (h1 : x < 18446744073709551616) : IntKind.u64.wrap x = x := by
    have : IntKind.u64.wrap x = x % 18446744073709551616 := by simp [IntKind.wrap, IntKind.bits, IntKind.signed]
    rw [this]; exact Int.emod_eq_of_lt h0 h1
  rw [w _ (by omega) (by omega), w _ (by omega) (by omega)]
  exact bits_join .u64 64 (by decide) (fun x h0 h1 => w x h0 (by simpa using h1)) 8 _ _ (by omega) (by omega) (by show q * 256 < 18446744073709551616; omega) hc.1 (by show c < 256; omega) (by show c < 18446744073709551616; omega)
/-! ### Within -/
theorem within_w {n lo hi : Int} (h1 : -2199023255552 ≤ lo) (h2 : lo ≤ hi) (h3 : hi ≤ 2199023255552) (hn : -9223372036854775808 ≤ n ∧ n ≤ 9223372036854775807) : ∃ r, Ev (fun k => marigraphbook_Within.f k n lo hi) r ∧ lo ≤ r ∧ r ≤ hi ∧ (lo ≤ n → n ≤ hi → r = n) := by
  have e1 : wrap64 (wrap64 (hi - lo) + 1) = hi - lo + 1 := by unfold wrap64; omega
  have hj : ∀ b : Bool, (b = true ↔ (lo ≤ n ∧ n ≤ hi)) → ∃ r, (∀ k, marigraphbook_Within.j0 (k + 1) n lo hi b = some r) ∧ lo ≤ r ∧ r ≤ hi ∧ (lo ≤ n → n ≤ hi → r = n) := by
    intro b hb
    simp only [marigraphbook_Within.j0, e1]
    cases b with
    | true =>
      have := hb.1 rfl
      exact ⟨n, fun _ => by rw [if_pos rfl], this.1, this.2, fun _ _ => rfl⟩
    | false =>
      have hno : ¬ (lo ≤ n ∧ n ≤ hi) := fun h => by have := hb.2 h; cases this
      simp only [Bool.false_eq_true, if_false]
      rw [if_neg (by omega)]
      have hm : (0 : Int) < hi - lo + 1 := by omega
      have t1 : Int.tmod n (hi - lo + 1) < hi - lo + 1 := Int.tmod_lt_of_pos _ hm
      have t2 : -(hi - lo + 1) < Int.tmod n (hi - lo + 1) := by
        have := Int.tmod_lt_of_pos (-n) hm
        rw [Int.neg_tmod] at this
        omega
      generalize Int.tmod n (hi - lo + 1) = t at *
      by_cases ht : t < 0
      · rw [if_pos ht]
        have e : wrap64 (lo + wrap64 (wrap64 (wrap64 (t + hi) - lo) + 1)) = t + hi + 1 := by unfold wrap64; omega
        rw [e]
        exact ⟨_, fun _ => rfl, by omega, by omega, fun a b => absurd ⟨a, b⟩ hno⟩
      · rw [if_neg ht]
        have e : wrap64 (lo + t) = lo + t := by unfold wrap64; omega
        rw [e]
        exact ⟨_, fun _ => rfl, by omega, by omega, fun a b => absurd ⟨a, b⟩ hno⟩
  have fin : ∀ b : Bool, (∀ k, marigraphbook_Within.f k n lo hi = marigraphbook_Within.j0 k n lo hi b) → (b = true ↔ (lo ≤ n ∧ n ≤ hi)) → ∃ r, Ev (fun k => marigraphbook_Within.f k n lo hi) r ∧ lo ≤ r ∧ r ≤ hi ∧ (lo ≤ n → n ≤ hi → r = n) := by
    intro b hf hb
    obtain ⟨r, h, hr⟩ := hj b hb
    refine ⟨r, ⟨1, fun k hk => ?_⟩, hr⟩
    obtain ⟨k, rfl⟩ : ∃ m, k = m + 1 := ⟨k - 1, by omega⟩
    show marigraphbook_Within.f (k + 1) n lo hi = some r
    rw [hf]
    exact h k
  by_cases hlo : n ≥ lo
  · refine fin (decide (n ≤ hi)) (fun k => by unfold marigraphbook_Within.f; rw [if_pos hlo]) ?_
    rw [decide_eq_true_iff]
    exact ⟨fun h => ⟨hlo, h⟩, fun h => h.2⟩
  · refine fin false (fun k => by unfold marigraphbook_Within.f; rw [if_neg hlo]) ?_
    constructor
    · intro h; cases h
    · intro h; omega
/-! ### the document's Put and Get -/
theorem wrap_nxt {n : Nat} (h : n < 1000000) : wrap64 ((n : Int) + 1) = ((n + 1 : Nat) : Int) := by unfold wrap64; omega
theorem rput_loop (n : Int) (s : Nat) : ∀ (acc : List Int), s ≤ 8 → acc.length + s ≤ 140737488355328 → Ev (fun k => marigraphref2_Put.l0 k n acc ((s : Int) - 1)) (acc ++ be n s) := by
  induction s with
  | zero =>
    intro acc _ _
    refine Ev.step (f := fun _ => some (acc ++ be n 0)) (fun k => ?_) (Ev.now _)
    simp only [marigraphref2_Put.l0]
    rw [if_neg (by omega)]
    simp [be]
  | succ s ih =>
    intro acc hs hl
    have e : ((s + 1 : Nat) : Int) - 1 = (s : Int) := by omega
    have ew : IntKind.u64.wrap (wrap64 (8 * (s : Int))) = ((8 * s : Nat) : Int) := by rw [wrap_8 s (by omega), IntKind.wrap_u64]; omega
    have e2 : wrap64 ((s : Int) - 1) = (s : Int) - 1 := by unfold wrap64; omega
    have e3 : shr .u64 n ((8 * s : Nat) : Int) = n / 2 ^ (8 * s) := by
      unfold shr
      have hb : IntKind.u64.bits = 64 := rfl
      rw [Int.toNat_natCast, hb, Nat.min_eq_left (by omega)]
    have hi := ih (acc ++ [n / 2 ^ (8 * s) % 256]) (by omega) (by rw [List.length_append, List.length_singleton]; omega)
    rw [List.append_assoc] at hi
    rw [e]
    refine Ev.step (fun k => ?_) hi
    simp only [marigraphref2_Put.l0]
    rw [ew, if_pos (by omega), if_pos (by omega), if_pos (by omega), e2, e3]
theorem rput_tells (l : List Int) (n : Int) (s : Nat) (hs : s ≤ 8) (hl : l.length + 8 ≤ 140737488355328) : Ev (fun k => marigraphref2_Put.f k l n (s : Int)) (l ++ be n s) := by
  have e : mx (mn (s : Int) 8) 0 = (s : Int) := by unfold mx mn; split <;> split <;> omega
  unfold marigraphref2_Put.f
  simp only [Option.bind_some, List.length_nil, Nat.zero_add, List.nil_append, e, if_pos (show l.length < 140737488355328 by omega)]
  exact rput_loop n s l hs (by omega)
theorem get_loop (l : List Int) (s : Nat) (hl : s ≤ l.length) (h8 : s ≤ 8) : ∀ (d j : Nat), d + j = s → Ev (fun k => marigraphref2_Get.l0 k l (s : Int) (getI 0 (l.take j)) (j : Int)) (getI 0 (l.take s), true) := by
  intro d
  induction d with
  | zero =>
    intro j hj
    obtain rfl : j = s := by omega
    refine Ev.step (f := fun _ => some (getI 0 (l.take j), true)) (fun k => ?_) (Ev.now _)
    simp only [marigraphref2_Get.l0]
    rw [if_neg (by omega)]
  | succ d ih =>
    intro j hj
    have hlt : j < l.length := by omega
    have e : getI 0 (l.take (j + 1)) = Go.bits .or .u64 (IntKind.u64.wrap (getI 0 (l.take j) * 256)) (IntKind.u64.wrap (rd l (j : Int))) := by
      rw [List.take_add_one, List.getElem?_eq_getElem hlt, Option.toList_some, getI_snoc]
      unfold rd
      rw [Int.toNat_natCast, List.getD_eq_getElem?_getD, List.getElem?_eq_getElem hlt]
      rfl
    have hi := ih (j + 1) (by omega)
    rw [e] at hi
    refine Ev.step (fun k => ?_) hi
    simp only [marigraphref2_Get.l0]
    rw [if_pos (by omega), if_pos (by omega), if_pos (by omega), wrap_nxt (by omega)]
theorem rget_tells (l : List Int) (s : Nat) (h8 : s ≤ 8) (hl : s ≤ l.length) : Ev (fun k => marigraphref2_Get.f k l (s : Int)) (getI 0 (l.take s), true) := by
  unfold marigraphref2_Get.f
  simp only [if_neg (show ¬ (s : Int) < 0 by omega), if_neg (show ¬ (s : Int) > 8 by omega), decide_eq_false (show ¬ (l.length : Int) < (s : Int) by omega)]
  refine Ev.step (fun k => ?_) (get_loop l s hl h8 s 0 rfl)
  simp only [marigraphref2_Get.j0]
  rw [if_neg (by decide)]
  rfl
theorem same_loop (l : List Int) (hl : l.length ≤ 1000) : ∀ (d j : Nat), j + d = l.length → Ev (fun k => marigraphbook_Same_byte.l0 k l l (j : Int)) true := by
  intro d
  induction d with
  | zero =>
    intro j hj
    refine Ev.step (f := fun _ => some true) (fun k => ?_) (Ev.now _)
    simp only [marigraphbook_Same_byte.l0]
    rw [if_neg (by omega)]
  | succ d ih =>
    intro j hj
    have e2 : wrap64 ((j : Int) + 1) = ((j + 1 : Nat) : Int) := by unfold wrap64; omega
    refine Ev.step (fun k => ?_) (ih (j + 1) (by omega))
    simp only [marigraphbook_Same_byte.l0]
    rw [if_pos (by omega), if_pos (by omega), if_pos (by omega), if_pos trivial, e2]
theorem intact_loop (a : List Int) (m : Int) (hl : a.length ≤ 1000) : ∀ (d j : Nat), j + d = 80 → Ev (fun k => marigraphbook_Intact_byte.l0 k (a ++ List.replicate 80 m) m ((a.length + j : Nat) : Int)) true := by
  have hlen : (a ++ List.replicate 80 m).length = a.length + 80 := by rw [List.length_append, List.length_replicate]
  intro d
  induction d with
  | zero =>
    intro j hj
    refine Ev.step (f := fun _ => some true) (fun k => ?_) (Ev.now _)
    simp only [marigraphbook_Intact_byte.l0]
    rw [if_neg (by omega)]
  | succ d ih =>
    intro j hj
    have hr : rd (a ++ List.replicate 80 m) ((a.length + j : Nat) : Int) = m := by
      unfold rd
      rw [Int.toNat_natCast, List.getD_eq_getElem?_getD, List.getElem?_append_right (Nat.le_add_right _ _), Nat.add_sub_cancel_left, List.getElem?_replicate, if_pos (by omega)]
      rfl
    have e2 : wrap64 (((a.length + j : Nat) : Int) + 1) = ((a.length + (j + 1) : Nat) : Int) := by unfold wrap64; omega
    refine Ev.step (fun k => ?_) (ih (j + 1) (by omega))
    simp only [marigraphbook_Intact_byte.l0]
    rw [if_pos (by omega), if_pos (by omega), if_pos hr, e2]
theorem Intact_tells (a : List Int) (m : Int) (hl : a.length ≤ 1000) : Ev (fun k => marigraphbook_Intact_byte.f k (a ++ List.replicate 80 m) a m) true := by
  have hlen : (a ++ List.replicate 80 m).length = a.length + 80 := by rw [List.length_append, List.length_replicate]
  have e1 : ((a ++ List.replicate 80 m).length : Int) = wrap64 ((a.length : Int) + 80) := by rw [hlen]; unfold wrap64; omega
  have ht : (a ++ List.replicate 80 m).take a.length = a := List.take_left' rfl
  have hi := intact_loop a m hl 80 0 (by omega)
  unfold marigraphbook_Intact_byte.f
  simp only [if_pos e1, if_pos (show 0 ≤ (a.length : Int) by omega), if_pos (show (a.length : Int) ≤ ((a ++ List.replicate 80 m).length : Int) by omega), Int.toNat_natCast, ht]
  have hs : Ev (fun k => marigraphbook_Same_byte.f k a a) true := by
    unfold marigraphbook_Same_byte.f
    simp only [if_true]
    exact same_loop a hl a.length 0 (by omega)
  refine Ev.bind hs ?_
  refine Ev.step (fun k => ?_) hi
  simp only [marigraphbook_Intact_byte.j0, Bool.not_true]
  rw [if_neg (by decide)]
  rfl
/-! ### a number and its other half -/
theorem xor_nat {a b : Nat} (ha : a < 16777216) (hb : b < 16777216) : Go.bits .xor .u64 (a : Int) (b : Int) = ((a ^^^ b : Nat) : Int) := by
  have ha' : a % 2 ^ 64 = a := Nat.mod_eq_of_lt (by omega)
  have hb' : b % 2 ^ 64 = b := Nat.mod_eq_of_lt (by omega)
  have hx : a ^^^ b < 2 ^ 24 := Nat.xor_lt_two_pow (by omega) (by omega)
  have hbits : IntKind.u64.bits = 64 := rfl
  simp only [Go.bits, hbits, BitVec.ofInt_natCast, BitVec.toNat_xor, BitVec.toNat_ofNat, ha', hb']
  have : IntKind.u64.wrap ((a ^^^ b : Nat) : Int) = ((a ^^^ b : Nat) : Int) % 18446744073709551616 := by simp [IntKind.wrap, IntKind.bits, IntKind.signed]
  rw [this]
  exact Int.emod_eq_of_lt (by omega) (by omega)
theorem xor_half {a b : Nat} (ha : a < 16777216) (hb : b < 16777216) : a ^^^ b = 16777215 ↔ a + b = 16777215 := by
  have hx : (BitVec.ofNat 24 a).toNat = a := by rw [BitVec.toNat_ofNat]; exact Nat.mod_eq_of_lt ha
  have hy : (BitVec.ofNat 24 b).toNat = b := by rw [BitVec.toNat_ofNat]; exact Nat.mod_eq_of_lt hb
  have hn : (~~~(BitVec.ofNat 24 a)).toNat = 2 ^ 24 - 1 - a := by rw [BitVec.toNat_not, hx]
  have ho : (BitVec.allOnes 24).toNat = 2 ^ 24 - 1 := BitVec.toNat_allOnes
  constructor
  · intro h
    have h1 : BitVec.ofNat 24 a ^^^ BitVec.ofNat 24 b = BitVec.allOnes 24 := BitVec.eq_of_toNat_eq (by rw [BitVec.toNat_xor, hx, hy, h, ho])
    have h2 : BitVec.ofNat 24 b = ~~~(BitVec.ofNat 24 a) := by
      rw [← BitVec.xor_allOnes, ← h1, ← BitVec.xor_assoc, BitVec.xor_self, BitVec.zero_xor]
    have h3 := congrArg BitVec.toNat h2
    rw [hy, hn] at h3
    omega
  · intro h
    have h2 : BitVec.ofNat 24 b = ~~~(BitVec.ofNat 24 a) := BitVec.eq_of_toNat_eq (by rw [hy, hn]; omega)
    have h1 : BitVec.ofNat 24 a ^^^ BitVec.ofNat 24 b = BitVec.allOnes 24 := by rw [h2, ← BitVec.xor_allOnes, ← BitVec.xor_assoc, BitVec.xor_self, BitVec.zero_xor]
    have h3 := congrArg BitVec.toNat h1
    rw [BitVec.toNat_xor, hx, hy, ho] at h3
    exact h3
theorem xor_sum {n m : Int} (hn : 0 ≤ n ∧ n < 16777216) (hm : 0 ≤ m ∧ m < 16777216) : Go.bits .xor .u64 n m = 16777215 ↔ n + m = 16777215 := by
  obtain ⟨a, rfl⟩ := Int.eq_ofNat_of_zero_le hn.1
  obtain ⟨b, rfl⟩ := Int.eq_ofNat_of_zero_le hm.1
  rw [xor_nat (by omega) (by omega)]
  have := xor_half (a := a) (b := b) (by omega) (by omega)
  omega
theorem xor_less {n : Int} (hn : 0 ≤ n ∧ n < 16777216) : Go.bits .xor .u64 n 16777215 = 16777215 - n := by
  obtain ⟨a, rfl⟩ := Int.eq_ofNat_of_zero_le hn.1
  have h := (xor_half (a := a) (b := 16777215 - a) (by omega) (by omega)).2 (by omega)
  have e := xor_nat (a := a) (b := 16777215) (by omega) (by omega)
  have h2 : a ^^^ 16777215 = 16777215 - a := by
    have h3 : a ^^^ (a ^^^ (16777215 - a)) = 16777215 - a := by rw [← Nat.xor_assoc, Nat.xor_self, Nat.zero_xor]
    rwa [h] at h3
  rw [show (16777215 : Int) = ((16777215 : Nat) : Int) from rfl, e, h2]
  omega
/-! ### records in a row of bytes: both read alike, whatever the bytes are -/
theorem evDown {α : Type} {g : Nat → Option α} {r : α} (h : Ev (fun k => g (k + 1)) r) : Ev g r := let ⟨K, hK⟩ := h; ⟨K + 1, fun k hk => by
  obtain ⟨m, rfl⟩ : ∃ m, k = m + 1 := ⟨k - 1, by omega⟩
  exact hK m (by omega)⟩
def v3 (l : List Int) : Int := getI 0 (l.take 3)
theorem v3_in {l : List Int} (h : Byt l) (hl : 3 ≤ l.length) : 0 ≤ v3 l ∧ v3 l < 16777216 := by
  match l, hl with
  | x :: y :: z :: r, _ =>
    have hx := h x (by simp)
    have hy := h y (by simp)
    have hz := h z (by simp)
    have e1 := or_byte 0 x (by decide) hx (by omega)
    have e2 := or_byte x y hx.1 hy (by omega)
    have e3 := or_byte (x * 256 + y) z (by omega) hz (by omega)
    show 0 ≤ getI 0 [x, y, z] ∧ getI 0 [x, y, z] < 16777216
    rw [getI, getI, getI, getI, e1, show (0 : Int) * 256 + x = x by omega, e2, e3]
    omega
  | [], hl => simp at hl
  | [_], hl => simp at hl
  | [_, _], hl => simp at hl
theorem Byt.drop {l : List Int} (h : Byt l) (n : Nat) : Byt (l.drop n) := fun x hx => h x (List.mem_of_mem_drop hx)
theorem Byt.take {l : List Int} (h : Byt l) (n : Nat) : Byt (l.take n) := fun x hx => h x (List.mem_of_mem_take hx)
theorem get3 {l : List Int} (hl : 3 ≤ l.length) : octet_Get.f l 3 = some (v3 l, true) := by
  unfold octet_Get.f v3
  rw [if_neg (by decide), if_neg (by decide), if_neg (by omega)]
  rfl
theorem get3_not {l : List Int} (hl : l.length < 3) : octet_Get.f l 3 = some (0, false) := by
  unfold octet_Get.f
  rw [if_neg (by decide), if_neg (by decide), if_pos (by omega)]
theorem len_short {l : List Int} (hl : l.length < 6) : frame_length.f l = some (0, false) := by
  unfold frame_length.f
  by_cases h : l.length < 3
  · rw [get3_not h]; rfl
  · rw [get3 (by omega)]
    simp only [Option.bind_some, if_true, if_pos (show (l.length : Int) < 6 by omega)]
/-- What a head says: how many bytes; may it be? -/
def headOk (l : List Int) : Bool := decide (v3 l + v3 (l.drop 3) = 16777215) && decide (v3 l ≤ 1048576)
theorem len_tells {l : List Int} (h : Byt l) (hl : 6 ≤ l.length) : frame_length.f l = some (v3 l, headOk l) := by
  have h1 := v3_in h (by omega)
  have h2 := v3_in (h.drop 3) (by rw [List.length_drop]; omega)
  have hx := xor_sum h1 h2
  have hw : wrap64 (v3 l) = v3 l := by unfold wrap64; omega
  unfold frame_length.f headOk
  rw [get3 (by omega)]
  simp only [Option.bind_some, if_true, if_neg (show ¬ (l.length : Int) < 6 by omega), if_pos (show 3 ≤ (l.length : Int) by omega), get3 (l := l.drop 3) (by rw [List.length_drop]; omega), hw]
  by_cases he : v3 l + v3 (l.drop 3) = 16777215
  · rw [if_pos (hx.2 he), decide_eq_true he, Bool.true_and]
  · rw [if_neg (fun h => he (hx.1 h)), decide_eq_false he, Bool.false_and]
theorem wsub {L a : Nat} (h : a ≤ L) (hL : L ≤ 10000000) : wrap64 ((L : Int) - (a : Int)) = ((L - a : Nat) : Int) := by unfold wrap64; omega
theorem wadd {a c : Nat} (h : a + c ≤ 10000000) : wrap64 ((a : Int) + (c : Int)) = ((a + c : Nat) : Int) := by unfold wrap64; omega
theorem wadd1 {a : Nat} (h : a ≤ 10000000) : wrap64 ((a : Int) + 1) = ((a + 1 : Nat) : Int) := by unfold wrap64; omega
theorem wadd3 {a : Nat} (h : a ≤ 10000000) : wrap64 ((a : Int) + 3) = ((a + 3 : Nat) : Int) := by unfold wrap64; omega
theorem wadd6 {a : Nat} (h : a ≤ 10000000) : wrap64 ((a : Int) + 6) = ((a + 6 : Nat) : Int) := by unfold wrap64; omega
theorem w6add {a : Nat} (h : a ≤ 10000000) : wrap64 (6 + (a : Int)) = ((6 + a : Nat) : Int) := by unfold wrap64; omega
theorem wsub6 {a : Nat} (h : a ≤ 10000000) : wrap64 ((a : Int) - 6) = (a : Int) - 6 := by unfold wrap64; omega
theorem wid {x : Int} (h0 : 0 ≤ x) (h1 : x ≤ 10000000000) : wrap64 x = x := by unfold wrap64; omega
theorem all_loops {l : List Int} (h : Byt l) (hlen : l.length ≤ 100000) : ∀ (n at_ : Nat) (out : List (List Int)), l.length - at_ < n → at_ ≤ l.length → out.length ≤ at_ →
    ∃ (o : List (List Int)) (p : Int) (ok : Bool), o.length ≤ l.length ∧ Ev (fun k => frame_All.l0 k l out (at_ : Int)) (o, p, if ok then 0 else 14) ∧ Ev (fun k => marigraphref4_All.l0 k l out (at_ : Int)) (o, p, ok) := by
  intro n
  induction n with
  | zero => intro at_ out hn; exact absurd hn (Nat.not_lt_zero _)
  | succ n ih =>
    intro at_ out hn hat hout
    obtain ⟨z, hz⟩ : ∃ z, z = l.drop at_ := ⟨_, rfl⟩
    have hzl : z.length = l.length - at_ := by rw [hz, List.length_drop]
    have hzb : Byt z := by rw [hz]; exact h.drop _
    have t1 : ((at_ : Int)).toNat = at_ := Int.toNat_natCast _
    by_cases h6 : z.length < 6
    · refine ⟨out, at_, true, by omega, ?_, ?_⟩
      · refine evDown ?_
        simp only [frame_All.l0, if_pos (show 0 ≤ (at_ : Int) by omega), if_pos (show (at_ : Int) ≤ (l.length : Int) by omega), t1, ← hz, len_short h6, Option.bind_some, if_pos (show (z.length : Int) < 6 by omega)]
        refine evDown ?_
        simp only [frame_All.j1, if_true]
        exact Ev.now _
      · refine evDown ?_
        simp only [marigraphref4_All.l0, wsub hat (show l.length ≤ 10000000 by omega), ← hzl, if_pos (show (z.length : Int) < 6 by omega)]
        exact Ev.now _
    · have hb := v3_in hzb (by omega)
      have hb2 := v3_in (hzb.drop 3) (by rw [List.length_drop]; omega)
      have d3 : l.drop (at_ + 3) = z.drop 3 := by rw [hz, List.drop_drop]
      have us : IntKind.u64.wrap (v3 z + v3 (z.drop 3)) = v3 z + v3 (z.drop 3) := by
        have : IntKind.u64.wrap (v3 z + v3 (z.drop 3)) = (v3 z + v3 (z.drop 3)) % 18446744073709551616 := by simp [IntKind.wrap, IntKind.bits, IntKind.signed]
        rw [this]; exact Int.emod_eq_of_lt (by omega) (by omega)
      have rg1 : Ev (fun k => marigraphref2_Get.f k z 3) (v3 z, true) := rget_tells z 3 (by decide) (by omega)
      have rg2 : Ev (fun k => marigraphref2_Get.f k (z.drop 3) 3) (v3 (z.drop 3), true) := rget_tells (z.drop 3) 3 (by decide) (by rw [List.length_drop]; omega)
      have mine : ∀ R, Ev (fun k => if headOk z = true then (frame_All.j1 k l out (at_ : Int) z (v3 z) true (decide (v3 z > (z.length : Int) - 6))) else (frame_All.j1 k l out (at_ : Int) z (v3 z) false false)) R → Ev (fun k => frame_All.l0 k l out (at_ : Int)) R := by
        intro R hR
        refine evDown ?_
        simp only [frame_All.l0, if_pos (show 0 ≤ (at_ : Int) by omega), if_pos (show (at_ : Int) ≤ (l.length : Int) by omega), t1, ← hz, len_tells hzb (show 6 ≤ z.length by omega), Option.bind_some, if_neg (show ¬ (z.length : Int) < 6 by omega), wsub6 (show z.length ≤ 10000000 by omega)]
        cases hh : headOk z with
        | true => rw [hh] at hR; exact hR
        | false => rw [hh] at hR; exact hR
      have theirs : ∀ R, Ev (fun k => if v3 z + v3 (z.drop 3) = 16777215 then (marigraphref4_All.j1 k l out (at_ : Int) (v3 z) (decide (v3 z > 1048576))) else (marigraphref4_All.j1 k l out (at_ : Int) (v3 z) true)) R → Ev (fun k => marigraphref4_All.l0 k l out (at_ : Int)) R := by
        intro R hR
        refine evDown ?_
        simp only [marigraphref4_All.l0, wsub hat (show l.length ≤ 10000000 by omega), ← hzl, if_neg (show ¬ (z.length : Int) < 6 by omega), if_pos (show 0 ≤ (at_ : Int) by omega), if_pos (show (at_ : Int) ≤ (l.length : Int) by omega), t1, ← hz, wadd3 (show at_ ≤ 10000000 by omega), if_pos (show 0 ≤ ((at_ + 3 : Nat) : Int) by omega), if_pos (show ((at_ + 3 : Nat) : Int) ≤ (l.length : Int) by omega), Int.toNat_natCast, d3]
        refine Ev.bind rg1 (Ev.bind rg2 ?_)
        simp only [us]
        exact hR
      by_cases hok : headOk z = true
      · have hok2 := hok
        unfold headOk at hok2
        simp only [Bool.and_eq_true, decide_eq_true_eq] at hok2
        obtain ⟨hs, hle⟩ := hok2
        by_cases hlong : v3 z > (z.length : Int) - 6
        · refine ⟨out, at_, true, by omega, mine _ ?_, theirs _ ?_⟩
          · simp only [if_pos hok, decide_eq_true hlong]
            refine evDown ?_
            simp only [frame_All.j1, if_true]
            exact Ev.now _
          · simp only [if_pos hs, decide_eq_false (show ¬ v3 z > 1048576 by omega)]
            refine evDown ?_
            simp only [marigraphref4_All.j1, Bool.false_eq_true, if_false, wsub hat (show l.length ≤ 10000000 by omega), ← hzl, wsub6 (show z.length ≤ 10000000 by omega), wid hb.1 (show v3 z ≤ 10000000000 by omega), if_pos (show (z.length : Int) - 6 < v3 z by omega)]
            exact Ev.now _
        · obtain ⟨q, hq⟩ := Int.eq_ofNat_of_zero_le hb.1
          have hq2 : 6 + q ≤ z.length := by omega
          have hcut : (l.take (at_ + 6 + q)).drop (at_ + 6) = (z.take (6 + q)).drop 6 := by
            rw [hz, List.take_drop, List.drop_drop, show at_ + (6 + q) = at_ + 6 + q by omega]
          obtain ⟨o, p, ok, ho, e1, e2⟩ := ih (at_ + 6 + q) (out ++ [(z.take (6 + q)).drop 6]) (by omega) (by omega) (by rw [List.length_append, List.length_singleton]; omega)
          have hcl : ((z.take (6 + q)).drop 6).length ≤ 100000 := by rw [List.length_drop, List.length_take]; omega
          refine ⟨o, p, ok, ho, mine _ ?_, theirs _ ?_⟩
          · simp only [if_pos hok, decide_eq_false hlong]
            refine evDown ?_
            rw [hq]
            simp only [frame_All.j1, Bool.false_eq_true, if_false, if_true, w6add (show q ≤ 10000000 by omega), if_pos (show 6 ≤ ((6 + q : Nat) : Int) by omega), if_pos (show ((6 + q : Nat) : Int) ≤ (z.length : Int) by omega), Int.toNat_natCast, slices_Clone_byte_byte.f, wadd (show at_ + (6 + q) ≤ 10000000 by omega)]
            simp only [if_pos (show ((z.take (6 + q)).drop 6).length < 140737488355328 by omega), Option.bind_some, if_pos (show out.length < 5864062014805 by omega)]
            rw [show at_ + (6 + q) = at_ + 6 + q by omega]
            exact e1
          · simp only [if_pos hs, decide_eq_false (show ¬ v3 z > 1048576 by omega)]
            refine evDown ?_
            rw [hq] at hlong ⊢
            simp only [marigraphref4_All.j1, Bool.false_eq_true, if_false, wsub hat (show l.length ≤ 10000000 by omega), ← hzl, wsub6 (show z.length ≤ 10000000 by omega), wid (show 0 ≤ (q : Int) by omega) (show (q : Int) ≤ 10000000000 by omega), if_neg (show ¬ (z.length : Int) - 6 < (q : Int) by omega), Option.bind_some, wadd6 (show at_ ≤ 10000000 by omega), wadd (show at_ + 6 + q ≤ 10000000 by omega), if_pos (show 0 ≤ ((at_ + 6 : Nat) : Int) by omega), if_pos (show ((at_ + 6 : Nat) : Int) ≤ ((at_ + 6 + q : Nat) : Int) by omega), if_pos (show ((at_ + 6 + q : Nat) : Int) ≤ (l.length : Int) by omega), Int.toNat_natCast, hcut, List.length_nil, List.nil_append]
            simp only [if_pos (show 0 + ((z.take (6 + q)).drop 6).length < 140737488355328 by omega), if_pos (show out.length < 5864062014805 by omega)]
            exact e2
      · refine ⟨out, at_, false, by omega, mine _ ?_, theirs _ ?_⟩
        · simp only [if_neg hok]
          refine evDown ?_
          simp only [frame_All.j1, Bool.false_eq_true, if_false]
          exact Ev.now _
        · have e : Ev (fun k => marigraphref4_All.j1 k l out (at_ : Int) (v3 z) true) (out, (at_ : Int), false) := by
            refine evDown ?_
            simp only [marigraphref4_All.j1, if_true]
            exact Ev.now _
          unfold headOk at hok
          by_cases hs : v3 z + v3 (z.drop 3) = 16777215
          · have hle : v3 z > 1048576 := by
              rw [decide_eq_true hs, Bool.true_and, decide_eq_true_eq] at hok
              omega
            simp only [if_pos hs, decide_eq_true hle]
            exact e
          · simp only [if_neg hs]
            exact e
theorem lists_loop (o : List (List Int)) (ho : o.length ≤ 100000) : ∀ n j : Nat, o.length - j = n → j ≤ o.length → Ev (fun k => marigraphkeep_Lists.l0 k o o (j : Int)) true := by
  intro n
  induction n with
  | zero =>
    intro j hj hle
    refine evDown ?_
    simp only [marigraphkeep_Lists.l0, if_neg (show ¬ (j : Int) < (o.length : Int) by omega)]
    exact Ev.now _
  | succ n ih =>
    intro j hj hle
    have hw : wrap64 ((j : Int) + 1) = ((j + 1 : Nat) : Int) := by unfold wrap64; omega
    refine evDown ?_
    simp only [marigraphkeep_Lists.l0, if_pos (show (j : Int) < (o.length : Int) by omega), if_pos (show 0 ≤ (j : Int) by omega), if_true, hw]
    exact ih (j + 1) (by omega) (by omega)
theorem lists_same (o : List (List Int)) (ho : o.length ≤ 100000) : Ev (fun k => marigraphkeep_Lists.f k o o) true := by
  unfold marigraphkeep_Lists.f
  simp only [if_true]
  exact lists_loop o ho o.length 0 rfl (Nat.zero_le _)
theorem all_any {l : List Int} (h : Byt l) (hlen : l.length ≤ 100000) : Ev (fun k => marigraphlaw4_all.f k l) true := by
  obtain ⟨o, p, ok, ho, e1, e2⟩ := all_loops h hlen (l.length + 1) 0 [] (by omega) (Nat.zero_le _) (Nat.le_refl _)
  unfold marigraphlaw4_all.f
  refine Ev.bind (show Ev (fun k => frame_All.f k l) _ from e1) (Ev.bind (show Ev (fun k => marigraphref4_All.f k l) _ from e2) ?_)
  simp only [if_true]
  cases ok with
  | true =>
    simp only [if_true, beq_self_eq_true]
    exact Ev.bind (lists_same o (by omega)) (Ev.now _)
  | false =>
    simp only [Bool.false_eq_true, if_false, if_true, show ((14 : Int) == 0) = false from rfl, beq_self_eq_true]
    exact Ev.bind (lists_same o (by omega)) (Ev.now _)
theorem cutI_byt {a : List Int} (h : Byt a) (n : Nat) : Byt (cutI a n) := by
  unfold cutI
  split
  · exact h.take n
  · exact h
theorem cutI_len (a : List Int) (n : Nat) : (cutI a n).length ≤ n := by
  unfold cutI
  split
  · rw [List.length_take]; omega
  · omega
theorem cut_tells {a : List Int} {n : Int} (hn : 0 ≤ n) : marigraphkeep_Cut.f a n = some (cutI a n.toNat) := by
  obtain ⟨m, rfl⟩ := Int.eq_ofNat_of_zero_le hn
  unfold marigraphkeep_Cut.f cutI
  rw [Int.toNat_natCast]
  by_cases h : (a.length : Int) > (m : Int)
  · rw [if_pos h, if_pos (by omega), if_pos (by omega), if_pos (by omega)]
  · rw [if_neg h, if_neg (by omega)]
theorem u64w {x : Int} (h0 : 0 ≤ x) (h1 : x < 18446744073709551616) : IntKind.u64.wrap x = x := by
  have : IntKind.u64.wrap x = x % 18446744073709551616 := by simp [IntKind.wrap, IntKind.bits, IntKind.signed]
  rw [this]; exact Int.emod_eq_of_lt h0 h1
/-- A record's head and the record. -/
def rec_ (r : List Int) : List Int := be (r.length : Int) 3 ++ (be (16777215 - (r.length : Int)) 3 ++ r)
theorem rec_len (r : List Int) : (rec_ r).length = r.length + 6 := by
  unfold rec_
  rw [List.length_append, List.length_append, be_len, be_len]
  omega
theorem rec_byt {r : List Int} (h : Byt r) : Byt (rec_ r) := (be_byt _ _).append ((be_byt _ _).append h)
theorem refPut_tells {b r : List Int} (hb : b.length ≤ 1000000) (hr : r.length ≤ 1048576) : Ev (fun k => marigraphref4_Put.f k b r) (b ++ rec_ r) := by
  have u1 := u64w (x := (r.length : Int)) (by omega) (by omega)
  have u2 := u64w (x := 16777215 - (r.length : Int)) (by omega) (by omega)
  unfold marigraphref4_Put.f
  rw [u1, u2]
  refine Ev.bind (rput_tells b (r.length : Int) 3 (by decide) (by omega)) ?_
  refine Ev.bind (rput_tells (b ++ be (r.length : Int) 3) (16777215 - (r.length : Int)) 3 (by decide) (by rw [List.length_append, be_len]; omega)) ?_
  rw [if_pos (by rw [List.length_append, List.length_append, be_len, be_len]; omega)]
  unfold rec_
  rw [List.append_assoc, List.append_assoc]
  exact Ev.now _
theorem put_ev (l : List Int) (n : Int) (s : Nat) (hs : s ≤ 8) (hl : l.length + 8 ≤ 140737488355328) : Ev (fun k => octet_Put.f k l n (s : Int)) (l ++ be n s) := ⟨9, fun k hk => put_tells l n s k hs (by omega) hl⟩
theorem myPut_tells {b r : List Int} (hb : b.length ≤ 1000000) (hr : r.length ≤ 1048576) : Ev (fun k => frame_Put.f k b r) (b ++ rec_ r, 0) := by
  have u1 := u64w (x := (r.length : Int)) (by omega) (by omega)
  have x1 := xor_less (n := (r.length : Int)) ⟨by omega, by omega⟩
  unfold frame_Put.f
  rw [u1, x1]
  simp only [if_neg (show ¬ (r.length : Int) > 1048576 by omega)]
  refine Ev.bind (put_ev b (r.length : Int) 3 (by decide) (by omega)) ?_
  refine Ev.bind (put_ev (b ++ be (r.length : Int) 3) (16777215 - (r.length : Int)) 3 (by decide) (by rw [List.length_append, be_len]; omega)) ?_
  rw [if_pos (by rw [List.length_append, List.length_append, be_len, be_len]; omega)]
  unfold rec_
  rw [List.append_assoc, List.append_assoc]
  exact Ev.now _
theorem rdL_at {l : List (List Int)} {j : Nat} (h : j < l.length) : rd_L1 l (j : Int) = l[j] := by
  unfold rd_L1
  rw [Int.toNat_natCast, List.getD_eq_getElem?_getD, List.getElem?_eq_getElem h]
  rfl
theorem few_loop {l : List (List Int)} {n m : Nat} : ∀ (d j : Nat) (out : List (List Int)), min l.length n - j = d → j ≤ l.length → j ≤ n → n ≤ 1000 → out.length = j → Ev (fun k => marigraphlaw4_few.l0 k l (n : Int) (m : Int) out (j : Int)) (out ++ ((l.take n).drop j).map (fun x => cutI x m)) := by
  intro d
  induction d with
  | zero =>
    intro j out hd h1 h2 hn ho
    have e : (l.take n).drop j = [] := List.drop_of_length_le (by rw [List.length_take]; omega)
    rw [e, List.map_nil, List.append_nil]
    refine evDown ?_
    simp only [marigraphlaw4_few.l0]
    by_cases h : (j : Int) < (l.length : Int)
    · simp only [if_pos h, if_neg (show ¬ (j : Int) < (n : Int) by omega)]
      exact Ev.now _
    · simp only [if_neg h]
      exact Ev.now _
  | succ d ih =>
    intro j out hd h1 h2 hn ho
    have hlt : j < l.length := by omega
    have e : (l.take n).drop j = l[j] :: (l.take n).drop (j + 1) := by
      rw [List.drop_eq_getElem_cons (show j < (l.take n).length by rw [List.length_take]; omega), List.getElem_take]
    rw [e, List.map_cons]
    refine evDown ?_
    simp only [marigraphlaw4_few.l0, if_pos (show (j : Int) < (l.length : Int) by omega), if_pos (show (j : Int) < (n : Int) by omega), if_pos (show 0 ≤ (j : Int) by omega), rdL_at hlt, cut_tells (a := l[j]) (n := (m : Int)) (by omega), Int.toNat_natCast, Option.bind_some, if_pos (show out.length < 5864062014805 by omega), wadd1 (show j ≤ 10000000 by omega)]
    have := ih (j + 1) (out ++ [cutI l[j] m]) (by omega) (by omega) (by omega) hn (by rw [List.length_append, ho]; rfl)
    rw [List.append_assoc] at this
    exact this
theorem few_tells (l : List (List Int)) (n m : Nat) (hn : n ≤ 1000) : Ev (fun k => marigraphlaw4_few.f k l (n : Int) (m : Int)) ((l.take n).map (fun x => cutI x m)) := by
  have := few_loop (l := l) (n := n) (m := m) _ 0 [] rfl (Nat.zero_le _) (Nat.zero_le _) hn rfl
  rw [List.drop_zero, List.nil_append] at this
  exact this
theorem row_loop {l : List (List Int)} {M : Nat} (hM : M ≤ 1000) (hl : l.length ≤ 100) (hr : ∀ x ∈ l, x.length ≤ M ∧ Byt x) : ∀ (d j : Nat) (b : List Int), l.length - j = d → j ≤ l.length → b.length ≤ j * (M + 6) → Byt b → ∃ r, r.length ≤ l.length * (M + 6) ∧ Byt r ∧ Ev (fun k => marigraphlaw4_row.l0 k l b (j : Int)) r := by
  intro d
  induction d with
  | zero =>
    intro j b hd hj hb hby
    have : j = l.length := by omega
    subst this
    refine ⟨b, hb, hby, evDown ?_⟩
    simp only [marigraphlaw4_row.l0, if_neg (show ¬ (l.length : Int) < (l.length : Int) by omega)]
    exact Ev.now _
  | succ d ih =>
    intro j b hd hj hb hby
    have hlt : j < l.length := by omega
    obtain ⟨h1, h2⟩ := hr _ (List.getElem_mem hlt)
    have hb2 : b.length ≤ 1000000 := by
      have : j * (M + 6) ≤ 100 * 1006 := Nat.mul_le_mul (by omega) (by omega)
      omega
    obtain ⟨r, r1, r2, r3⟩ := ih (j + 1) (b ++ rec_ l[j]) (by omega) (by omega) (by rw [List.length_append, rec_len, Nat.add_mul]; omega) (hby.append (rec_byt h2))
    refine ⟨r, r1, r2, evDown ?_⟩
    simp only [marigraphlaw4_row.l0, if_pos (show (j : Int) < (l.length : Int) by omega), if_pos (show 0 ≤ (j : Int) by omega), rdL_at hlt, wadd1 (show j ≤ 10000000 by omega)]
    exact Ev.bind (refPut_tells hb2 (by omega)) r3
/-- The law's plain form. -/
def FrameTellsPure : Prop := ∀ (l0 : List (List Int)) (l1 : List Int) (a2 a3 a4 : Int), (∀ x ∈ l0, ∀ y ∈ x, (Lit.int .u8 y).wf = true) → (∀ x ∈ l1, (Lit.int .u8 x).wf = true) → (Lit.int .i64 a2).wf = true → (Lit.int .u8 a3).wf = true → (Lit.int .i64 a4).wf = true → ∃ k, marigraphlaw4_FrameTells.f k l0 l1 a2 a3 a4 = some true
theorem known4 : Ev (fun k => marigraphlaw4_known.f k) true := Ev.of (k := 40) marigraphlaw4_known.mono (by decide +kernel)
theorem set_byt {l : List Int} (h : Byt l) (i : Nat) {v : Int} (hv : 0 ≤ v ∧ v ≤ 255) : Byt (l.set i v) := fun x hx => by
  rcases List.mem_or_eq_of_mem_set hx with h1 | rfl
  · exact h x h1
  · exact hv
theorem xor8 (x y : Int) : 0 ≤ Go.bits .xor .u8 x y ∧ Go.bits .xor .u8 x y ≤ 255 := by
  unfold Go.bits
  generalize (_ : BitVec _) = z
  rw [IntKind.wrap_u8]
  omega
theorem FrameTells : FrameTellsPure := by
  intro l0 l1 a2 a3 a4 h0 h1 h2 h3 h4
  have hB1 : Byt l1 := Byt.of_wf h1
  obtain ⟨w, hw⟩ : ∃ w, w = (l0.take 8).map (fun x => cutI x 60) := ⟨_, rfl⟩
  have hwl : w.length ≤ 8 := by rw [hw, List.length_map, List.length_take]; omega
  have hwr : ∀ x ∈ w, x.length ≤ 60 ∧ Byt x := by
    intro x hx
    rw [hw] at hx
    obtain ⟨y, hy, rfl⟩ := List.mem_map.1 hx
    exact ⟨cutI_len _ _, cutI_byt (Byt.of_wf (h0 y (List.mem_of_mem_take hy))) _⟩
  have ef : Ev (fun k => marigraphlaw4_few.f k l0 8 60) w := by rw [hw]; exact few_tells l0 8 60 (by decide)
  obtain ⟨x, hx1, hx2, er⟩ := row_loop (l := w) (M := 60) (by decide) (by omega) hwr w.length 0 [] rfl (Nat.zero_le _) (Nat.zero_le _) (fun _ h => by cases h)
  have hxl : x.length ≤ 528 := Nat.le_trans hx1 (by omega)
  obtain ⟨c, hc⟩ : ∃ c, c = cutI l1 100 := ⟨_, rfl⟩
  have hcl : c.length ≤ 100 := by rw [hc]; exact cutI_len _ _
  have hcb : Byt c := by rw [hc]; exact cutI_byt hB1 _
  have hj : ∀ y : List Int, Byt y → y.length ≤ 1000 → Ev (fun k => marigraphlaw4_FrameTells.j0 k l1 a4 x y) true := by
    intro y hy hyl
    refine evDown ?_
    have hroom : marigraphbook_Roomy_byte.f c 165 = some (c ++ List.replicate 80 165) := by unfold marigraphbook_Roomy_byte.f; rw [if_pos (by omega)]
    obtain ⟨t, et, t0, t1, _⟩ := within_w (n := a4) (lo := 0) (hi := (x.length : Int)) (by omega) (by omega) (by omega) (i64_of h4)
    obtain ⟨p, rfl⟩ := Int.eq_ofNat_of_zero_le t0
    have hx5 : (cutI x 50).length ≤ 50 := cutI_len _ _
    have htk : (c ++ List.replicate 80 165).take c.length = c := List.take_left' rfl
    simp only [marigraphlaw4_FrameTells.j0, ← hc, hroom, Option.bind_some, cut_tells (a := x) (n := 50) (by decide), show (50 : Int).toNat = 50 from rfl]
    refine Ev.bind (myPut_tells (b := c) (r := cutI x 50) (by omega) (by omega)) ?_
    refine Ev.bind (all_any hx2 (by omega)) ?_
    simp only [if_true]
    refine Ev.bind (all_any hy (by omega)) ?_
    simp only [if_true]
    refine Ev.bind et ?_
    simp only [if_pos (show 0 ≤ (p : Int) by omega), if_pos t1, Int.toNat_natCast]
    refine Ev.bind (all_any (hx2.take p) (by rw [List.length_take]; omega)) ?_
    simp only [if_true, if_pos (show 0 ≤ (c.length : Int) by omega), if_pos (show (c.length : Int) ≤ ((c ++ List.replicate 80 165).length : Int) by rw [List.length_append]; omega), htk]
    refine Ev.bind (all_any hcb (by omega)) ?_
    simp only [if_true]
    refine Ev.bind (refPut_tells (b := c) (r := cutI x 50) (by omega) (by omega)) ?_
    simp only [if_true]
    refine Ev.bind (Intact_tells c 165 (by omega)) ?_
    simp only [if_true]
    exact Ev.bind known4 (Ev.now _)
  obtain ⟨K, hK⟩ : Ev (fun k => marigraphlaw4_FrameTells.f k l0 l1 a2 a3 a4) true := by
    unfold marigraphlaw4_FrameTells.f
    refine Ev.bind ef (Ev.bind (show Ev (fun k => marigraphlaw4_row.f k w) x from er) ?_)
    simp only [Option.bind_some, List.length_nil, Nat.zero_add, List.nil_append, if_pos (show x.length < 140737488355328 by omega)]
    by_cases hp : (x.length : Int) > 0
    · have hw1 : wrap64 ((x.length : Int) - 1) = (x.length : Int) - 1 := by unfold wrap64; omega
      simp only [if_pos hp, hw1]
      clear hw1
      obtain ⟨t, et, t0, t1, _⟩ := within_w (n := a2) (lo := 0) (hi := (x.length : Int) - 1) (by omega) (by omega) (by omega) (i64_of h2)
      refine Ev.bind et ?_
      simp only [if_pos t0, if_pos (show t < (x.length : Int) by omega)]
      exact hj _ (set_byt hx2 _ (xor8 _ _)) (by rw [List.length_set]; omega)
    · simp only [if_neg hp]
      exact hj _ hx2 (by omega)
  exact ⟨K, hK K (Nat.le_refl _)⟩

end Go.Proofs.Ytmimfnangdabmaa.Pure

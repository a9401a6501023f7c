/- FrameNumbers: rows cut off at each place, entries at each bound. -/
import Derived.Test.YtmimfnangdabmaaPFrameNumbersx0
import Derived.Test.YtmimfnangdabmaaPFrameNumbersx1
import Derived.Test.YtmimfnangdabmaaPFrameNumbersx2
import Derived.Test.YtmimfnangdabmaaPFrameNumbersx3
import Derived.Test.YtmimfnangdabmaaPFrameNumbersx4
import Derived.Test.YtmimfnangdabmaaPFrameNumbersx5
import Derived.Test.YtmimfnangdabmaaPFrameNumbersx6
import Derived.Test.YtmimfnangdabmaaPFrameNumbersx7
import Derived.Test.YtmimfnangdabmaaPFrameNumbersx8
import Derived.Test.YtmimfnangdabmaaPFrameNumbersx9
namespace Go.Proofs.Ytmimfnangdabmaa.Pure
open Go.RowKit Go.Proofs.Ytmimfnangdabmaa.PFrameNumbers Go.Proofs.YtmimfnangdabmaaW.PrintWords Go.Proofs.YtmimfnangdabmaaW.PrintLast
set_option linter.unusedVariables false
set_option linter.unusedSimpArgs false

/-! ### bytes as whole numbers: in range, in order -/
def Byt (l : List Int) : Prop := ∀ x ∈ l, 0 ≤ x ∧ x ≤ 255
theorem Byt.cons {x : Int} {l : List Int} (h : Byt (x :: l)) : (0 ≤ x ∧ x ≤ 255) ∧ Byt l := ⟨h x (by simp), fun y hy => h y (by simp [hy])⟩
theorem Byt.append {a b : List Int} (ha : Byt a) (hb : Byt b) : Byt (a ++ b) := by
  intro x hx
  rcases List.mem_append.1 hx with h | h
  · exact ha x h
  · exact hb x h
/-! ### Put -/
def be (n : Int) : Nat → List Int
  | 0 => []
  | s + 1 => (n / 2 ^ (8 * s)) % 256 :: be n s
theorem be_len (n : Int) (s : Nat) : (be n s).length = s := by induction s with | zero => rfl | succ s ih => simp [be, ih]
theorem be_byt (n : Int) (s : Nat) : Byt (be n s) := by
  induction s with
  | zero => intro x hx; cases hx
  | succ s ih =>
    intro x hx
    rcases List.mem_cons.1 hx with rfl | hx
    · omega
    · exact ih x hx
theorem wrap_8 (s : Nat) (h : s ≤ 8) : wrap64 (8 * (s : Int)) = ((8 * s : Nat) : Int) := by unfold wrap64; omega
theorem put_loop (n : Int) (s : Nat) : ∀ (k : Nat) (acc : List Int), s ≤ 8 → s < k → acc.length + s ≤ 140737488355328 → octet_Put.l0 k n acc ((s : Int) - 1) = some (acc ++ be n s) := by
  induction s with
  | zero =>
    intro k acc _ hk _
    obtain ⟨k, rfl⟩ : ∃ m, k = m + 1 := ⟨k - 1, by omega⟩
    simp only [octet_Put.l0]
    rw [if_neg (by omega)]
    simp [be]
  | succ s ih =>
    intro k acc hs hk hl
    obtain ⟨k, rfl⟩ : ∃ m, k = m + 1 := ⟨k - 1, by omega⟩
    have e : ((s + 1 : Nat) : Int) - 1 = (s : Int) := by omega
    rw [e]
    simp only [octet_Put.l0]
    rw [wrap_8 s (by omega), if_pos (by omega), if_pos (by omega), if_pos (by omega)]
    have e2 : wrap64 ((s : Int) - 1) = (s : Int) - 1 := by unfold wrap64; omega
    have e3 : shr .u64 n ((8 * s : Nat) : Int) = n / 2 ^ (8 * s) := by
      unfold shr
      have hb : IntKind.u64.bits = 64 := rfl
      rw [Int.toNat_natCast, hb, Nat.min_eq_left (by omega)]
    rw [e2, e3, ih k _ (by omega) (by omega) (by rw [List.length_append, List.length_singleton]; omega)]
    simp [be]
theorem put_tells (l : List Int) (n : Int) (s : Nat) (k : Nat) (hs : s ≤ 8) (hk : s < k) (hl : l.length + 8 ≤ 140737488355328) : octet_Put.f k l n (s : Int) = some (l ++ be n s) := by
  unfold octet_Put.f slices_Clone_byte_byte.f
  rw [if_pos (by omega)]
  simp only [Option.bind_some]
  have e : mx (mn (s : Int) 8) 0 = (s : Int) := by unfold mx mn; split <;> split <;> omega
  rw [e]
  exact put_loop n s k l hs hk (by omega)
/-! ### Get -/
theorem or_byte (q c : Int) (hq : 0 ≤ q) (hc : 0 ≤ c ∧ c ≤ 255) (hb : q * 256 + c < 18446744073709551616) : Go.bits .or .u64 (IntKind.u64.wrap (q * 256)) (IntKind.u64.wrap c) = q * 256 + c := by
  have w (x : Int) (h0 : 0 ≤ x) (h1 : x < 18446744073709551616) : IntKind.u64.wrap x = x := by
    have : IntKind.u64.wrap x = x % 18446744073709551616 := by simp [IntKind.wrap, IntKind.bits, IntKind.signed]
    rw [this]; exact Int.emod_eq_of_lt h0 h1
  rw [w _ (by omega) (by omega), w _ (by omega) (by omega)]
  exact bits_join .u64 64 (by decide) (fun x h0 h1 => w x h0 (by simpa using h1)) 8 _ _ (by omega) (by omega) (by show q * 256 < 18446744073709551616; omega) hc.1 (by show c < 256; omega) (by show c < 18446744073709551616; omega)
/-! ### bytes as strings -/
theorem u8_eq {x y : Int} (hx : 0 ≤ x ∧ x ≤ 255) (hy : 0 ≤ y ∧ y ≤ 255) : (UInt8.ofNat x.toNat = UInt8.ofNat y.toNat) ↔ x = y := by
  constructor
  · intro h
    have h := congrArg UInt8.toNat h
    rw [UInt8.toNat_ofNat', UInt8.toNat_ofNat'] at h
    omega
  · rintro rfl; rfl
theorem bytesOf_inj : ∀ {a b : List Int}, Byt a → Byt b → (Lib.bytesOf a = Lib.bytesOf b ↔ a = b)
  | [], [], _, _ => by simp
  | [], _ :: _, _, _ => by simp [Lib.bytesOf]
  | _ :: _, [], _, _ => by simp [Lib.bytesOf]
  | x :: a, y :: b, ha, hb => by
    have ih := bytesOf_inj ha.cons.2 hb.cons.2
    have h1 := u8_eq ha.cons.1 hb.cons.1
    unfold Lib.bytesOf at ih ⊢
    rw [List.map_cons, List.map_cons, List.cons.injEq, List.cons.injEq, h1, ih]
theorem sn_eq {a b : List Int} (ha : Byt a) (hb : Byt b) : ((strOfNums a).toList = (strOfNums b).toList) ↔ a = b := by
  rw [Lib.strOfNums_toList, Lib.strOfNums_toList]
  exact bytesOf_inj ha hb
/-! ### the document's Put and Get -/
theorem wrap_nxt {n : Nat} (h : n < 1000000) : wrap64 ((n : Int) + 1) = ((n + 1 : Nat) : Int) := by unfold wrap64; omega
theorem rput_loop (n : Int) (s : Nat) : ∀ (acc : List Int), s ≤ 8 → acc.length + s ≤ 140737488355328 → Ev (fun k => marigraphref2_Put.l0 k n acc ((s : Int) - 1)) (acc ++ be n s) := by
  induction s with
  | zero =>
    intro acc _ _
    refine Ev.step (f := fun _ => some (acc ++ be n 0)) (fun k => ?_) (Ev.now _)
    simp only [marigraphref2_Put.l0]
    rw [if_neg (by omega)]
    simp [be]
  | succ s ih =>
    intro acc hs hl
    have e : ((s + 1 : Nat) : Int) - 1 = (s : Int) := by omega
    have ew : IntKind.u64.wrap (wrap64 (8 * (s : Int))) = ((8 * s : Nat) : Int) := by rw [wrap_8 s (by omega), IntKind.wrap_u64]; omega
    have e2 : wrap64 ((s : Int) - 1) = (s : Int) - 1 := by unfold wrap64; omega
    have e3 : shr .u64 n ((8 * s : Nat) : Int) = n / 2 ^ (8 * s) := by
      unfold shr
      have hb : IntKind.u64.bits = 64 := rfl
      rw [Int.toNat_natCast, hb, Nat.min_eq_left (by omega)]
    have hi := ih (acc ++ [n / 2 ^ (8 * s) % 256]) (by omega) (by rw [List.length_append, List.length_singleton]; omega)
    rw [List.append_assoc] at hi
    rw [e]
    refine Ev.step (fun k => ?_) hi
    simp only [marigraphref2_Put.l0]
    rw [ew, if_pos (by omega), if_pos (by omega), if_pos (by omega), e2, e3]
theorem rput_tells (l : List Int) (n : Int) (s : Nat) (hs : s ≤ 8) (hl : l.length + 8 ≤ 140737488355328) : Ev (fun k => marigraphref2_Put.f k l n (s : Int)) (l ++ be n s) := by
  have e : mx (mn (s : Int) 8) 0 = (s : Int) := by unfold mx mn; split <;> split <;> omega
  unfold marigraphref2_Put.f
  simp only [Option.bind_some, List.length_nil, Nat.zero_add, List.nil_append, e, if_pos (show l.length < 140737488355328 by omega)]
  exact rput_loop n s l hs (by omega)
theorem get_loop (l : List Int) (s : Nat) (hl : s ≤ l.length) (h8 : s ≤ 8) : ∀ (d j : Nat), d + j = s → Ev (fun k => marigraphref2_Get.l0 k l (s : Int) (getI 0 (l.take j)) (j : Int)) (getI 0 (l.take s), true) := by
  intro d
  induction d with
  | zero =>
    intro j hj
    obtain rfl : j = s := by omega
    refine Ev.step (f := fun _ => some (getI 0 (l.take j), true)) (fun k => ?_) (Ev.now _)
    simp only [marigraphref2_Get.l0]
    rw [if_neg (by omega)]
  | succ d ih =>
    intro j hj
    have hlt : j < l.length := by omega
    have e : getI 0 (l.take (j + 1)) = Go.bits .or .u64 (IntKind.u64.wrap (getI 0 (l.take j) * 256)) (IntKind.u64.wrap (rd l (j : Int))) := by
      rw [List.take_add_one, List.getElem?_eq_getElem hlt, Option.toList_some, getI_snoc]
      unfold rd
      rw [Int.toNat_natCast, List.getD_eq_getElem?_getD, List.getElem?_eq_getElem hlt]
      rfl
    have hi := ih (j + 1) (by omega)
    rw [e] at hi
    refine Ev.step (fun k => ?_) hi
    simp only [marigraphref2_Get.l0]
    rw [if_pos (by omega), if_pos (by omega), if_pos (by omega), wrap_nxt (by omega)]
theorem rget_tells (l : List Int) (s : Nat) (h8 : s ≤ 8) (hl : s ≤ l.length) : Ev (fun k => marigraphref2_Get.f k l (s : Int)) (getI 0 (l.take s), true) := by
  unfold marigraphref2_Get.f
  simp only [if_neg (show ¬ (s : Int) < 0 by omega), if_neg (show ¬ (s : Int) > 8 by omega), decide_eq_false (show ¬ (l.length : Int) < (s : Int) by omega)]
  refine Ev.step (fun k => ?_) (get_loop l s hl h8 s 0 rfl)
  simp only [marigraphref2_Get.j0]
  rw [if_neg (by decide)]
  rfl
/-! ### a number and its other half -/
theorem xor_nat {a b : Nat} (ha : a < 16777216) (hb : b < 16777216) : Go.bits .xor .u64 (a : Int) (b : Int) = ((a ^^^ b : Nat) : Int) := by
  have ha' : a % 2 ^ 64 = a := Nat.mod_eq_of_lt (by omega)
  have hb' : b % 2 ^ 64 = b := Nat.mod_eq_of_lt (by omega)
  have hx : a ^^^ b < 2 ^ 24 := Nat.xor_lt_two_pow (by omega) (by omega)
  have hbits : IntKind.u64.bits = 64 := rfl
  simp only [Go.bits, hbits, BitVec.ofInt_natCast, BitVec.toNat_xor, BitVec.toNat_ofNat, ha', hb']
  have : IntKind.u64.wrap ((a ^^^ b : Nat) : Int) = ((a ^^^ b : Nat) : Int) % 18446744073709551616 := by simp [IntKind.wrap, IntKind.bits, IntKind.signed]
  rw [this]
  exact Int.emod_eq_of_lt (by omega) (by omega)
theorem xor_half {a b : Nat} (ha : a < 16777216) (hb : b < 16777216) : a ^^^ b = 16777215 ↔ a + b = 16777215 := by
  have hx : (BitVec.ofNat 24 a).toNat = a := by rw [BitVec.toNat_ofNat]; exact Nat.mod_eq_of_lt ha
  have hy : (BitVec.ofNat 24 b).toNat = b := by rw [BitVec.toNat_ofNat]; exact Nat.mod_eq_of_lt hb
  have hn : (~~~(BitVec.ofNat 24 a)).toNat = 2 ^ 24 - 1 - a := by rw [BitVec.toNat_not, hx]
  have ho : (BitVec.allOnes 24).toNat = 2 ^ 24 - 1 := BitVec.toNat_allOnes
  constructor
  · intro h
    have h1 : BitVec.ofNat 24 a ^^^ BitVec.ofNat 24 b = BitVec.allOnes 24 := BitVec.eq_of_toNat_eq (by rw [BitVec.toNat_xor, hx, hy, h, ho])
    have h2 : BitVec.ofNat 24 b = ~~~(BitVec.ofNat 24 a) := by
      rw [← BitVec.xor_allOnes, ← h1, ← BitVec.xor_assoc, BitVec.xor_self, BitVec.zero_xor]
    have h3 := congrArg BitVec.toNat h2
    rw [hy, hn] at h3
    omega
  · intro h
    have h2 : BitVec.ofNat 24 b = ~~~(BitVec.ofNat 24 a) := BitVec.eq_of_toNat_eq (by rw [hy, hn]; omega)
    have h1 : BitVec.ofNat 24 a ^^^ BitVec.ofNat 24 b = BitVec.allOnes 24 := by rw [h2, ← BitVec.xor_allOnes, ← BitVec.xor_assoc, BitVec.xor_self, BitVec.zero_xor]
    have h3 := congrArg BitVec.toNat h1
    rw [BitVec.toNat_xor, hx, hy, ho] at h3
    exact h3
theorem xor_sum {n m : Int} (hn : 0 ≤ n ∧ n < 16777216) (hm : 0 ≤ m ∧ m < 16777216) : Go.bits .xor .u64 n m = 16777215 ↔ n + m = 16777215 := by
  obtain ⟨a, rfl⟩ := Int.eq_ofNat_of_zero_le hn.1
  obtain ⟨b, rfl⟩ := Int.eq_ofNat_of_zero_le hm.1
  rw [xor_nat (by omega) (by omega)]
  have := xor_half (a := a) (b := b) (by omega) (by omega)
  omega
theorem xor_less {n : Int} (hn : 0 ≤ n ∧ n < 16777216) : Go.bits .xor .u64 n 16777215 = 16777215 - n := by
  obtain ⟨a, rfl⟩ := Int.eq_ofNat_of_zero_le hn.1
  have h := (xor_half (a := a) (b := 16777215 - a) (by omega) (by omega)).2 (by omega)
  have e := xor_nat (a := a) (b := 16777215) (by omega) (by omega)
  have h2 : a ^^^ 16777215 = 16777215 - a := by
    have h3 : a ^^^ (a ^^^ (16777215 - a)) = 16777215 - a := by rw [← Nat.xor_assoc, Nat.xor_self, Nat.zero_xor]
    rwa [h] at h3
  rw [show (16777215 : Int) = ((16777215 : Nat) : Int) from rfl, e, h2]
  omega
/-! ### records in a row of bytes: both read alike, whatever the bytes are -/
theorem evDown {α : Type} {g : Nat → Option α} {r : α} (h : Ev (fun k => g (k + 1)) r) : Ev g r := let ⟨K, hK⟩ := h; ⟨K + 1, fun k hk => by
  obtain ⟨m, rfl⟩ : ∃ m, k = m + 1 := ⟨k - 1, by omega⟩
  exact hK m (by omega)⟩
def v3 (l : List Int) : Int := getI 0 (l.take 3)
theorem v3_in {l : List Int} (h : Byt l) (hl : 3 ≤ l.length) : 0 ≤ v3 l ∧ v3 l < 16777216 := by
  match l, hl with
  | x :: y :: z :: r, _ =>
    have hx := h x (by simp)
    have hy := h y (by simp)
    have hz := h z (by simp)
    have e1 := or_byte 0 x (by decide) hx (by omega)
    have e2 := or_byte x y hx.1 hy (by omega)
    have e3 := or_byte (x * 256 + y) z (by omega) hz (by omega)
    show 0 ≤ getI 0 [x, y, z] ∧ getI 0 [x, y, z] < 16777216
    rw [getI, getI, getI, getI, e1, show (0 : Int) * 256 + x = x by omega, e2, e3]
    omega
  | [], hl => simp at hl
  | [_], hl => simp at hl
  | [_, _], hl => simp at hl
theorem Byt.drop {l : List Int} (h : Byt l) (n : Nat) : Byt (l.drop n) := fun x hx => h x (List.mem_of_mem_drop hx)
theorem Byt.take {l : List Int} (h : Byt l) (n : Nat) : Byt (l.take n) := fun x hx => h x (List.mem_of_mem_take hx)
theorem get3 {l : List Int} (hl : 3 ≤ l.length) : octet_Get.f l 3 = some (v3 l, true) := by
  unfold octet_Get.f v3
  rw [if_neg (by decide), if_neg (by decide), if_neg (by omega)]
  rfl
theorem get3_not {l : List Int} (hl : l.length < 3) : octet_Get.f l 3 = some (0, false) := by
  unfold octet_Get.f
  rw [if_neg (by decide), if_neg (by decide), if_pos (by omega)]
theorem len_short {l : List Int} (hl : l.length < 6) : frame_length.f l = some (0, false) := by
  unfold frame_length.f
  by_cases h : l.length < 3
  · rw [get3_not h]; rfl
  · rw [get3 (by omega)]
    simp only [Option.bind_some, if_true, if_pos (show (l.length : Int) < 6 by omega)]
/-- What a head says: how many bytes; may it be? -/
def headOk (l : List Int) : Bool := decide (v3 l + v3 (l.drop 3) = 16777215) && decide (v3 l ≤ 1048576)
theorem len_tells {l : List Int} (h : Byt l) (hl : 6 ≤ l.length) : frame_length.f l = some (v3 l, headOk l) := by
  have h1 := v3_in h (by omega)
  have h2 := v3_in (h.drop 3) (by rw [List.length_drop]; omega)
  have hx := xor_sum h1 h2
  have hw : wrap64 (v3 l) = v3 l := by unfold wrap64; omega
  unfold frame_length.f headOk
  rw [get3 (by omega)]
  simp only [Option.bind_some, if_true, if_neg (show ¬ (l.length : Int) < 6 by omega), if_pos (show 3 ≤ (l.length : Int) by omega), get3 (l := l.drop 3) (by rw [List.length_drop]; omega), hw]
  by_cases he : v3 l + v3 (l.drop 3) = 16777215
  · rw [if_pos (hx.2 he), decide_eq_true he, Bool.true_and]
  · rw [if_neg (fun h => he (hx.1 h)), decide_eq_false he, Bool.false_and]
theorem wsub {L a : Nat} (h : a ≤ L) (hL : L ≤ 10000000) : wrap64 ((L : Int) - (a : Int)) = ((L - a : Nat) : Int) := by unfold wrap64; omega
theorem wadd {a c : Nat} (h : a + c ≤ 10000000) : wrap64 ((a : Int) + (c : Int)) = ((a + c : Nat) : Int) := by unfold wrap64; omega
theorem wadd1 {a : Nat} (h : a ≤ 10000000) : wrap64 ((a : Int) + 1) = ((a + 1 : Nat) : Int) := by unfold wrap64; omega
theorem wadd3 {a : Nat} (h : a ≤ 10000000) : wrap64 ((a : Int) + 3) = ((a + 3 : Nat) : Int) := by unfold wrap64; omega
theorem wadd6 {a : Nat} (h : a ≤ 10000000) : wrap64 ((a : Int) + 6) = ((a + 6 : Nat) : Int) := by unfold wrap64; omega
theorem w6add {a : Nat} (h : a ≤ 10000000) : wrap64 (6 + (a : Int)) = ((6 + a : Nat) : Int) := by unfold wrap64; omega
theorem wsub6 {a : Nat} (h : a ≤ 10000000) : wrap64 ((a : Int) - 6) = (a : Int) - 6 := by unfold wrap64; omega
theorem wid {x : Int} (h0 : 0 ≤ x) (h1 : x ≤ 10000000000) : wrap64 x = x := by unfold wrap64; omega
theorem all_loops {l : List Int} (h : Byt l) (hlen : l.length ≤ 100000) : ∀ (n at_ : Nat) (out : List (List Int)), l.length - at_ < n → at_ ≤ l.length → out.length ≤ at_ →
    ∃ (o : List (List Int)) (p : Int) (ok : Bool), o.length ≤ l.length ∧ Ev (fun k => frame_All.l0 k l out (at_ : Int)) (o, p, if ok then 0 else 14) ∧ Ev (fun k => marigraphref4_All.l0 k l out (at_ : Int)) (o, p, ok) := by
  intro n
  induction n with
  | zero => intro at_ out hn; exact absurd hn (Nat.not_lt_zero _)
  | succ n ih =>
    intro at_ out hn hat hout
    obtain ⟨z, hz⟩ : ∃ z, z = l.drop at_ := ⟨_, rfl⟩
    have hzl : z.length = l.length - at_ := by rw [hz, List.length_drop]
    have hzb : Byt z := by rw [hz]; exact h.drop _
    have t1 : ((at_ : Int)).toNat = at_ := Int.toNat_natCast _
    by_cases h6 : z.length < 6
    · refine ⟨out, at_, true, by omega, ?_, ?_⟩
      · refine evDown ?_
        simp only [frame_All.l0, if_pos (show 0 ≤ (at_ : Int) by omega), if_pos (show (at_ : Int) ≤ (l.length : Int) by omega), t1, ← hz, len_short h6, Option.bind_some, if_pos (show (z.length : Int) < 6 by omega)]
        refine evDown ?_
        simp only [frame_All.j1, if_true]
        exact Ev.now _
      · refine evDown ?_
        simp only [marigraphref4_All.l0, wsub hat (show l.length ≤ 10000000 by omega), ← hzl, if_pos (show (z.length : Int) < 6 by omega)]
        exact Ev.now _
    · have hb := v3_in hzb (by omega)
      have hb2 := v3_in (hzb.drop 3) (by rw [List.length_drop]; omega)
      have d3 : l.drop (at_ + 3) = z.drop 3 := by rw [hz, List.drop_drop]
      have us : IntKind.u64.wrap (v3 z + v3 (z.drop 3)) = v3 z + v3 (z.drop 3) := by
        have : IntKind.u64.wrap (v3 z + v3 (z.drop 3)) = (v3 z + v3 (z.drop 3)) % 18446744073709551616 := by simp [IntKind.wrap, IntKind.bits, IntKind.signed]
        rw [this]; exact Int.emod_eq_of_lt (by omega) (by omega)
      have rg1 : Ev (fun k => marigraphref2_Get.f k z 3) (v3 z, true) := rget_tells z 3 (by decide) (by omega)
      have rg2 : Ev (fun k => marigraphref2_Get.f k (z.drop 3) 3) (v3 (z.drop 3), true) := rget_tells (z.drop 3) 3 (by decide) (by rw [List.length_drop]; omega)
      have mine : ∀ R, Ev (fun k => if headOk z = true then (frame_All.j1 k l out (at_ : Int) z (v3 z) true (decide (v3 z > (z.length : Int) - 6))) else (frame_All.j1 k l out (at_ : Int) z (v3 z) false false)) R → Ev (fun k => frame_All.l0 k l out (at_ : Int)) R := by
        intro R hR
        refine evDown ?_
        simp only [frame_All.l0, if_pos (show 0 ≤ (at_ : Int) by omega), if_pos (show (at_ : Int) ≤ (l.length : Int) by omega), t1, ← hz, len_tells hzb (show 6 ≤ z.length by omega), Option.bind_some, if_neg (show ¬ (z.length : Int) < 6 by omega), wsub6 (show z.length ≤ 10000000 by omega)]
        cases hh : headOk z with
        | true => rw [hh] at hR; exact hR
        | false => rw [hh] at hR; exact hR
      have theirs : ∀ R, Ev (fun k => if v3 z + v3 (z.drop 3) = 16777215 then (marigraphref4_All.j1 k l out (at_ : Int) (v3 z) (decide (v3 z > 1048576))) else (marigraphref4_All.j1 k l out (at_ : Int) (v3 z) true)) R → Ev (fun k => marigraphref4_All.l0 k l out (at_ : Int)) R := by
        intro R hR
        refine evDown ?_
        simp only [marigraphref4_All.l0, wsub hat (show l.length ≤ 10000000 by omega), ← hzl, if_neg (show ¬ (z.length : Int) < 6 by omega), if_pos (show 0 ≤ (at_ : Int) by omega), if_pos (show (at_ : Int) ≤ (l.length : Int) by omega), t1, ← hz, wadd3 (show at_ ≤ 10000000 by omega), if_pos (show 0 ≤ ((at_ + 3 : Nat) : Int) by omega), if_pos (show ((at_ + 3 : Nat) : Int) ≤ (l.length : Int) by omega), Int.toNat_natCast, d3]
        refine Ev.bind rg1 (Ev.bind rg2 ?_)
        simp only [us]
        exact hR
      by_cases hok : headOk z = true
      · have hok2 := hok
        unfold headOk at hok2
        simp only [Bool.and_eq_true, decide_eq_true_eq] at hok2
        obtain ⟨hs, hle⟩ := hok2
        by_cases hlong : v3 z > (z.length : Int) - 6
        · refine ⟨out, at_, true, by omega, mine _ ?_, theirs _ ?_⟩
          · simp only [if_pos hok, decide_eq_true hlong]
            refine evDown ?_
            simp only [frame_All.j1, if_true]
            exact Ev.now _
          · simp only [if_pos hs, decide_eq_false (show ¬ v3 z > 1048576 by omega)]
            refine evDown ?_
            simp only [marigraphref4_All.j1, Bool.false_eq_true, if_false, wsub hat (show l.length ≤ 10000000 by omega), ← hzl, wsub6 (show z.length ≤ 10000000 by omega), wid hb.1 (show v3 z ≤ 10000000000 by omega), if_pos (show (z.length : Int) - 6 < v3 z by omega)]
            exact Ev.now _
        · obtain ⟨q, hq⟩ := Int.eq_ofNat_of_zero_le hb.1
          have hq2 : 6 + q ≤ z.length := by omega
          have hcut : (l.take (at_ + 6 + q)).drop (at_ + 6) = (z.take (6 + q)).drop 6 := by
            rw [hz, List.take_drop, List.drop_drop, show at_ + (6 + q) = at_ + 6 + q by omega]
          obtain ⟨o, p, ok, ho, e1, e2⟩ := ih (at_ + 6 + q) (out ++ [(z.take (6 + q)).drop 6]) (by omega) (by omega) (by rw [List.length_append, List.length_singleton]; omega)
          have hcl : ((z.take (6 + q)).drop 6).length ≤ 100000 := by rw [List.length_drop, List.length_take]; omega
          refine ⟨o, p, ok, ho, mine _ ?_, theirs _ ?_⟩
          · simp only [if_pos hok, decide_eq_false hlong]
            refine evDown ?_
            rw [hq]
            simp only [frame_All.j1, Bool.false_eq_true, if_false, if_true, w6add (show q ≤ 10000000 by omega), if_pos (show 6 ≤ ((6 + q : Nat) : Int) by omega), if_pos (show ((6 + q : Nat) : Int) ≤ (z.length : Int) by omega), Int.toNat_natCast, slices_Clone_byte_byte.f, wadd (show at_ + (6 + q) ≤ 10000000 by omega)]
            simp only [if_pos (show ((z.take (6 + q)).drop 6).length < 140737488355328 by omega), Option.bind_some, if_pos (show out.length < 5864062014805 by omega)]
            rw [show at_ + (6 + q) = at_ + 6 + q by omega]
            exact e1
          · simp only [if_pos hs, decide_eq_false (show ¬ v3 z > 1048576 by omega)]
            refine evDown ?_
            rw [hq] at hlong ⊢
            simp only [marigraphref4_All.j1, Bool.false_eq_true, if_false, wsub hat (show l.length ≤ 10000000 by omega), ← hzl, wsub6 (show z.length ≤ 10000000 by omega), wid (show 0 ≤ (q : Int) by omega) (show (q : Int) ≤ 10000000000 by omega), if_neg (show ¬ (z.length : Int) - 6 < (q : Int) by omega), Option.bind_some, wadd6 (show at_ ≤ 10000000 by omega), wadd (show at_ + 6 + q ≤ 10000000 by omega), if_pos (show 0 ≤ ((at_ + 6 : Nat) : Int) by omega), if_pos (show ((at_ + 6 : Nat) : Int) ≤ ((at_ + 6 + q : Nat) : Int) by omega), if_pos (show ((at_ + 6 + q : Nat) : Int) ≤ (l.length : Int) by omega), Int.toNat_natCast, hcut, List.length_nil, List.nil_append]
            simp only [if_pos (show 0 + ((z.take (6 + q)).drop 6).length < 140737488355328 by omega), if_pos (show out.length < 5864062014805 by omega)]
            exact e2
      · refine ⟨out, at_, false, by omega, mine _ ?_, theirs _ ?_⟩
        · simp only [if_neg hok]
          refine evDown ?_
          simp only [frame_All.j1, Bool.false_eq_true, if_false]
          exact Ev.now _
        · have e : Ev (fun k => marigraphref4_All.j1 k l out (at_ : Int) (v3 z) true) (out, (at_ : Int), false) := by
            refine evDown ?_
            simp only [marigraphref4_All.j1, if_true]
            exact Ev.now _
          unfold headOk at hok
          by_cases hs : v3 z + v3 (z.drop 3) = 16777215
          · have hle : v3 z > 1048576 := by
              rw [decide_eq_true hs, Bool.true_and, decide_eq_true_eq] at hok
              omega
            simp only [if_pos hs, decide_eq_true hle]
            exact e
          · simp only [if_neg hs]
            exact e
theorem lists_loop (o : List (List Int)) (ho : o.length ≤ 100000) : ∀ n j : Nat, o.length - j = n → j ≤ o.length → Ev (fun k => marigraphkeep_Lists.l0 k o o (j : Int)) true := by
  intro n
  induction n with
  | zero =>
    intro j hj hle
    refine evDown ?_
    simp only [marigraphkeep_Lists.l0, if_neg (show ¬ (j : Int) < (o.length : Int) by omega)]
    exact Ev.now _
  | succ n ih =>
    intro j hj hle
    have hw : wrap64 ((j : Int) + 1) = ((j + 1 : Nat) : Int) := by unfold wrap64; omega
    refine evDown ?_
    simp only [marigraphkeep_Lists.l0, if_pos (show (j : Int) < (o.length : Int) by omega), if_pos (show 0 ≤ (j : Int) by omega), if_true, hw]
    exact ih (j + 1) (by omega) (by omega)
theorem lists_same (o : List (List Int)) (ho : o.length ≤ 100000) : Ev (fun k => marigraphkeep_Lists.f k o o) true := by
  unfold marigraphkeep_Lists.f
  simp only [if_true]
  exact lists_loop o ho o.length 0 rfl (Nat.zero_le _)
theorem all_any {l : List Int} (h : Byt l) (hlen : l.length ≤ 100000) : Ev (fun k => marigraphlaw4_all.f k l) true := by
  obtain ⟨o, p, ok, ho, e1, e2⟩ := all_loops h hlen (l.length + 1) 0 [] (by omega) (Nat.zero_le _) (Nat.le_refl _)
  unfold marigraphlaw4_all.f
  refine Ev.bind (show Ev (fun k => frame_All.f k l) _ from e1) (Ev.bind (show Ev (fun k => marigraphref4_All.f k l) _ from e2) ?_)
  simp only [if_true]
  cases ok with
  | true =>
    simp only [if_true, beq_self_eq_true]
    exact Ev.bind (lists_same o (by omega)) (Ev.now _)
  | false =>
    simp only [Bool.false_eq_true, if_false, if_true, show ((14 : Int) == 0) = false from rfl, beq_self_eq_true]
    exact Ev.bind (lists_same o (by omega)) (Ev.now _)
theorem u64w {x : Int} (h0 : 0 ≤ x) (h1 : x < 18446744073709551616) : IntKind.u64.wrap x = x := by
  have : IntKind.u64.wrap x = x % 18446744073709551616 := by simp [IntKind.wrap, IntKind.bits, IntKind.signed]
  rw [this]; exact Int.emod_eq_of_lt h0 h1
/-- A record's head and the record. -/
def rec_ (r : List Int) : List Int := be (r.length : Int) 3 ++ (be (16777215 - (r.length : Int)) 3 ++ r)
theorem rec_len (r : List Int) : (rec_ r).length = r.length + 6 := by
  unfold rec_
  rw [List.length_append, List.length_append, be_len, be_len]
  omega
theorem rec_byt {r : List Int} (h : Byt r) : Byt (rec_ r) := (be_byt _ _).append ((be_byt _ _).append h)
theorem put_ev (l : List Int) (n : Int) (s : Nat) (hs : s ≤ 8) (hl : l.length + 8 ≤ 140737488355328) : Ev (fun k => octet_Put.f k l n (s : Int)) (l ++ be n s) := ⟨9, fun k hk => put_tells l n s k hs (by omega) hl⟩
theorem myPut_tells {b r : List Int} (hb : b.length ≤ 1000000) (hr : r.length ≤ 1048576) : Ev (fun k => frame_Put.f k b r) (b ++ rec_ r, 0) := by
  have u1 := u64w (x := (r.length : Int)) (by omega) (by omega)
  have x1 := xor_less (n := (r.length : Int)) ⟨by omega, by omega⟩
  unfold frame_Put.f
  rw [u1, x1]
  simp only [if_neg (show ¬ (r.length : Int) > 1048576 by omega)]
  refine Ev.bind (put_ev b (r.length : Int) 3 (by decide) (by omega)) ?_
  refine Ev.bind (put_ev (b ++ be (r.length : Int) 3) (16777215 - (r.length : Int)) 3 (by decide) (by rw [List.length_append, be_len]; omega)) ?_
  rw [if_pos (by rw [List.length_append, List.length_append, be_len, be_len]; omega)]
  unfold rec_
  rw [List.append_assoc, List.append_assoc]
  exact Ev.now _
/-! ### entries, written -/
def encE (x : S49) : List Int := if x.f2 = true then [0, (x.f0.length : Int) % 256] ++ x.f0 else ([1, (x.f0.length : Int) % 256] ++ x.f0) ++ (be (x.f1.length : Int) 2 ++ x.f1)
def encs : List S49 → List Int
  | [] => []
  | x :: r => encE x ++ encs r
theorem bit_byt {a b : Int} (ha : 0 ≤ a ∧ a ≤ 255) (hb : 0 ≤ b ∧ b ≤ 255) : Byt [a, b] := fun x hx => by
  simp only [List.mem_cons, List.not_mem_nil, or_false] at hx
  rcases hx with rfl | rfl
  · exact ha
  · exact hb
def batch_ (l : List S49) : List Int := be (l.length : Int) 2 ++ encs l
theorem rdE_at {l : List S49} {j : Nat} (h : j < l.length) : rd_T49 l (j : Int) = l[j] := by
  unfold rd_T49
  rw [Int.toNat_natCast, List.getD_eq_getElem?_getD, List.getElem?_eq_getElem h]
  rfl
/-! ### a row of records -/
theorem refPut_tells {b r : List Int} (hb : b.length ≤ 1000000) (hr : r.length ≤ 1048576) : Ev (fun k => marigraphref4_Put.f k b r) (b ++ rec_ r) := by
  have u1 := u64w (x := (r.length : Int)) (by omega) (by omega)
  have u2 := u64w (x := 16777215 - (r.length : Int)) (by omega) (by omega)
  unfold marigraphref4_Put.f
  rw [u1, u2]
  refine Ev.bind (rput_tells b (r.length : Int) 3 (by decide) (by omega)) ?_
  refine Ev.bind (rput_tells (b ++ be (r.length : Int) 3) (16777215 - (r.length : Int)) 3 (by decide) (by rw [List.length_append, be_len]; omega)) ?_
  rw [if_pos (by rw [List.length_append, List.length_append, be_len, be_len]; omega)]
  unfold rec_
  rw [List.append_assoc, List.append_assoc]
  exact Ev.now _
theorem rdL_at {l : List (List Int)} {j : Nat} (h : j < l.length) : rd_L1 l (j : Int) = l[j] := by
  unfold rd_L1
  rw [Int.toNat_natCast, List.getD_eq_getElem?_getD, List.getElem?_eq_getElem h]
  rfl
theorem row_loop {l : List (List Int)} {M : Nat} (hM : M ≤ 1000) (hl : l.length ≤ 100) (hr : ∀ x ∈ l, x.length ≤ M ∧ Byt x) : ∀ (d j : Nat) (b : List Int), l.length - j = d → j ≤ l.length → b.length ≤ j * (M + 6) → Byt b → ∃ r, r.length ≤ l.length * (M + 6) ∧ Byt r ∧ Ev (fun k => marigraphlaw4_row.l0 k l b (j : Int)) r := by
  intro d
  induction d with
  | zero =>
    intro j b hd hj hb hby
    have : j = l.length := by omega
    subst this
    refine ⟨b, hb, hby, evDown ?_⟩
    simp only [marigraphlaw4_row.l0, if_neg (show ¬ (l.length : Int) < (l.length : Int) by omega)]
    exact Ev.now _
  | succ d ih =>
    intro j b hd hj hb hby
    have hlt : j < l.length := by omega
    obtain ⟨h1, h2⟩ := hr _ (List.getElem_mem hlt)
    have hb2 : b.length ≤ 1000000 := by
      have : j * (M + 6) ≤ 100 * 1006 := Nat.mul_le_mul (by omega) (by omega)
      omega
    obtain ⟨r, r1, r2, r3⟩ := ih (j + 1) (b ++ rec_ l[j]) (by omega) (by omega) (by rw [List.length_append, rec_len, Nat.add_mul]; omega) (hby.append (rec_byt h2))
    refine ⟨r, r1, r2, evDown ?_⟩
    simp only [marigraphlaw4_row.l0, if_pos (show (j : Int) < (l.length : Int) by omega), if_pos (show 0 ≤ (j : Int) by omega), rdL_at hlt, wadd1 (show j ≤ 10000000 by omega)]
    exact Ev.bind (refPut_tells hb2 (by omega)) r3
/-! ### batches: any entries; entries: any bytes -/
theorem bi64 {x : Int} (h0 : -9223372036854775808 ≤ x) (h1 : x ≤ 9223372036854775807) : wrap64 x = x := by unfold wrap64; omega
theorem getI_1 {a : Int} (h : 0 ≤ a ∧ a ≤ 255) : getI 0 [a] = a := by
  have e1 := or_byte 0 a (by decide) h (by omega)
  rw [getI, getI, e1]
  omega
theorem getI_2 {a b : Int} (ha : 0 ≤ a ∧ a ≤ 255) (hb : 0 ≤ b ∧ b ≤ 255) : getI 0 [a, b] = a * 256 + b := by
  have e1 := or_byte 0 a (by decide) ha (by omega)
  have e2 := or_byte a b ha.1 hb (by omega)
  rw [getI, getI, getI, e1, show (0 : Int) * 256 + a = a by omega, e2]
theorem num_1 {a : Int} (h : 0 ≤ a ∧ a ≤ 255) (q : List Int) : num 1 (a :: q) = a := by
  unfold num
  rw [List.take_succ_cons, List.take_zero, getI_1 h]
  exact bi64 (by omega) (by omega)
theorem num_2 {a b : Int} (ha : 0 ≤ a ∧ a ≤ 255) (hb : 0 ≤ b ∧ b ≤ 255) (q : List Int) : num 2 (a :: b :: q) = a * 256 + b := by
  unfold num
  rw [List.take_succ_cons, List.take_succ_cons, List.take_zero, getI_2 ha hb]
  exact bi64 (by omega) (by omega)
theorem be2 {n : Nat} (h : n < 65536) : be (n : Int) 2 = [(n : Int) / 256, (n : Int) % 256] := by
  show [(n : Int) / 2 ^ (8 * 1) % 256, (n : Int) / 2 ^ (8 * 0) % 256] = _
  have e1 : (2 : Int) ^ (8 * 1) = 256 := by decide
  have e0 : (2 : Int) ^ (8 * 0) = 1 := by decide
  rw [e1, e0, Int.ediv_one]
  congr 1
  omega
/-- An entry as it is read: of a batch that was written. -/
structure CanE (x : S49) : Prop where
  k0 : 1 ≤ x.f0.length
  k1 : x.f0.length ≤ 255
  v1 : x.f1.length ≤ 4095
  kb : Byt x.f0
  vb : Byt x.f1
  gn : x.f2 = true → x.f1 = []
/-- An entry that may be written. -/
def MayE (x : S49) : Prop := 1 ≤ x.f0.length ∧ x.f0.length ≤ 255 ∧ (x.f2 = true ∨ x.f1.length ≤ 4095)
instance (x : S49) : Decidable (MayE x) := inferInstanceAs (Decidable (_ ∧ _ ∧ _))
theorem CanE.may {x : S49} (h : CanE x) : MayE x := ⟨h.k0, h.k1, .inr h.v1⟩
theorem encM_len {x : S49} (h : MayE x) : (encE x).length ≤ 4354 := by
  obtain ⟨h1, h2, h3⟩ := h
  unfold encE
  split
  · simp only [List.length_append, List.length_cons, List.length_nil]; omega
  · have := h3.resolve_left (by assumption)
    simp only [List.length_append, List.length_cons, List.length_nil, be_len]; omega
theorem encC_byt {x : S49} (h : CanE x) : Byt (encE x) := by
  unfold encE
  split
  · exact (bit_byt (by omega) (by omega)).append h.kb
  · exact ((bit_byt (by omega) (by omega)).append h.kb).append ((be_byt _ _).append h.vb)
theorem encsC_byt : ∀ {l : List S49}, (∀ x ∈ l, CanE x) → Byt (encs l)
  | [], _ => fun _ h => by cases h
  | x :: r, h => (encC_byt (h x (List.mem_cons_self ..))).append (encsC_byt (l := r) (fun y hy => h y (List.mem_cons_of_mem _ hy)))
theorem batchC_byt {l : List S49} (h : ∀ x ∈ l, CanE x) : Byt (batch_ l) := (be_byt _ _).append (encsC_byt h)
/-! #### Batch, the program's and the document's -/
theorem mine_loop {l : List S49} (hn : l.length ≤ 8191) : ∀ (d j : Nat) (b : List Int), l.length - j = d → j ≤ l.length → b.length ≤ 2 + 4354 * j →
    ((∀ x ∈ l.drop j, MayE x) → Ev (fun k => frame_Batch.l0 k b l (l.length : Int) (j : Int)) (b ++ encs (l.drop j), 0)) ∧ (¬ (∀ x ∈ l.drop j, MayE x) → Ev (fun k => frame_Batch.l0 k b l (l.length : Int) (j : Int)) ([], 3)) := by
  intro d
  induction d with
  | zero =>
    intro j b hd hj hb
    rw [List.drop_of_length_le (by omega)]
    refine ⟨fun _ => evDown ?_, fun h => absurd (fun _ h => by cases h) h⟩
    simp only [frame_Batch.l0, if_neg (show ¬ (j : Int) < (l.length : Int) by omega), encs, List.append_nil]
    exact Ev.now _
  | succ d ih =>
    intro j b hd hj hb
    have hlt : j < l.length := by omega
    rw [List.drop_eq_getElem_cons hlt]
    have hrd := rdE_at hlt
    generalize l[j] = x at hrd ⊢
    have e3 : wrap64 ((j : Int) + 1) = ((j + 1 : Nat) : Int) := wadd1 (by omega)
    have bad : Ev (fun k => frame_Batch.j1 k b (if x.f2 = true then [] else x.f1) l (l.length : Int) (j : Int) true x.f0 x.f1 x.f2) ([], 3) := by
      refine evDown ?_
      simp only [frame_Batch.j1, if_true]
      exact Ev.now _
    by_cases hx : MayE x
    · obtain ⟨k0, k1, hv⟩ := hx
      have hx : MayE x := ⟨k0, k1, hv⟩
      have hel := encM_len hx
      have hi := ih (j + 1) (b ++ encE x) (by omega) (by omega) (by rw [List.length_append]; omega)
      have ec : b ++ encs (x :: l.drop (j + 1)) = (b ++ encE x) ++ encs (l.drop (j + 1)) := by rw [List.append_assoc]; rfl
      rw [ec]
      have step : ∀ R, Ev (fun k => frame_Batch.l0 k (b ++ encE x) l (l.length : Int) ((j + 1 : Nat) : Int)) R → Ev (fun k => frame_Batch.l0 k b l (l.length : Int) (j : Int)) R := by
        intro R hR
        refine evDown ?_
        simp only [frame_Batch.l0, if_pos (show (j : Int) < (l.length : Int) by omega), if_pos (show 0 ≤ (j : Int) by omega), hrd]
        by_cases hg : x.f2 = true
        · have he : encE x = [0, (x.f0.length : Int) % 256] ++ x.f0 := by unfold encE; rw [if_pos hg]
          rw [he] at hR
          simp only [frame_value.f, if_pos hg, Option.bind_some, if_neg (show ¬ (x.f0.length : Int) < 1 by omega), if_neg (show ¬ (x.f0.length : Int) > 255 by omega), List.length_nil, show decide (((0 : Nat) : Int) > 4095) = false from rfl]
          refine evDown ?_
          simp only [frame_Batch.j1, Bool.false_eq_true, if_false, if_pos hg, Option.bind_some, e3, List.length_cons, List.length_nil, List.length_append]
          simp only [if_pos (show b.length + (0 + 1 + 1) < 140737488355328 by omega), if_pos (show b.length + (0 + 1 + 1) + x.f0.length < 140737488355328 by omega)]
          rw [List.append_assoc b]
          exact hR
        · have v1 := hv.resolve_left hg
          have he : encE x = ([1, (x.f0.length : Int) % 256] ++ x.f0) ++ (be (x.f1.length : Int) 2 ++ x.f1) := by unfold encE; rw [if_neg hg]
          rw [he] at hR
          have u1 := u64w (x := (x.f1.length : Int)) (by omega) (by omega)
          simp only [frame_value.f, if_neg hg, Option.bind_some, if_neg (show ¬ (x.f0.length : Int) < 1 by omega), if_neg (show ¬ (x.f0.length : Int) > 255 by omega), decide_eq_false (show ¬ (x.f1.length : Int) > 4095 by omega)]
          refine evDown ?_
          simp only [frame_Batch.j1, Bool.false_eq_true, if_false, if_neg hg, Option.bind_some, e3, List.length_cons, List.length_nil, List.length_append, u1]
          simp only [if_pos (show b.length + (0 + 1 + 1) < 140737488355328 by omega), if_pos (show b.length + (0 + 1 + 1) + x.f0.length < 140737488355328 by omega)]
          refine Ev.bind (put_ev _ (x.f1.length : Int) 2 (by decide) (by simp only [List.length_append, List.length_cons, List.length_nil]; omega)) ?_
          simp only [List.length_append, List.length_cons, List.length_nil, be_len]
          simp only [if_pos (show b.length + (0 + 1 + 1) + x.f0.length + 2 + x.f1.length < 140737488355328 by omega)]
          have ea : b ++ [1, (x.f0.length : Int) % 256] ++ x.f0 ++ be (x.f1.length : Int) 2 ++ x.f1 = b ++ (([1, (x.f0.length : Int) % 256] ++ x.f0) ++ (be (x.f1.length : Int) 2 ++ x.f1)) := by simp only [List.append_assoc]
          rw [ea]
          exact hR
      refine ⟨fun h => step _ (hi.1 (fun y hy => h y (List.mem_cons_of_mem _ hy))), fun h => step _ (hi.2 (fun hh => h (fun y hy => ?_)))⟩
      rcases List.mem_cons.1 hy with rfl | hy
      · exact hx
      · exact hh y hy
    · refine ⟨fun h => absurd (h x (List.mem_cons_self ..)) hx, fun _ => evDown ?_⟩
      simp only [frame_Batch.l0, if_pos (show (j : Int) < (l.length : Int) by omega), if_pos (show 0 ≤ (j : Int) by omega), hrd, frame_value.f]
      by_cases hg : x.f2 = true
      · rw [if_pos hg] at bad
        simp only [if_pos hg, Option.bind_some]
        by_cases k0 : (x.f0.length : Int) < 1
        · simp only [if_pos k0]; exact bad
        · by_cases k1 : (x.f0.length : Int) > 255
          · simp only [if_neg k0, if_pos k1]; exact bad
          · exact absurd ⟨by omega, by omega, .inl hg⟩ hx
      · rw [if_neg hg] at bad
        simp only [if_neg hg, Option.bind_some]
        by_cases k0 : (x.f0.length : Int) < 1
        · simp only [if_pos k0]; exact bad
        · by_cases k1 : (x.f0.length : Int) > 255
          · simp only [if_neg k0, if_pos k1]; exact bad
          · have hv : (x.f1.length : Int) > 4095 := by
              by_cases hv : (x.f1.length : Int) > 4095
              · exact hv
              · exact absurd ⟨by omega, by omega, .inr (by omega)⟩ hx
            simp only [if_neg k0, if_neg k1, decide_eq_true hv]
            exact bad
theorem mine_batch (l : List S49) : (l.length ≤ 8191 ∧ (∀ x ∈ l, MayE x) → Ev (fun k => frame_Batch.f k l) (batch_ l, 0)) ∧ (¬ (l.length ≤ 8191 ∧ ∀ x ∈ l, MayE x) → Ev (fun k => frame_Batch.f k l) ([], 3)) := by
  by_cases hn : l.length ≤ 8191
  · have u1 := u64w (x := (l.length : Int)) (by omega) (by omega)
    have hl := mine_loop hn l.length 0 ([] ++ be (l.length : Int) 2) rfl (Nat.zero_le _) (by simp [be_len])
    rw [List.drop_zero, List.nil_append] at hl
    have step : ∀ R, Ev (fun k => frame_Batch.l0 k (be (l.length : Int) 2) l (l.length : Int) 0) R → Ev (fun k => frame_Batch.f k l) R := by
      intro R hR
      unfold frame_Batch.f
      simp only [if_neg (show ¬ (l.length : Int) > 8191 by omega), u1]
      refine Ev.bind (put_ev [] (l.length : Int) 2 (by decide) (by simp)) ?_
      rw [List.nil_append]
      exact hR
    exact ⟨fun h => step _ (hl.1 h.2), fun h => step _ (hl.2 (fun hh => h ⟨hn, hh⟩))⟩
  · refine ⟨fun h => absurd h.1 hn, fun _ => ?_⟩
    unfold frame_Batch.f
    simp only [if_pos (show (l.length : Int) > 8191 by omega)]
    exact Ev.now _
def mayAll (l : List S49) : Bool := l.all (fun x => decide (MayE x))
theorem mayAll_iff (l : List S49) : mayAll l = true ↔ ∀ x ∈ l, MayE x := by
  unfold mayAll
  simp only [List.all_eq_true, decide_eq_true_eq]
theorem mayAll_cons (x : S49) (l : List S49) : mayAll (x :: l) = (decide (MayE x) && mayAll l) := rfl
theorem may_loop {l : List S49} (hn : l.length ≤ 8191) : ∀ (d j : Nat), l.length - j = d → j ≤ l.length → Ev (fun k => marigraphref4_May.l0 k l (j : Int)) (mayAll (l.drop j)) := by
  intro d
  induction d with
  | zero =>
    intro j hd hj
    rw [List.drop_of_length_le (by omega)]
    refine evDown ?_
    simp only [marigraphref4_May.l0, if_neg (show ¬ (j : Int) < (l.length : Int) by omega)]
    exact Ev.now _
  | succ d ih =>
    intro j hd hj
    have hlt : j < l.length := by omega
    have hi := ih (j + 1) (by omega) (by omega)
    rw [List.drop_eq_getElem_cons hlt, mayAll_cons]
    have hrd := rdE_at hlt
    generalize l[j] = x at hrd ⊢
    refine evDown ?_
    simp only [marigraphref4_May.l0, if_pos (show (j : Int) < (l.length : Int) by omega), if_pos (show 0 ≤ (j : Int) by omega), hrd, wadd1 (show j ≤ 10000000 by omega)]
    by_cases k0 : (x.f0.length : Int) < 1
    · rw [decide_eq_false (show ¬ MayE x from fun h => by have := h.1; omega), Bool.false_and]
      simp only [if_pos k0]
      exact Ev.now _
    · by_cases k1 : (x.f0.length : Int) > 255
      · rw [decide_eq_false (show ¬ MayE x from fun h => by have := h.2.1; omega), Bool.false_and]
        simp only [if_neg k0, if_pos k1]
        exact Ev.now _
      · simp only [if_neg k0, if_neg k1]
        by_cases hg : x.f2 = true
        · rw [decide_eq_true (show MayE x from ⟨by omega, by omega, .inl hg⟩), Bool.true_and]
          simp only [if_pos hg]
          exact hi
        · by_cases hv : (x.f1.length : Int) > 4095
          · rw [decide_eq_false (show ¬ MayE x from fun h => by have := h.2.2.resolve_left hg; omega), Bool.false_and]
            simp only [if_neg hg, if_pos hv]
            exact Ev.now _
          · rw [decide_eq_true (show MayE x from ⟨by omega, by omega, .inr (by omega)⟩), Bool.true_and]
            simp only [if_neg hg, if_neg hv]
            exact hi
theorem may_tells (l : List S49) : Ev (fun k => marigraphref4_May.f k l) (decide (l.length ≤ 8191) && mayAll l) := by
  unfold marigraphref4_May.f
  by_cases hn : l.length ≤ 8191
  · simp only [if_neg (show ¬ (l.length : Int) > 8191 by omega)]
    have := may_loop hn l.length 0 rfl (Nat.zero_le _)
    rw [List.drop_zero] at this
    rw [decide_eq_true hn, Bool.true_and]
    exact this
  · simp only [if_pos (show (l.length : Int) > 8191 by omega)]
    rw [decide_eq_false hn, Bool.false_and]
    exact Ev.now _
theorem refB_loop {l : List S49} (hn : l.length ≤ 8191) (hm : ∀ x ∈ l, MayE x) : ∀ (d j : Nat) (b : List Int), l.length - j = d → j ≤ l.length → b.length ≤ 2 + 4354 * j → Ev (fun k => marigraphref4_Batch.l0 k l b (j : Int)) (b ++ encs (l.drop j)) := by
  intro d
  induction d with
  | zero =>
    intro j b hd hj hb
    rw [List.drop_of_length_le (by omega)]
    refine evDown ?_
    simp only [marigraphref4_Batch.l0, if_neg (show ¬ (j : Int) < (l.length : Int) by omega), encs, List.append_nil]
    exact Ev.now _
  | succ d ih =>
    intro j b hd hj hb
    have hlt : j < l.length := by omega
    have hx := hm _ (List.getElem_mem hlt)
    rw [List.drop_eq_getElem_cons hlt]
    have hrd := rdE_at hlt
    generalize l[j] = x at hrd hx ⊢
    obtain ⟨k0, k1, hv⟩ := hx
    have hel := encM_len ⟨k0, k1, hv⟩
    have hi := ih (j + 1) (b ++ encE x) (by omega) (by omega) (by rw [List.length_append]; omega)
    have ec : b ++ encs (x :: l.drop (j + 1)) = (b ++ encE x) ++ encs (l.drop (j + 1)) := by rw [List.append_assoc]; rfl
    rw [ec]
    refine evDown ?_
    simp only [marigraphref4_Batch.l0, if_pos (show (j : Int) < (l.length : Int) by omega), if_pos (show 0 ≤ (j : Int) by omega), hrd, wadd1 (show j ≤ 10000000 by omega)]
    by_cases hg : x.f2 = true
    · have he : encE x = [0, (x.f0.length : Int) % 256] ++ x.f0 := by unfold encE; rw [if_pos hg]
      rw [he] at hi ⊢
      simp only [if_pos hg, Option.bind_some, List.length_cons, List.length_nil, List.length_append]
      simp only [if_pos (show b.length + (0 + 1 + 1) < 140737488355328 by omega), if_pos (show b.length + (0 + 1 + 1) + x.f0.length < 140737488355328 by omega)]
      rw [List.append_assoc b]
      exact hi
    · have v1 := hv.resolve_left hg
      have he : encE x = ([1, (x.f0.length : Int) % 256] ++ x.f0) ++ (be (x.f1.length : Int) 2 ++ x.f1) := by unfold encE; rw [if_neg hg]
      rw [he] at hi ⊢
      have u1 := u64w (x := (x.f1.length : Int)) (by omega) (by omega)
      simp only [if_neg hg, Option.bind_some, List.length_cons, List.length_nil, List.length_append, u1]
      simp only [if_pos (show b.length + (0 + 1 + 1) < 140737488355328 by omega), if_pos (show b.length + (0 + 1 + 1) + x.f0.length < 140737488355328 by omega)]
      refine Ev.bind (rput_tells _ (x.f1.length : Int) 2 (by decide) (by simp only [List.length_append, List.length_cons, List.length_nil]; omega)) ?_
      simp only [List.length_append, List.length_cons, List.length_nil, be_len]
      simp only [if_pos (show b.length + (0 + 1 + 1) + x.f0.length + 2 + x.f1.length < 140737488355328 by omega)]
      have ea : b ++ [1, (x.f0.length : Int) % 256] ++ x.f0 ++ be (x.f1.length : Int) 2 ++ x.f1 = b ++ (([1, (x.f0.length : Int) % 256] ++ x.f0) ++ (be (x.f1.length : Int) 2 ++ x.f1)) := by simp only [List.append_assoc]
      rw [ea]
      exact hi
theorem refB_tells {l : List S49} (hn : l.length ≤ 8191) (hm : ∀ x ∈ l, MayE x) : Ev (fun k => marigraphref4_Batch.f k l) (batch_ l) := by
  have u1 := u64w (x := (l.length : Int)) (by omega) (by omega)
  have hl := refB_loop hn hm l.length 0 ([] ++ be (l.length : Int) 2) rfl (Nat.zero_le _) (by simp [be_len])
  rw [List.drop_zero, List.nil_append] at hl
  unfold marigraphref4_Batch.f
  rw [u1]
  refine Ev.bind (rput_tells [] (l.length : Int) 2 (by decide) (by simp)) ?_
  rw [List.nil_append]
  exact hl
theorem batch_any (l : List S49) : Ev (fun k => marigraphlaw4_batch.f k l) true := by
  unfold marigraphlaw4_batch.f
  by_cases h : l.length ≤ 8191 ∧ ∀ x ∈ l, MayE x
  · have hm := may_tells l
    rw [decide_eq_true h.1, (mayAll_iff l).2 h.2, Bool.true_and] at hm
    refine Ev.bind ((mine_batch l).1 h) (Ev.bind hm ?_)
    simp only [if_true]
    refine Ev.bind (refB_tells h.1 h.2) ?_
    simp only [beq_self_eq_true]
    exact Ev.now _
  · have hm := may_tells l
    have hmf : (decide (l.length ≤ 8191) && mayAll l) = false := by
      cases hb : decide (l.length ≤ 8191) && mayAll l with
      | false => rfl
      | true =>
        rw [Bool.and_eq_true, decide_eq_true_eq, mayAll_iff] at hb
        exact absurd hb h
    rw [hmf] at hm
    refine Ev.bind ((mine_batch l).2 h) (Ev.bind hm ?_)
    simp only [Bool.false_eq_true, if_false, if_true]
    exact Ev.now _
/-! #### reading, the program's -/
theorem num_byt1 {q : List Int} (hq : Byt q) (hl : ¬ q.length < 1) : 0 ≤ num 1 q ∧ num 1 q ≤ 255 := by
  match q, hl with
  | a :: r, _ => rw [num_1 (hq a (List.mem_cons_self ..))]; exact hq a (List.mem_cons_self ..)
  | [], hl => exact absurd (Nat.zero_lt_one) hl
theorem num_byt2 {q : List Int} (hq : Byt q) (hl : ¬ q.length < 2) : 0 ≤ num 2 q ∧ num 2 q ≤ 65535 := by
  match q, hl with
  | a :: b :: r, _ =>
    have ha := hq a (by simp)
    have hb := hq b (by simp)
    rw [num_2 ha hb]
    omega
  | [_], hl => exact absurd (by simp) hl
  | [], hl => exact absurd (by simp) hl
/-- Of bytes something is read; a Gone one has no value; all are bytes. -/
theorem entry_some {q : List Int} (hq : Byt q) : ∃ o, entryI q = some o ∧ ∀ x r, o = some (x, r) → Byt r ∧ Byt x.f0 ∧ Byt x.f1 ∧ (x.f2 = true → x.f1 = []) := by
  unfold entryI
  by_cases c1 : q.length < 1
  · exact ⟨none, by rw [if_pos c1], fun _ _ h => by cases h⟩
  rw [if_neg c1]
  have h1 := hq.drop 1
  generalize q.drop 1 = q1 at h1 ⊢
  by_cases c2 : q1.length < 1
  · exact ⟨none, by rw [if_pos c2], fun _ _ h => by cases h⟩
  have n1 := num_byt1 h1 c2
  have h2 := h1.drop 1
  rw [if_neg c2, if_pos n1.1]
  generalize num 1 q1 = n at n1 ⊢
  generalize q1.drop 1 = q2 at h2 ⊢
  by_cases c3 : q2.length < n.toNat
  · exact ⟨none, by rw [if_pos c3], fun _ _ h => by cases h⟩
  rw [if_neg c3]
  have hk := h2.take n.toNat
  have h3 := h2.drop n.toNat
  generalize q2.take n.toNat = key at hk ⊢
  generalize q2.drop n.toNat = q3 at h3 ⊢
  by_cases c4 : num 1 q = 0
  · refine ⟨_, by rw [if_pos c4], fun x r h => ?_⟩
    injection h with h
    injection h with e1 e2
    subst e1
    subst e2
    exact ⟨h3, hk, fun _ h => (by cases h), fun _ => rfl⟩
  rw [if_neg c4]
  by_cases c5 : q3.length < 2
  · exact ⟨none, by rw [if_pos c5], fun _ _ h => by cases h⟩
  have n2 := num_byt2 h3 c5
  have h4 := h3.drop 2
  rw [if_neg c5, if_pos n2.1]
  generalize num 2 q3 = m at n2 ⊢
  generalize q3.drop 2 = q4 at h4 ⊢
  by_cases c6 : q4.length < m.toNat
  · exact ⟨none, by rw [if_pos c6], fun _ _ h => by cases h⟩
  refine ⟨_, by rw [if_neg c6], fun x r h => ?_⟩
  injection h with h
  injection h with e1 e2
  subst e1
  subst e2
  exact ⟨h4.drop _, hk, h4.take _, fun h => by cases h⟩
def OwnE (x : S49) : Prop := Byt x.f0 ∧ Byt x.f1 ∧ (x.f2 = true → x.f1 = [])
theorem read_some : ∀ (n : Nat) (q : List Int) (acc : List S49), Byt q → (∀ x ∈ acc, OwnE x) → acc.length + n ≤ 100000 → ∃ l, readI n q acc = some l ∧ ∀ x ∈ l, OwnE x
  | 0, _, acc, _, ha, _ => ⟨acc, rfl, ha⟩
  | n + 1, q, acc, hq, ha, hl => by
    obtain ⟨o, ho, hx⟩ := entry_some hq
    rw [readI, if_pos (by omega), ho]
    cases o with
    | none => exact ⟨[], rfl, fun _ h => by cases h⟩
    | some p =>
      obtain ⟨x, r⟩ := p
      obtain ⟨g1, g2, g3, g4⟩ := hx x r rfl
      refine read_some n r (acc ++ [x]) g1 (fun y hy => ?_) (by rw [List.length_append, List.length_singleton]; omega)
      rcases List.mem_append.1 hy with hy | hy
      · exact ha y hy
      · obtain rfl := List.mem_singleton.1 hy
        exact ⟨g2, g3, g4⟩
theorem read_any {x : List Int} (hx : Byt x) (hl : x.length ≤ 1000000) : ∃ l, frame_read.f x = some l ∧ ∀ y ∈ l, OwnE y := by
  unfold frame_read.f
  rw [if_pos (by omega)]
  by_cases c : x.length < 2
  · exact ⟨[], by rw [if_pos c], fun _ h => by cases h⟩
  have n2 := num_byt2 hx c
  rw [if_neg c, if_pos n2.1]
  exact read_some _ _ [] (hx.drop 2) (fun _ h => by cases h) (by simp only [List.length_nil]; omega)
theorem entryC_enc {x : S49} (h : CanE x) (r : List Int) : entryI (encE x ++ r) = some (some (x, r)) := by
  obtain ⟨k, v, g⟩ := x
  have k0 := h.k0; have k1 := h.k1; have v1 := h.v1
  simp only at k0 k1 v1
  have km : (k.length : Int) % 256 = (k.length : Int) := by omega
  have hk : ∀ q : List Int, num 1 ((k.length : Int) :: q) = (k.length : Int) := fun q => num_1 ⟨by omega, by omega⟩ q
  unfold entryI encE
  cases g with
  | true =>
    obtain rfl : v = [] := h.gn rfl
    simp only [if_true, List.cons_append, List.nil_append, km, List.drop_succ_cons, List.drop_zero, List.length_cons, hk, Int.toNat_natCast, num_1 (show (0 : Int) ≤ 0 ∧ (0 : Int) ≤ 255 by decide)]
    rw [if_neg (by omega), if_neg (by omega), if_pos (by omega), if_neg (by rw [List.length_append]; omega), List.take_left' rfl, List.drop_left' rfl]
  | false =>
    have hv : ∀ q : List Int, num 2 ((v.length : Int) / 256 :: (v.length : Int) % 256 :: q) = (v.length : Int) := fun q => by rw [num_2 (by omega) (by omega)]; omega
    rw [be2 (show v.length < 65536 by omega)]
    simp only [Bool.false_eq_true, if_false, List.cons_append, List.nil_append, List.append_assoc, km, List.drop_succ_cons, List.drop_zero, List.length_cons, hk, Int.toNat_natCast, num_1 (show (0 : Int) ≤ 1 ∧ (1 : Int) ≤ 255 by decide), List.take_left' (rfl : k.length = k.length), List.drop_left' (rfl : k.length = k.length), hv, List.take_left' (rfl : v.length = v.length), List.drop_left' (rfl : v.length = v.length)]
    rw [if_neg (by omega), if_neg (by omega), if_pos (by omega), if_neg (by rw [List.length_append]; omega), if_neg (by decide), if_neg (by omega), if_pos (by omega), if_neg (by rw [List.length_append]; omega)]
theorem readC_encs : ∀ (l : List S49) (acc : List S49), (∀ x ∈ l, CanE x) → acc.length + l.length ≤ 100000 → readI l.length (encs l) acc = some (acc ++ l)
  | [], acc, _, _ => by rw [List.append_nil]; rfl
  | x :: l, acc, h, hl => by
    have hx := h x (List.mem_cons_self ..)
    rw [List.length_cons] at hl
    have hi := readC_encs l (acc ++ [x]) (fun y hy => h y (List.mem_cons_of_mem _ hy)) (by rw [List.length_append, List.length_singleton]; omega)
    show readI (l.length + 1) (encE x ++ encs l) acc = _
    rw [readI, if_pos (by omega), entryC_enc hx]
    show readI l.length (encs l) (acc ++ [x]) = _
    rw [hi, List.append_assoc]
    rfl
theorem batch_cons {l : List S49} (hl : l.length ≤ 8191) : batch_ l = (l.length : Int) / 256 :: (l.length : Int) % 256 :: encs l := by
  unfold batch_
  rw [be2 (by omega)]
  rfl
theorem readC_batch {l : List S49} (h : ∀ x ∈ l, CanE x) (hl : l.length ≤ 8191) (hb : (batch_ l).length ≤ 1000000) : frame_read.f (batch_ l) = some l := by
  rw [batch_cons hl] at hb ⊢
  have hn : num 2 ((l.length : Int) / 256 :: (l.length : Int) % 256 :: encs l) = (l.length : Int) := by rw [num_2 (by omega) (by omega)]; omega
  unfold frame_read.f
  rw [if_pos (by omega), if_neg (by simp only [List.length_cons]; omega), hn, if_pos (by omega), Int.toNat_natCast, List.drop_succ_cons, List.drop_succ_cons, List.drop_zero, readC_encs l [] h (by simp only [List.length_nil]; omega)]
  rfl
/-- Bytes that Batch wrote. -/
def Wrote (l : List S49) (x : List Int) : Prop := l.length ≤ 8191 ∧ (∀ y ∈ l, CanE y) ∧ x = batch_ l
theorem mine_entries {x : List Int} (hx : Byt x) (hl : x.length ≤ 1000000) : (∃ l, Wrote l x ∧ Ev (fun k => frame_Entries.f k x) (l, 0)) ∨ ((∀ l, ¬ Wrote l x) ∧ Ev (fun k => frame_Entries.f k x) ([], 12)) := by
  obtain ⟨l, hr, ho⟩ := read_any hx hl
  have hno : ∀ l', Wrote l' x → l' = l := by
    rintro l' ⟨h1, h2, rfl⟩
    have := readC_batch h2 h1 hl
    rw [hr] at this
    exact (Option.some.inj this).symm
  by_cases hm : l.length ≤ 8191 ∧ ∀ y ∈ l, MayE y
  · have hcan : ∀ y ∈ l, CanE y := by
      intro y hy
      obtain ⟨o1, o2, o3⟩ := ho y hy
      obtain ⟨m1, m2, m3⟩ := hm.2 y hy
      refine ⟨m1, m2, ?_, o1, o2, o3⟩
      rcases m3 with m3 | m3
      · rw [o3 m3]; exact Nat.zero_le _
      · exact m3
    by_cases he : batch_ l = x
    · refine .inl ⟨l, ⟨hm.1, hcan, he.symm⟩, ?_⟩
      unfold frame_Entries.f
      rw [hr]
      simp only [Option.bind_some]
      refine Ev.bind ((mine_batch l).1 hm) ?_
      simp only [if_true, he]
      exact Ev.now _
    · refine .inr ⟨fun l' hw => he (by rw [← hno l' hw]; exact hw.2.2.symm), ?_⟩
      unfold frame_Entries.f
      rw [hr]
      simp only [Option.bind_some]
      refine Ev.bind ((mine_batch l).1 hm) ?_
      simp only [if_true, if_neg (fun h => he ((sn_eq (batchC_byt hcan) hx).1 h))]
      exact Ev.now _
  · refine .inr ⟨fun l' hw => hm (by rw [← hno l' hw]; exact ⟨hw.1, fun y hy => (hw.2.1 y hy).may⟩), ?_⟩
    unfold frame_Entries.f
    rw [hr]
    simp only [Option.bind_some]
    refine Ev.bind ((mine_batch l).2 hm) ?_
    simp only [if_neg (show ¬ (3 : Int) = 0 by decide)]
    exact Ev.now _
/-! #### reading, the document's -/
theorem rNum_ok {s : Nat} {q : List Int} (h : ¬ q.length < s) : rNum s (q, false) = (num s q, (q.drop s, false)) := by
  unfold rNum
  rw [if_neg h]
  rfl
theorem rNum_short {s : Nat} {q : List Int} {b : Bool} (h : q.length < s) : rNum s (q, b) = (0, ([], true)) := by
  unfold rNum
  rw [if_pos h]
theorem rSome_ok {n : Nat} {q : List Int} (h : ¬ q.length < n) : rSome n (q, false) = (q.take n, (q.drop n, false)) := by
  unfold rSome
  rw [if_neg (fun hh => hh.elim (fun e => Bool.noConfusion e) h)]
theorem rSome_bad {n : Nat} {q : List Int} {b : Bool} (h : b = true ∨ q.length < n) : rSome n (q, b) = ([], ([], true)) := by
  unfold rSome
  rw [if_pos h]
theorem refL_bad (n : Nat) (acc : List S49) : refL n ([], true) acc = some ([], false) := by
  cases n with
  | zero => rw [refL, if_pos (.inl rfl)]
  | succ n => rw [refL, if_pos rfl]
/-- What Entries finds: entries that were written so, or none. -/
theorem refL_finds : ∀ (n : Nat) (q : List Int) (acc : List S49), Byt q → acc.length + n ≤ 100000 →
    refL n (q, false) acc = some ([], false) ∨ ∃ l, refL n (q, false) acc = some (acc ++ l, true) ∧ l.length = n ∧ q = encs l ∧ ∀ x ∈ l, CanE x
  | 0, q, acc, _, _ => by
    rw [refL]
    by_cases h : 0 < q.length
    · rw [if_pos (.inr h)]; exact .inl rfl
    · rw [if_neg (fun hh => hh.elim (fun e => Bool.noConfusion e) h)]
      obtain rfl : q = [] := List.eq_nil_of_length_eq_zero (by omega)
      exact .inr ⟨[], by rw [List.append_nil], rfl, rfl, fun _ h => by cases h⟩
  | n + 1, q, acc, hq, hl => by
    rw [refL, if_neg (fun e => Bool.noConfusion e), if_pos (by omega)]
    by_cases c1 : q.length < 1
    · rw [rNum_short c1]
      rw [show rNum 1 (0, (([] : List Int), true)).2 = (0, ([], true)) from rNum_short (by decide), rSome_bad (.inl rfl)]
      exact .inl (by rw [if_pos (by decide), if_pos (.inr rfl)])
    obtain ⟨a, q1, rfl⟩ : ∃ a q1, q = a :: q1 := by
      cases q with
      | nil => exact absurd Nat.zero_lt_one c1
      | cons a q1 => exact ⟨a, q1, rfl⟩
    obtain ⟨ha, hq1⟩ := hq.cons
    rw [rNum_ok c1, num_1 ha]
    simp only [List.drop_succ_cons, List.drop_zero]
    by_cases c2 : q1.length < 1
    · rw [rNum_short c2, rSome_bad (.inl rfl)]
      exact .inl (by rw [if_pos (by decide), if_pos (.inr rfl)])
    obtain ⟨b, q2, rfl⟩ : ∃ b q2, q1 = b :: q2 := by
      cases q1 with
      | nil => exact absurd Nat.zero_lt_one c2
      | cons b q2 => exact ⟨b, q2, rfl⟩
    obtain ⟨hb, hq2⟩ := hq1.cons
    rw [rNum_ok c2, num_1 hb]
    simp only [List.drop_succ_cons, List.drop_zero]
    rw [if_pos hb.1]
    by_cases c3 : q2.length < b.toNat
    · rw [rSome_bad (.inr c3)]
      exact .inl (by rw [if_pos (.inr rfl)])
    rw [rSome_ok c3]
    have hkl : (q2.take b.toNat).length = b.toNat := by rw [List.length_take]; omega
    have hk := hq2.take b.toNat
    have h3 := hq2.drop b.toNat
    have e2 : q2 = q2.take b.toNat ++ q2.drop b.toNat := (List.take_append_drop _ _).symm
    generalize q2.take b.toNat = key at hkl hk e2 ⊢
    generalize q2.drop b.toNat = q3 at h3 e2 ⊢
    subst e2
    by_cases c4 : a > 1 ∨ key.length = 0
    · exact .inl (by rw [if_pos c4])
    rw [if_neg c4]
    have ha1 : ¬ a > 1 := fun h => c4 (.inl h)
    have hk0 : ¬ key.length = 0 := fun h => c4 (.inr h)
    have hbk : b = (key.length : Int) := by omega
    have hk1 : key.length ≤ 255 := by omega
    have km : (key.length : Int) % 256 = (key.length : Int) := by omega
    by_cases c5 : a = 1
    · subst c5
      rw [if_pos rfl]
      by_cases c6 : q3.length < 2
      · rw [rNum_short c6, rSome_bad (.inl rfl)]
        refine .inl ?_
        rw [if_neg (by decide), if_pos (by decide)]
        exact refL_bad _ _
      obtain ⟨c, d, q4, rfl⟩ : ∃ c d q4, q3 = c :: d :: q4 := by
        match q3, c6 with
        | c :: d :: q4, _ => exact ⟨c, d, q4, rfl⟩
        | [_], h => exact absurd (by simp) h
        | [], h => exact absurd (by simp) h
      obtain ⟨hc, h3'⟩ := h3.cons
      obtain ⟨hd, h4⟩ := h3'.cons
      rw [rNum_ok c6, num_2 hc hd]
      simp only [List.drop_succ_cons, List.drop_zero]
      by_cases c7 : c * 256 + d > 4095
      · exact .inl (by rw [if_pos c7])
      rw [if_neg c7, if_pos (by omega)]
      by_cases c8 : q4.length < (c * 256 + d).toNat
      · rw [rSome_bad (.inr c8)]
        exact .inl (refL_bad _ _)
      rw [rSome_ok c8]
      have hvl : (q4.take (c * 256 + d).toNat).length = (c * 256 + d).toNat := by rw [List.length_take]; omega
      have hv := h4.take (c * 256 + d).toNat
      have h5 := h4.drop (c * 256 + d).toNat
      have e4 : q4 = q4.take (c * 256 + d).toNat ++ q4.drop (c * 256 + d).toNat := (List.take_append_drop _ _).symm
      generalize q4.take (c * 256 + d).toNat = val at hvl hv e4 ⊢
      generalize q4.drop (c * 256 + d).toNat = q5 at h5 e4 ⊢
      subst e4
      have hcan : CanE ⟨key, val, false⟩ := ⟨by show 1 ≤ key.length; omega, hk1, by show val.length ≤ 4095; omega, hk, hv, fun h => by cases h⟩
      rcases refL_finds n q5 (acc ++ [⟨key, val, false⟩]) h5 (by rw [List.length_append, List.length_singleton]; omega) with hi | ⟨l, e1, e2, e3, e4⟩
      · exact .inl hi
      · refine .inr ⟨⟨key, val, false⟩ :: l, ?_, by rw [List.length_cons, e2], ?_, fun x hx => ?_⟩
        · refine e1.trans ?_
          rw [List.append_assoc]
          rfl
        · show _ = encE ⟨key, val, false⟩ ++ encs l
          unfold encE
          rw [← e3, be2 (show val.length < 65536 by omega)]
          simp only [Bool.false_eq_true, if_false, List.cons_append, List.nil_append, List.append_assoc, km]
          rw [hbk, show c = (val.length : Int) / 256 by omega, show d = (val.length : Int) % 256 by omega]
        · rcases List.mem_cons.1 hx with rfl | hx
          · exact hcan
          · exact e4 x hx
    · rw [if_neg c5]
      obtain rfl : a = 0 := by omega
      have hcan : CanE ⟨key, [], true⟩ := ⟨by show 1 ≤ key.length; omega, hk1, Nat.zero_le _, hk, fun _ h => (by cases h), fun _ => rfl⟩
      rcases refL_finds n q3 (acc ++ [⟨key, [], true⟩]) h3 (by rw [List.length_append, List.length_singleton]; omega) with hi | ⟨l, e1, e2, e3, e4⟩
      · exact .inl hi
      · refine .inr ⟨⟨key, [], true⟩ :: l, ?_, by rw [List.length_cons, e2], ?_, fun x hx => ?_⟩
        · refine e1.trans ?_
          rw [List.append_assoc]
          rfl
        · show _ = encE ⟨key, [], true⟩ ++ encs l
          unfold encE
          rw [← e3]
          simp only [if_true, List.cons_append, List.nil_append, List.append_assoc, km]
          rw [hbk]
        · rcases List.mem_cons.1 hx with rfl | hx
          · exact hcan
          · exact e4 x hx
theorem refL_encs : ∀ (l : List S49) (acc : List S49), (∀ x ∈ l, CanE x) → acc.length + l.length ≤ 100000 → refL l.length (encs l, false) acc = some (acc ++ l, true)
  | [], acc, _, _ => by
    show refL 0 ([], false) acc = _
    rw [refL, if_neg (by decide), List.append_nil]
  | x :: l, acc, h, hl => by
    obtain ⟨k, v, g⟩ := x
    have hx := h _ (List.mem_cons_self ..)
    have k0 := hx.k0; have k1 := hx.k1; have v1 := hx.v1
    simp only at k0 k1 v1
    rw [List.length_cons] at hl
    have hi := refL_encs l (acc ++ [⟨k, v, g⟩]) (fun y hy => h y (List.mem_cons_of_mem _ hy)) (by rw [List.length_append, List.length_singleton]; omega)
    have km : (k.length : Int) % 256 = (k.length : Int) := by omega
    have hnk : ∀ q : List Int, rNum 1 ((k.length : Int) :: q, false) = ((k.length : Int), (q, false)) := fun q => by rw [rNum_ok (by simp only [List.length_cons]; omega), num_1 ⟨by omega, by omega⟩]; rfl
    have hsk : ∀ q : List Int, rSome k.length (k ++ q, false) = (k, (q, false)) := fun q => by rw [rSome_ok (by rw [List.length_append]; omega), List.take_left' rfl, List.drop_left' rfl]
    have hk0 : ¬ k.length = 0 := by omega
    show refL (l.length + 1) (encE ⟨k, v, g⟩ ++ encs l, false) acc = _
    rw [show acc ++ ⟨k, v, g⟩ :: l = (acc ++ [⟨k, v, g⟩]) ++ l by rw [List.append_assoc]; rfl, ← hi]
    rw [refL, if_neg (fun e => Bool.noConfusion e), if_pos (by omega)]
    unfold encE
    cases g with
    | true =>
      obtain rfl : v = [] := hx.gn rfl
      have hn0 : ∀ q : List Int, rNum 1 ((0 : Int) :: q, false) = (0, (q, false)) := fun q => by rw [rNum_ok (by simp only [List.length_cons]; omega), num_1 (by decide)]; rfl
      simp only [if_true, List.cons_append, List.nil_append, km, hn0, hnk, Int.toNat_natCast, hsk]
      rw [if_pos (by omega), if_neg (fun hh => hh.elim (by decide) hk0), if_neg (by decide)]
      rfl
    | false =>
      have hn1 : ∀ q : List Int, rNum 1 ((1 : Int) :: q, false) = (1, (q, false)) := fun q => by rw [rNum_ok (by simp only [List.length_cons]; omega), num_1 (by decide)]; rfl
      have hnv : ∀ q : List Int, rNum 2 ((v.length : Int) / 256 :: (v.length : Int) % 256 :: q, false) = ((v.length : Int), (q, false)) := fun q => by
        rw [rNum_ok (by simp only [List.length_cons]; omega), num_2 (by omega) (by omega)]
        rw [show (v.length : Int) / 256 * 256 + (v.length : Int) % 256 = (v.length : Int) by omega]
        rfl
      have hsv : ∀ q : List Int, rSome v.length (v ++ q, false) = (v, (q, false)) := fun q => by rw [rSome_ok (by rw [List.length_append]; omega), List.take_left' rfl, List.drop_left' rfl]
      rw [be2 (show v.length < 65536 by omega)]
      simp only [Bool.false_eq_true, if_false, List.cons_append, List.nil_append, List.append_assoc, km, hn1, hnk, Int.toNat_natCast, hsk, hnv, hsv]
      rw [if_pos (by omega), if_neg (fun hh => hh.elim (by decide) hk0), if_pos trivial, if_neg (by omega), if_pos (by omega)]
      rfl
theorem ref_entries {x : List Int} (hx : Byt x) (hl : x.length ≤ 1000000) : (∃ l, Wrote l x ∧ marigraphref4_Entries.f x = some (l, true)) ∨ ((∀ l, ¬ Wrote l x) ∧ marigraphref4_Entries.f x = some ([], false)) := by
  have hyes : ∀ l, Wrote l x → marigraphref4_Entries.f x = some (l, true) := by
    rintro l ⟨h1, h2, rfl⟩
    have hbc := batch_cons h1
    have hm : refMany (batch_ l) = false := by
      unfold refMany
      rw [hbc]
      have r0 : rd ((l.length : Int) / 256 :: (l.length : Int) % 256 :: encs l) 0 = (l.length : Int) / 256 := rfl
      have r1 : rd ((l.length : Int) / 256 :: (l.length : Int) % 256 :: encs l) 1 = (l.length : Int) % 256 := rfl
      rw [r0, r1, bi64 (x := (l.length : Int) / 256) (by omega) (by omega), bi64 (x := (l.length : Int) % 256) (by omega) (by omega), bi64 (x := (l.length : Int) / 256 * 256) (by omega) (by omega), bi64 (by omega) (by omega)]
      rw [decide_eq_false (show ¬ 8191 < (l.length : Int) / 256 * 256 + (l.length : Int) % 256 by omega), Bool.and_false]
    unfold marigraphref4_Entries.f
    rw [if_pos (by omega), hm, if_neg (fun e => Bool.noConfusion e), hbc]
    have hn : rNum 2 ((l.length : Int) / 256 :: (l.length : Int) % 256 :: encs l, false) = ((l.length : Int), (encs l, false)) := by
      rw [rNum_ok (by simp only [List.length_cons]; omega), num_2 (by omega) (by omega)]
      rw [show (l.length : Int) / 256 * 256 + (l.length : Int) % 256 = (l.length : Int) by omega]
      rfl
    rw [hn]
    show refL ((l.length : Int)).toNat (encs l, false) [] = _
    rw [Int.toNat_natCast, refL_encs l [] h2 (by simp only [List.length_nil]; omega)]
    rfl
  by_cases hw : ∃ l, Wrote l x
  · obtain ⟨l, hw⟩ := hw
    exact .inl ⟨l, hw, hyes l hw⟩
  · refine .inr ⟨fun l h => hw ⟨l, h⟩, ?_⟩
    unfold marigraphref4_Entries.f
    rw [if_pos (by omega)]
    by_cases hm : refMany x = true
    · rw [if_pos hm]
    rw [if_neg hm]
    by_cases c : x.length < 2
    · rw [rNum_short c]
      exact refL_bad _ _
    obtain ⟨a, b, q, rfl⟩ : ∃ a b q, x = a :: b :: q := by
      match x, c with
      | a :: b :: q, _ => exact ⟨a, b, q, rfl⟩
      | [_], h => exact absurd (by simp) h
      | [], h => exact absurd (by simp) h
    obtain ⟨ha, h1⟩ := hx.cons
    obtain ⟨hb, hq⟩ := h1.cons
    have hn : ¬ 8191 < a * 256 + b := by
      intro h
      apply hm
      unfold refMany
      have r0 : rd (a :: b :: q) 0 = a := rfl
      have r1 : rd (a :: b :: q) 1 = b := rfl
      rw [r0, r1, bi64 (x := a) (by omega) (by omega), bi64 (x := b) (by omega) (by omega), bi64 (x := a * 256) (by omega) (by omega), bi64 (by omega) (by omega), decide_eq_true h, decide_eq_true (by simp only [List.length_cons]; omega)]
      rfl
    rw [rNum_ok c, num_2 ha hb]
    show refL (a * 256 + b).toNat (q, false) [] = _
    rcases refL_finds (a * 256 + b).toNat q [] hq (by simp only [List.length_nil]; omega) with h | ⟨l, e1, e2, e3, e4⟩
    · exact h
    · refine absurd ⟨l, by omega, e4, ?_⟩ hw
      rw [batch_cons (by omega), ← e3, show a = (l.length : Int) / 256 by omega, show b = (l.length : Int) % 256 by omega]
theorem wrote_one {l m : List S49} {x : List Int} (hl : x.length ≤ 1000000) (h1 : Wrote l x) (h2 : Wrote m x) : l = m := by
  obtain ⟨a1, a2, rfl⟩ := h1
  obtain ⟨b1, b2, b3⟩ := h2
  have r1 := readC_batch a2 a1 hl
  rw [b3] at hl r1
  rw [readC_batch b2 b1 hl] at r1
  exact (Option.some.inj r1).symm
theorem self_same_loop (p : List S49) (hn : p.length ≤ 100000) : ∀ (d j : Nat), p.length - j = d → j ≤ p.length → Ev (fun k => marigraphref8_Same.l0 k p p (j : Int)) true := by
  intro d
  induction d with
  | zero =>
    intro j hd hj
    refine evDown ?_
    simp only [marigraphref8_Same.l0, if_neg (show ¬ (j : Int) < (p.length : Int) by omega)]
    exact Ev.now _
  | succ d ih =>
    intro j hd hj
    have hlt : j < p.length := by omega
    have hi := ih (j + 1) (by omega) (by omega)
    have r1 := rdE_at hlt
    generalize p[j] = x at r1
    refine evDown ?_
    simp only [marigraphref8_Same.l0, if_pos (show (j : Int) < (p.length : Int) by omega), if_pos (show 0 ≤ (j : Int) by omega), r1, wadd1 (show j ≤ 10000000 by omega), if_true, bne_self_eq_false, Bool.false_eq_true, if_false]
    by_cases hg : x.f2 = true
    · simp only [if_pos hg]; exact hi
    · simp only [if_neg hg]; exact hi
theorem self_same (p : List S49) (hn : p.length ≤ 100000) : Ev (fun k => marigraphref8_Same.f k p p) true := by
  unfold marigraphref8_Same.f
  simp only [if_true]
  exact self_same_loop p hn p.length 0 rfl (Nat.zero_le _)
theorem entries_any {x : List Int} (hx : Byt x) (hl : x.length ≤ 1000000) : Ev (fun k => marigraphlaw4_entries.f k x) true := by
  unfold marigraphlaw4_entries.f
  rcases mine_entries hx hl with ⟨l, w1, e1⟩ | ⟨w1, e1⟩
  · rcases ref_entries hx hl with ⟨m, w2, e2⟩ | ⟨w2, e2⟩
    · obtain rfl := wrote_one hl w1 w2
      refine Ev.bind e1 ?_
      rw [e2]
      simp only [Option.bind_some, beq_self_eq_true, if_true]
      exact Ev.bind (self_same l (by have := w1.1; omega)) (Ev.now _)
    · exact absurd w1 (w2 l)
  · rcases ref_entries hx hl with ⟨m, w2, e2⟩ | ⟨w2, e2⟩
    · exact absurd w2 (w1 m)
    · refine Ev.bind e1 ?_
      rw [e2]
      simp only [Option.bind_some, show (((12 : Int) == 0) == false) = true from rfl, if_true, Bool.false_eq_true, if_false]
      exact Ev.bind (self_same [] (Nat.zero_le _)) (Ev.now _)
theorem known4d : Ev (fun k => marigraphlaw4_known.f k) true := Ev.of (k := 40) marigraphlaw4_known.mono (by decide +kernel)
theorem rep_byt (n : Nat) : Byt (List.replicate n 0) := fun x hx => by
  obtain rfl := (List.mem_replicate.1 hx).2
  decide
theorem fn_end {x5 : List S49} (hl : x5.length = 8192) (z1 z2 : List Int) (h1 : z1.length = 1048577) (h2 : z2.length = 1048576) : Ev (fun k => if 1048577 ≤ 281474976710656 then ((frame_Put.f k ([] : List Int) z1).bind fun bt407 => (if 1048576 ≤ 281474976710656 then ((frame_Put.f k (([97] : List Int)) z2).bind fun bt417 => (if 8191 ≤ (x5.length : Int) then ((marigraphlaw4_batch.f k (x5.take 8191)).bind fun t426 => (if t426 = true then ((marigraphlaw4_batch.f k x5).bind fun t427 => (if t427 = true then (if bt407.2 = 3 then (if bt417.2 = 0 then (if (bt417.1.length : Int) = 1048583 then ((marigraphlaw4_entries.f k (([255, 255, 0] : List Int))).bind fun t431 => (if t431 = true then ((marigraphlaw4_known.f k).bind fun t432 => (some t432)) else (some false))) else (some false)) else (some false)) else (some false)) else (some false))) else (some false))) else (none))) else (none))) else (none)) true := by
  have e1 : Ev (fun k => frame_Put.f k ([] : List Int) z1) ([], 3) := by
    unfold frame_Put.f
    simp only [if_pos (show (z1.length : Int) > 1048576 by omega)]
    exact Ev.now _
  have e2 := myPut_tells (b := [97]) (r := z2) (by decide) (by omega)
  have hb : Byt ([255, 255, 0] : List Int) := by
    intro x hx
    simp only [List.mem_cons, List.not_mem_nil, or_false] at hx
    omega
  simp only [if_pos (show (1048577 : Nat) ≤ 281474976710656 by decide), if_pos (show (1048576 : Nat) ≤ 281474976710656 by decide), if_pos (show (8191 : Int) ≤ (x5.length : Int) by omega)]
  refine Ev.bind e1 (Ev.bind e2 (Ev.bind (batch_any _) ?_))
  simp only [if_true]
  refine Ev.bind (batch_any _) ?_
  simp only [if_true, if_pos (show ((([97] ++ rec_ z2 : List Int).length : Nat) : Int) = 1048583 by rw [List.length_append, rec_len, h2]; rfl)]
  refine Ev.bind (entries_any hb (by decide)) ?_
  simp only [if_true]
  exact Ev.bind known4d (Ev.now _)
theorem fn_l2 : ∀ (d j : Nat) (x5 : List S49), x5.length = 8192 → 8192 - j = d → j ≤ 8192 → Ev (fun k => marigraphlaw4_FrameNumbers.l2 k x5 (j : Int)) true := by
  intro d
  induction d with
  | zero =>
    intro j x5 hl hd hj
    refine evDown ?_
    simp only [marigraphlaw4_FrameNumbers.l2, if_neg (show ¬ (j : Int) < (x5.length : Int) by omega)]
    exact fn_end hl _ _ (List.length_replicate ..) (List.length_replicate ..)
  | succ d ih =>
    intro j x5 hl hd hj
    refine evDown ?_
    simp only [marigraphlaw4_FrameNumbers.l2, if_pos (show (j : Int) < (x5.length : Int) by omega), if_pos (show 0 ≤ (j : Int) by omega), wadd1 (show j ≤ 10000000 by omega)]
    exact ih (j + 1) _ (by rw [List.length_set]; exact hl) (by omega) (by omega)
theorem fn_j2 : Ev (fun k => marigraphlaw4_FrameNumbers.j2 k false) true := by
  refine evDown ?_
  simp only [marigraphlaw4_FrameNumbers.j2, Bool.false_eq_true, if_false, if_pos (show (8192 : Nat) ≤ 5026338869833 by decide)]
  exact fn_l2 8192 0 _ (List.length_replicate ..) rfl (Nat.zero_le _)
theorem fn_l1 {c : List Int} (hc : Byt c) (hl : c.length ≤ 1000) : ∀ (d j : Nat), c.length + 1 - j = d → j ≤ c.length + 1 → Ev (fun k => marigraphlaw4_FrameNumbers.l1 k c (j : Int)) true := by
  intro d
  induction d with
  | zero =>
    intro j hd hj
    refine evDown ?_
    simp only [marigraphlaw4_FrameNumbers.l1, if_neg (show ¬ (j : Int) ≤ (c.length : Int) by omega)]
    refine Ev.bind (batch_any _) ?_
    simp only [if_true, if_pos (show (256 : Nat) ≤ 281474976710656 by decide)]
    refine Ev.bind (batch_any _) ?_
    simp only [if_true, if_pos (show (4096 : Nat) ≤ 281474976710656 by decide)]
    refine Ev.bind (batch_any _) ?_
    simp only [if_true, if_pos (show (4095 : Nat) ≤ 281474976710656 by decide)]
    refine Ev.bind (batch_any _) ?_
    simp only [if_true]
    refine Ev.bind (batch_any _) ?_
    exact fn_j2
  | succ d ih =>
    intro j hd hj
    refine evDown ?_
    simp only [marigraphlaw4_FrameNumbers.l1, if_pos (show (j : Int) ≤ (c.length : Int) by omega), if_pos (show 0 ≤ (j : Int) by omega), Int.toNat_natCast, wadd1 (show j ≤ 10000000 by omega), Option.bind_some, List.length_nil, Nat.zero_add, List.nil_append]
    have ht : (c.take j).length ≤ 1000 := by rw [List.length_take]; omega
    refine Ev.bind (entries_any (hc.take j) (by omega)) ?_
    simp only [if_true, if_pos (show c.length < 140737488355328 by omega), if_pos (show c.length + (c.take j).length < 140737488355328 by omega)]
    refine Ev.bind (entries_any (hc.append (hc.take j)) (by rw [List.length_append]; omega)) ?_
    simp only [if_true]
    exact ih (j + 1) (by omega) (by omega)
theorem fn_c : ∃ c : List Int, Byt c ∧ c.length ≤ 1000 ∧ Ev (fun k => marigraphref4_Batch.f k (([(⟨(([97] : List Int)), (([120, 121, 122] : List Int)), false⟩ : S49), (⟨(([98] : List Int)), ([] : List Int), true⟩ : S49), (⟨(List.replicate 255 0), ([] : List Int), false⟩ : S49)] : List (S49)))) c := by
  have h3 : (List.replicate 255 (0 : Int)).length = 255 := List.length_replicate ..
  have hb3 := rep_byt 255
  generalize List.replicate 255 (0 : Int) = z at h3 hb3
  have hcan : ∀ x ∈ ([⟨[97], [120, 121, 122], false⟩, ⟨[98], [], true⟩, ⟨z, [], false⟩] : List S49), CanE x := by
    intro x hx
    simp only [List.mem_cons, List.not_mem_nil, or_false] at hx
    have small : ∀ l : List Int, (∀ y ∈ l, decide (0 ≤ y ∧ y ≤ 255) = true) → Byt l := fun l h y hy => of_decide_eq_true (h y hy)
    rcases hx with rfl | rfl | rfl
    · exact ⟨by decide, by decide, by decide, small _ (by decide), small _ (by decide), by decide⟩
    · exact ⟨by decide, by decide, by decide, small _ (by decide), small _ (by decide), by decide⟩
    · exact ⟨by show 1 ≤ z.length; omega, by show z.length ≤ 255; omega, Nat.zero_le _, hb3, fun _ h => (by cases h), fun h => (by cases h)⟩
  refine ⟨_, batchC_byt hcan, ?_, refB_tells (by simp only [List.length_cons, List.length_nil]; omega) (fun x hx => (hcan x hx).may)⟩
  simp only [batch_, encs, encE, if_true, Bool.false_eq_true, if_false, List.length_append, List.length_cons, List.length_nil, be_len, h3]
  omega
theorem fn_l0 {b : List Int} (hb : Byt b) (hl : b.length ≤ 2000) : ∀ (d j : Nat), b.length + 1 - j = d → j ≤ b.length + 1 → Ev (fun k => marigraphlaw4_FrameNumbers.l0 k b (j : Int)) true := by
  intro d
  induction d with
  | zero =>
    intro j hd hj
    obtain ⟨c, h1, h2, h3⟩ := fn_c
    refine evDown ?_
    simp only [marigraphlaw4_FrameNumbers.l0, if_neg (show ¬ (j : Int) ≤ (b.length : Int) by omega), if_pos (show (255 : Nat) ≤ 281474976710656 by decide)]
    refine Ev.bind h3 ?_
    exact fn_l1 h1 h2 _ 0 rfl (Nat.zero_le _)
  | succ d ih =>
    intro j hd hj
    refine evDown ?_
    simp only [marigraphlaw4_FrameNumbers.l0, if_pos (show (j : Int) ≤ (b.length : Int) by omega), if_pos (show 0 ≤ (j : Int) by omega), Int.toNat_natCast, wadd1 (show j ≤ 10000000 by omega)]
    refine Ev.bind (all_any (hb.take j) (by rw [List.length_take]; omega)) ?_
    simp only [if_true]
    exact ih (j + 1) (by omega) (by omega)
theorem FrameNumbers : marigraphlaw4_FrameNumbers.Pure := by
  have h3 : (List.replicate 300 (0 : Int)).length = 300 := List.length_replicate ..
  have hb3 := rep_byt 300
  obtain ⟨K, hK⟩ : Ev (fun k => marigraphlaw4_FrameNumbers.f k) true := by
    unfold marigraphlaw4_FrameNumbers.f
    generalize List.replicate 300 (0 : Int) = z at h3 hb3
    have small : ∀ l : List Int, (∀ y ∈ l, decide (0 ≤ y ∧ y ≤ 255) = true) → Byt l := fun l h y hy => of_decide_eq_true (h y hy)
    obtain ⟨r, r1, r2, r3⟩ := row_loop (l := [[111, 110, 101], [], [116, 104, 114, 101, 101], z]) (M := 300) (by decide) (by simp only [List.length_cons, List.length_nil]; omega) (by
      intro x hx
      simp only [List.mem_cons, List.not_mem_nil, or_false] at hx
      rcases hx with rfl | rfl | rfl | rfl
      · exact ⟨by decide, small _ (by decide)⟩
      · exact ⟨by decide, small _ (by decide)⟩
      · exact ⟨by decide, small _ (by decide)⟩
      · exact ⟨by omega, hb3⟩) 4 0 [] rfl (Nat.zero_le _) (Nat.zero_le _) (fun _ h => by cases h)
    simp only [if_pos (show (300 : Nat) ≤ 281474976710656 by decide)]
    refine Ev.bind (show Ev (fun k => marigraphlaw4_row.f k [[111, 110, 101], [], [116, 104, 114, 101, 101], z]) r from r3) ?_
    exact fn_l0 r2 (Nat.le_trans r1 (show 4 * 306 ≤ 2000 by decide)) _ 0 rfl (Nat.zero_le _)
  exact ⟨K, hK K (Nat.le_refl _)⟩

end Go.Proofs.Ytmimfnangdabmaa.Pure

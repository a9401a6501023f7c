/- A number that is laid in so many bytes is read as it was, cut to them, whatever stands behind it; for all inputs. -/
import Derived.Test.YtnfgcjlmelaakaaPOctetBackx2
namespace Go.Proofs.Ytnfgcjlmelaakaa.Pure
open Go.RowKit Go.Proofs.Ytnfgcjlmelaakaa.POctetBack Go.Proofs.YtnfgcjlmelaakaaW.PrintWords Go.Proofs.YtnfgcjlmelaakaaW.PrintLast
set_option linter.unusedVariables false
set_option linter.unusedSimpArgs false

/-! ### bytes as whole numbers: in range, in order -/
def Byt (l : List Int) : Prop := ∀ x ∈ l, 0 ≤ x ∧ x ≤ 255
theorem Byt.of_wf {l : List Int} (h : ∀ x ∈ l, (Lit.int .u8 x).wf = true) : Byt l := by
  intro x hx
  have := h x hx
  have h1 : IntKind.u8.min = 0 := rfl
  have h2 : IntKind.u8.max = 255 := rfl
  simp only [Lit.wf, Bool.and_eq_true, decide_eq_true_eq] at this
  omega
theorem Byt.cons {x : Int} {l : List Int} (h : Byt (x :: l)) : (0 ≤ x ∧ x ≤ 255) ∧ Byt l := ⟨h x (by simp), fun y hy => h y (by simp [hy])⟩
theorem Byt.append {a b : List Int} (ha : Byt a) (hb : Byt b) : Byt (a ++ b) := by
  intro x hx
  rcases List.mem_append.1 hx with h | h
  · exact ha x h
  · exact hb x h
theorem Byt.left {a b : List Int} (h : Byt (a ++ b)) : Byt a := fun x hx => h x (by simp [hx])
theorem Byt.right {a b : List Int} (h : Byt (a ++ b)) : Byt b := fun x hx => h x (by simp [hx])
theorem Byt.cut {a : List Int} (h : Byt a) (n : Nat) : Byt (cutI a n) := by
  unfold cutI
  split
  · exact fun x hx => h x (List.mem_of_mem_take hx)
  · exact h
theorem cut_len (a : List Int) (n : Nat) : (cutI a n).length ≤ n := by
  unfold cutI
  split
  · rw [List.length_take]; omega
  · omega
theorem u8_lt {x y : Int} (hx : 0 ≤ x ∧ x ≤ 255) (hy : 0 ≤ y ∧ y ≤ 255) : (UInt8.ofNat x.toNat < UInt8.ofNat y.toNat) ↔ x < y := by
  rw [UInt8.lt_iff_toNat_lt, UInt8.toNat_ofNat', UInt8.toNat_ofNat']
  omega
def lexI : List Int → List Int → Int
  | [], [] => 0
  | [], _ :: _ => -1
  | _ :: _, [] => 1
  | a :: p, b :: q => if a < b then -1 else if b < a then 1 else lexI p q
theorem cmp_lexI : ∀ {a b : List Int}, Byt a → Byt b → Lib.compareBytes (Lib.bytesOf a) (Lib.bytesOf b) = lexI a b
  | [], [], _, _ => rfl
  | [], _ :: _, _, _ => rfl
  | _ :: _, [], _, _ => rfl
  | x :: a, y :: b, ha, hb => by
    have ih := cmp_lexI ha.cons.2 hb.cons.2
    have h1 := u8_lt ha.cons.1 hb.cons.1
    have h2 := u8_lt hb.cons.1 ha.cons.1
    unfold Lib.bytesOf at ih ⊢
    rw [List.map_cons, List.map_cons, Lib.compareBytes, lexI, ih]
    simp only [h1, h2]
theorem lexI_pre (p a b : List Int) : lexI (p ++ a) (p ++ b) = lexI a b := by
  induction p with
  | nil => rfl
  | cons x p ih =>
    show (if x < x then _ else _) = _
    rw [if_neg (Int.lt_irrefl x), if_neg (Int.lt_irrefl x)]
    exact ih
theorem lexI_self (a : List Int) : lexI a a = 0 := by
  have := lexI_pre a [] []
  simpa [lexI] using this
theorem lexI_more (a b : List Int) : ¬ lexI (a ++ b) a < 0 := by
  have h := lexI_pre a b []
  rw [List.append_nil] at h
  rw [h]
  cases b with
  | nil => decide
  | cons x b => show ¬ (1 : Int) < 0; decide
/-! ### Put -/
def be (n : Int) : Nat → List Int
  | 0 => []
  | s + 1 => (n / 2 ^ (8 * s)) % 256 :: be n s
theorem be_len (n : Int) (s : Nat) : (be n s).length = s := by induction s with | zero => rfl | succ s ih => simp [be, ih]
theorem be_byt (n : Int) (s : Nat) : Byt (be n s) := by
  induction s with
  | zero => intro x hx; cases hx
  | succ s ih =>
    intro x hx
    rcases List.mem_cons.1 hx with rfl | hx
    · omega
    · exact ih x hx
theorem wrap_8 (s : Nat) (h : s ≤ 8) : wrap64 (8 * (s : Int)) = ((8 * s : Nat) : Int) := by unfold wrap64; omega
theorem put_loop (n : Int) (s : Nat) : ∀ (k : Nat) (acc : List Int), s ≤ 8 → s < k → acc.length + s ≤ 140737488355328 → octet_Put.l0 k n acc ((s : Int) - 1) = some (acc ++ be n s) := by
  induction s with
  | zero =>
    intro k acc _ hk _
    obtain ⟨k, rfl⟩ : ∃ m, k = m + 1 := ⟨k - 1, by omega⟩
    simp only [octet_Put.l0]
    rw [if_neg (by omega)]
    simp [be]
  | succ s ih =>
    intro k acc hs hk hl
    obtain ⟨k, rfl⟩ : ∃ m, k = m + 1 := ⟨k - 1, by omega⟩
    have e : ((s + 1 : Nat) : Int) - 1 = (s : Int) := by omega
    rw [e]
    simp only [octet_Put.l0]
    rw [wrap_8 s (by omega), if_pos (by omega), if_pos (by omega), if_pos (by omega)]
    have e2 : wrap64 ((s : Int) - 1) = (s : Int) - 1 := by unfold wrap64; omega
    have e3 : shr .u64 n ((8 * s : Nat) : Int) = n / 2 ^ (8 * s) := by
      unfold shr
      have hb : IntKind.u64.bits = 64 := rfl
      rw [Int.toNat_natCast, hb, Nat.min_eq_left (by omega)]
    rw [e2, e3, ih k _ (by omega) (by omega) (by rw [List.length_append, List.length_singleton]; omega)]
    simp [be]
theorem put_tells (l : List Int) (n : Int) (s : Nat) (k : Nat) (hs : s ≤ 8) (hk : s < k) (hl : l.length + 8 ≤ 140737488355328) : octet_Put.f k l n (s : Int) = some (l ++ be n s) := by
  unfold octet_Put.f slices_Clone_byte_byte.f
  rw [if_pos (by omega)]
  simp only [Option.bind_some]
  have e : mx (mn (s : Int) 8) 0 = (s : Int) := by unfold mx mn; split <;> split <;> omega
  rw [e]
  exact put_loop n s k l hs hk (by omega)
/-! ### Less, Next, Shared -/
theorem less_tells {a b : List Int} (ha : Byt a) (hb : Byt b) : octet_Less.f a b = some (decide (lexI a b < 0)) := by
  unfold octet_Less.f bytes_Compare.f
  simp only [Option.bind_some]
  rw [cmp_lexI ha hb]
theorem emod_256 (m P : Int) (hP : 0 < P) : m % (P * 256) = m % P + P * (m / P % 256) := by
  have h1 := Int.emod_add_mul_ediv m P
  have h2 := Int.emod_add_mul_ediv (m / P) 256
  have h3 := Int.emod_nonneg m (Int.ne_of_gt hP)
  have h4 := Int.emod_lt_of_pos m hP
  generalize hq : m / P = q at *
  have h5 : P * q = P * (q % 256) + P * 256 * (q / 256) := by rw [Int.mul_assoc, ← Int.mul_add, h2]
  have h6 : 0 ≤ P * (q % 256) := Int.mul_nonneg (by omega) (by omega)
  have h7 : P * (q % 256) ≤ P * 255 := Int.mul_le_mul_of_nonneg_left (by omega) (by omega)
  have e : m = (m % P + P * (q % 256)) + P * 256 * (q / 256) := by omega
  calc m % (P * 256) = ((m % P + P * (q % 256)) + P * 256 * (q / 256)) % (P * 256) := by rw [← e]
    _ = (m % P + P * (q % 256)) % (P * 256) := Int.add_mul_emod_self_left _ _ _
    _ = m % P + P * (q % 256) := Int.emod_eq_of_lt (by omega) (by omega)
theorem be_less (m n : Int) (s : Nat) : lexI (be m s) (be n s) < 0 ↔ m % 2 ^ (8 * s) < n % 2 ^ (8 * s) := by
  induction s with
  | zero => simp [be, lexI]
  | succ s ih =>
    have hp : (0 : Int) < 2 ^ (8 * s) := Int.pow_pos (by decide)
    have e : (2 : Int) ^ (8 * (s + 1)) = 2 ^ (8 * s) * 256 := by rw [Nat.mul_add, Int.pow_add]; rfl
    rw [e, emod_256 m _ hp, emod_256 n _ hp]
    have h1 := Int.emod_nonneg m (Int.ne_of_gt hp)
    have h2 := Int.emod_lt_of_pos m hp
    have h3 := Int.emod_nonneg n (Int.ne_of_gt hp)
    have h4 := Int.emod_lt_of_pos n hp
    simp only [be, lexI]
    generalize hP : (2 : Int) ^ (8 * s) = P at *
    generalize m / P % 256 = x at *
    generalize n / P % 256 = y at *
    generalize m % P = u at *
    generalize n % P = v at *
    by_cases hlt : x < y
    · have h5 : P * (x + 1) ≤ P * y := Int.mul_le_mul_of_nonneg_left (by omega) (by omega)
      rw [Int.mul_add] at h5
      simp only [hlt, if_true]
      constructor
      · intro _; omega
      · intro _; decide
    · by_cases hgt : y < x
      · have h5 : P * (y + 1) ≤ P * x := Int.mul_le_mul_of_nonneg_left (by omega) (by omega)
        rw [Int.mul_add] at h5
        simp only [hlt, hgt, if_true, if_false]
        constructor
        · intro h; exact absurd h (by decide)
        · intro _; omega
      · obtain rfl : x = y := by omega
        simp only [hlt, if_false, ih]
        omega
theorem next_loop (a : List Int) (ha : Byt a) (hl : a.length ≤ 1000) (i : Nat) : ∀ k : Nat, i ≤ a.length → i < k → (∀ j, i ≤ j → j < a.length → rd a (j : Int) = 255) →
    ∃ r ok, octet_Next.l0 k a (i : Int) = some (r, ok) ∧ (ok = true → ∃ p c t, a = p ++ c :: t ∧ r = p ++ [c + 1] ∧ c < 255 ∧ 0 ≤ c) ∧ (ok = false → r = []) := by
  induction i with
  | zero =>
    intro k _ hk _
    obtain ⟨k, rfl⟩ : ∃ m, k = m + 1 := ⟨k - 1, by omega⟩
    refine ⟨[], false, ?_, by simp, by simp⟩
    simp only [octet_Next.l0]
    rw [if_neg (by omega), if_pos (by omega)]
  | succ i ih =>
    intro k hi hk hall
    obtain ⟨k, rfl⟩ : ∃ m, k = m + 1 := ⟨k - 1, by omega⟩
    have e : ((i + 1 : Nat) : Int) - 1 = (i : Int) := by omega
    have ew : wrap64 (((i + 1 : Nat) : Int) - 1) = (i : Int) := by rw [e]; unfold wrap64; omega
    simp only [octet_Next.l0, ew]
    rw [if_pos (by omega), if_pos (by omega), if_pos (by omega)]
    have hb : a[i]? = some (rd a (i : Int)) := by
      have hlt : i < a.length := by omega
      simp [rd, List.getD_eq_getElem?_getD, List.getElem?_eq_getElem hlt]
    by_cases h255 : rd a (i : Int) = 255
    · rw [if_pos h255]
      exact ih k (by omega) (by omega) (fun j h1 h2 => by
        rcases Nat.lt_or_ge i j with h | h
        · exact hall j (by omega) h2
        · obtain rfl : j = i := by omega
          exact h255)
    · rw [if_neg h255, if_neg (by omega), if_pos (by omega), if_pos (by omega)]
      have hr := ha _ (List.mem_of_getElem? hb)
      have hsplit : a = a.take i ++ rd a (i : Int) :: a.drop (i + 1) := by
        have hlt : i < a.length := by omega
        have h1 : a[i] = rd a (i : Int) := by have := List.getElem?_eq_getElem hlt; rw [hb] at this; exact (Option.some.inj this).symm
        rw [← h1, List.getElem_cons_drop, List.take_append_drop]
      have ht : a.take (i + 1) = a.take i ++ [rd a (i : Int)] := by
        rw [List.take_add_one, hb]; rfl
      have hlen : (a.take i).length = i := by rw [List.length_take]; omega
      unfold slices_Clone_byte_byte.f
      rw [Int.toNat_natCast, if_pos (by rw [List.length_take]; omega)]
      simp only [Option.bind_some]
      rw [if_pos (by rw [List.length_take]; omega)]
      refine ⟨_, true, rfl, fun _ => ⟨a.take i, rd a (i : Int), a.drop (i + 1), hsplit, ?_, by omega, hr.1⟩, by simp⟩
      rw [ht, Int.toNat_natCast]
      have e1 : rd (a.take i ++ [rd a (i : Int)]) (i : Int) = rd a (i : Int) := by
        generalize rd a (i : Int) = q
        simp [rd, List.getD_eq_getElem?_getD, List.getElem?_append_right, hlen]
      rw [e1]
      have e2 : (rd a (i : Int) + 1) % 256 = rd a (i : Int) + 1 := by omega
      rw [e2, List.set_append_right _ _ (by omega), hlen, Nat.sub_self]
      rfl
theorem next_tells (a : List Int) (ha : Byt a) (hl : a.length ≤ 1000) (k : Nat) (hk : a.length < k) :
    ∃ r ok, octet_Next.f k a = some (r, ok) ∧ (ok = true → ∃ p c t, a = p ++ c :: t ∧ r = p ++ [c + 1] ∧ c < 255 ∧ 0 ≤ c) ∧ (ok = false → r = []) := by
  unfold octet_Next.f
  exact next_loop a ha hl a.length k (Nat.le_refl _) hk (fun j h1 h2 => by omega)
theorem known_tells (k : Nat) (hk : 20 ≤ k) : marigraphlaw2_known.f k = some true := at_rounds marigraphlaw2_known.mono hk (by decide +kernel)
/-! ### Within, Get -/
theorem within_tells (n lo hi : Int) (k : Nat) (hk : 0 < k) (h1 : 0 ≤ lo) (h2 : lo ≤ hi) (h3 : hi < 1000000) (hn : -9223372036854775808 ≤ n ∧ n ≤ 9223372036854775807) :
    ∃ r, marigraphbook_Within.f k n lo hi = some r ∧ lo ≤ r ∧ r ≤ hi ∧ (lo ≤ n → n ≤ hi → r = n) := by
  obtain ⟨k, rfl⟩ : ∃ m, k = m + 1 := ⟨k - 1, by omega⟩
  have e1 : wrap64 (wrap64 (hi - lo) + 1) = hi - lo + 1 := by unfold wrap64; omega
  have hj : ∀ b : Bool, (b = true ↔ (lo ≤ n ∧ n ≤ hi)) → ∃ r, marigraphbook_Within.j0 (k + 1) n lo hi b = some r ∧ lo ≤ r ∧ r ≤ hi ∧ (lo ≤ n → n ≤ hi → r = n) := by
    intro b hb
    simp only [marigraphbook_Within.j0, e1]
    cases b with
    | true =>
      have := hb.1 rfl
      exact ⟨n, by rw [if_pos rfl], this.1, this.2, fun _ _ => rfl⟩
    | false =>
      have hno : ¬ (lo ≤ n ∧ n ≤ hi) := fun h => by have := hb.2 h; cases this
      rw [if_neg (by decide), if_neg (by omega)]
      have hm : (0 : Int) < hi - lo + 1 := by omega
      have t1 : Int.tmod n (hi - lo + 1) < hi - lo + 1 := Int.tmod_lt_of_pos _ hm
      have t2 : -(hi - lo + 1) < Int.tmod n (hi - lo + 1) := by
        have := Int.tmod_lt_of_pos (-n) hm
        rw [Int.neg_tmod] at this
        omega
      generalize Int.tmod n (hi - lo + 1) = t at *
      by_cases ht : t < 0
      · rw [if_pos ht]
        have e : wrap64 (lo + wrap64 (wrap64 (wrap64 (t + hi) - lo) + 1)) = t + hi + 1 := by unfold wrap64; omega
        rw [e]
        exact ⟨_, rfl, by omega, by omega, fun a b => absurd ⟨a, b⟩ hno⟩
      · rw [if_neg ht]
        have e : wrap64 (lo + t) = lo + t := by unfold wrap64; omega
        rw [e]
        exact ⟨_, rfl, by omega, by omega, fun a b => absurd ⟨a, b⟩ hno⟩
  unfold marigraphbook_Within.f
  by_cases hlo : n ≥ lo
  · rw [if_pos hlo]
    refine hj _ ?_
    rw [decide_eq_true_iff]
    exact ⟨fun h => ⟨hlo, h⟩, fun h => h.2⟩
  · rw [if_neg hlo]
    refine hj _ ?_
    constructor
    · intro h; cases h
    · intro h; omega
theorem or_byte (q c : Int) (hq : 0 ≤ q) (hc : 0 ≤ c ∧ c ≤ 255) (hb : q * 256 + c < 18446744073709551616) : Go.bits .or .u64 (IntKind.u64.wrap (q * 256)) (IntKind.u64.wrap c) = q * 256 + c := by
  have w (x : Int) (h0 : 0 ≤ x) (h1 : x < 18446744073709551616) : IntKind.u64.wrap x = x := by
    have : IntKind.u64.wrap x = x % 18446744073709551616 := by simp [IntKind.wrap, IntKind.bits, IntKind.signed]
    rw [this]; exact Int.emod_eq_of_lt h0 h1
  rw [w _ (by omega) (by omega), w _ (by omega) (by omega)]
  exact bits_join .u64 64 (by decide) (fun x h0 h1 => w x h0 (by simpa using h1)) 8 _ _ (by omega) (by omega) (by show q * 256 < 18446744073709551616; omega) hc.1 (by show c < 256; omega) (by show c < 18446744073709551616; omega)
theorem getI_be (n : Int) (s : Nat) : ∀ a : Int, 0 ≤ a → a * 2 ^ (8 * s) + n % 2 ^ (8 * s) < 18446744073709551616 → getI a (be n s) = a * 2 ^ (8 * s) + n % 2 ^ (8 * s) := by
  induction s with
  | zero => intro a _ _; simp [be, getI]
  | succ s ih =>
    intro a ha hb
    have hp : (0 : Int) < 2 ^ (8 * s) := Int.pow_pos (by decide)
    have e : (2 : Int) ^ (8 * (s + 1)) = 2 ^ (8 * s) * 256 := by rw [Nat.mul_add, Int.pow_add]; rfl
    rw [e, emod_256 n _ hp] at hb ⊢
    have h3 := Int.emod_nonneg n (Int.ne_of_gt hp)
    have h4 := Int.emod_lt_of_pos n hp
    generalize hP : (2 : Int) ^ (8 * s) = P at *
    show getI (Go.bits .or .u64 (IntKind.u64.wrap (a * 256)) (IntKind.u64.wrap (n / 2 ^ (8 * s) % 256))) (be n s) = _
    rw [hP]
    generalize hq : n / P % 256 = c at *
    have hc : 0 ≤ c ∧ c ≤ 255 := by omega
    have e2 : a * (P * 256) + (n % P + P * c) = (a * 256 + c) * P + n % P := by
      rw [Int.add_mul, Int.mul_comm P 256, ← Int.mul_assoc, Int.mul_comm P c]; omega
    rw [e2] at hb ⊢
    have h0 : 0 ≤ a * 256 + c := by omega
    have h5 : (a * 256 + c) * 1 ≤ (a * 256 + c) * P := Int.mul_le_mul_of_nonneg_left (by omega) h0
    rw [or_byte a c ha hc (by omega)]
    exact ih _ h0 hb
theorem u64_of {a : Int} (h : (Lit.int .u64 a).wf = true) : 0 ≤ a ∧ a < 18446744073709551616 := by
  have h1 : IntKind.u64.min = 0 := rfl
  have h2 : IntKind.u64.max = 18446744073709551615 := rfl
  simp only [Lit.wf, Bool.and_eq_true, decide_eq_true_eq] at h
  omega
theorem i64_of {a : Int} (h : (Lit.int .i64 a).wf = true) : -9223372036854775808 ≤ a ∧ a ≤ 9223372036854775807 := by
  have h1 : IntKind.i64.min = -9223372036854775808 := rfl
  have h2 : IntKind.i64.max = 9223372036854775807 := rfl
  simp only [Lit.wf, Bool.and_eq_true, decide_eq_true_eq] at h
  omega
theorem get_tells (l : List Int) (s : Nat) (h8 : s ≤ 8) (hl : s ≤ l.length) : octet_Get.f l (s : Int) = some (getI 0 (l.take s), true) := by
  unfold octet_Get.f
  rw [if_neg (by omega), if_neg (by omega), if_neg (by omega), Int.toNat_natCast]
theorem get_short (l : List Int) (s : Nat) (h8 : s ≤ 8) (hl : l.length < s) : octet_Get.f l (s : Int) = some (0, false) := by
  unfold octet_Get.f
  rw [if_neg (by omega), if_neg (by omega), if_pos (by omega)]
theorem back_j0 (n : Int) (more : List Int) (s : Nat) (m : Int) (h1 : 1 ≤ s) (h8 : s ≤ 8) (hn : 0 ≤ n ∧ n < 18446744073709551616) (hm : m = n % 2 ^ (8 * s)) : marigraphlaw2_OctetBack.j0 100 n more (s : Int) m = some true := by
  have lm := cut_len more 20
  simp only [marigraphlaw2_OctetBack.j0]
  have p1 := put_tells [] n s 99 h8 (by omega) (by simp)
  rw [List.nil_append] at p1
  have lb := be_len n s
  rw [p1]
  simp only [Option.bind_some, List.nil_append, List.length_nil, Nat.zero_add]
  rw [if_pos (by omega), if_pos (by omega)]
  have hp : (0 : Int) < 2 ^ (8 * s) := Int.pow_pos (by decide)
  have hle : (2 : Int) ^ (8 * s) ≤ 18446744073709551616 := by
    obtain rfl | rfl | rfl | rfl | rfl | rfl | rfl | rfl : s = 1 ∨ s = 2 ∨ s = 3 ∨ s = 4 ∨ s = 5 ∨ s = 6 ∨ s = 7 ∨ s = 8 := by omega
    all_goals decide
  have h3 := Int.emod_lt_of_pos n hp
  rw [get_tells _ s h8 (by rw [List.length_append]; omega), List.take_left' lb, getI_be n s 0 (by omega) (by omega)]
  simp only [Option.bind_some]
  have e1 : wrap64 ((s : Int) - 1) = ((s - 1 : Nat) : Int) := by unfold wrap64; omega
  rw [e1, if_pos (by omega), if_pos (by omega), if_pos (by omega), Int.toNat_natCast, get_short _ s h8 (by rw [List.length_take]; omega)]
  simp only [Option.bind_some]
  rw [if_pos trivial, if_pos (by rw [hm]; omega), if_neg (by decide), known_tells 99 (by omega)]
  rfl
theorem shift_tells (s : Nat) (h1 : 1 ≤ s) (h8 : s < 8) : 0 ≤ IntKind.u64.wrap (wrap64 (8 * (s : Int))) ∧ shl .u64 1 (IntKind.u64.wrap (wrap64 (8 * (s : Int)))) = 2 ^ (8 * s) := by
  obtain rfl | rfl | rfl | rfl | rfl | rfl | rfl : s = 1 ∨ s = 2 ∨ s = 3 ∨ s = 4 ∨ s = 5 ∨ s = 6 ∨ s = 7 := by omega
  all_goals exact ⟨by decide +kernel, by decide +kernel⟩
theorem OctetBack : marigraphlaw2_OctetBack.Pure := by
  intro n size more hn hs _ _ _
  have hn := u64_of hn
  have hs := i64_of hs
  refine ⟨100, ?_⟩
  unfold marigraphlaw2_OctetBack.f
  obtain ⟨t, ht, t1, t8, _⟩ := within_tells size 1 8 100 (by omega) (by omega) (by omega) (by omega) hs
  rw [ht]
  simp only [Option.bind_some]
  obtain ⟨s, rfl⟩ := Int.eq_ofNat_of_zero_le (show 0 ≤ t by omega)
  by_cases h8 : (s : Int) < 8
  · obtain ⟨e0, e1⟩ := shift_tells s (by omega) (by omega)
    have hp : (0 : Int) < 2 ^ (8 * s) := Int.pow_pos (by decide)
    rw [if_pos h8, if_pos e0, e1, if_neg (by omega)]
    exact back_j0 n more s _ (by omega) (by omega) hn (Int.tmod_eq_emod_of_nonneg hn.1)
  · rw [if_neg h8]
    obtain rfl : s = 8 := by omega
    exact back_j0 n more 8 _ (by omega) (by omega) hn (by rw [show (2 : Int) ^ (8 * 8) = 18446744073709551616 from rfl, Int.emod_eq_of_lt hn.1 hn.2])

end Go.Proofs.Ytnfgcjlmelaakaa.Pure

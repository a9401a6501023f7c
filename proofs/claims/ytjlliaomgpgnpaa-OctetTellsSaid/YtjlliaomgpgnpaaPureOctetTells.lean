/- Numbers and texts are what the document says, for any; no condition beyond the statement's own. -/
import Derived.Test.YtjlliaomgpgnpaaPOctetTellsx4
namespace Go.Proofs.Ytjlliaomgpgnpaa.Pure
open Go.RowKit Go.Proofs.Ytjlliaomgpgnpaa.POctetTells Go.Proofs.YtjlliaomgpgnpaaW.PrintWords Go.Proofs.YtjlliaomgpgnpaaW.PrintLast
set_option linter.unusedVariables false
set_option linter.unusedSimpArgs false

/-! ### bytes as whole numbers: in range, in order -/
def Byt (l : List Int) : Prop := ∀ x ∈ l, 0 ≤ x ∧ x ≤ 255
theorem Byt.of_wf {l : List Int} (h : ∀ x ∈ l, (Lit.int .u8 x).wf = true) : Byt l := by
  intro x hx
  have := h x hx
  have h1 : IntKind.u8.min = 0 := rfl
  have h2 : IntKind.u8.max = 255 := rfl
  simp only [Lit.wf, Bool.and_eq_true, decide_eq_true_eq] at this
  omega
theorem Byt.cons {x : Int} {l : List Int} (h : Byt (x :: l)) : (0 ≤ x ∧ x ≤ 255) ∧ Byt l := ⟨h x (by simp), fun y hy => h y (by simp [hy])⟩
theorem Byt.append {a b : List Int} (ha : Byt a) (hb : Byt b) : Byt (a ++ b) := by
  intro x hx
  rcases List.mem_append.1 hx with h | h
  · exact ha x h
  · exact hb x h
theorem Byt.cut {a : List Int} (h : Byt a) (n : Nat) : Byt (cutI a n) := by
  unfold cutI
  split
  · exact fun x hx => h x (List.mem_of_mem_take hx)
  · exact h
theorem cut_len (a : List Int) (n : Nat) : (cutI a n).length ≤ n := by
  unfold cutI
  split
  · rw [List.length_take]; omega
  · omega
theorem u8_lt {x y : Int} (hx : 0 ≤ x ∧ x ≤ 255) (hy : 0 ≤ y ∧ y ≤ 255) : (UInt8.ofNat x.toNat < UInt8.ofNat y.toNat) ↔ x < y := by
  rw [UInt8.lt_iff_toNat_lt, UInt8.toNat_ofNat', UInt8.toNat_ofNat']
  omega
def lexI : List Int → List Int → Int
  | [], [] => 0
  | [], _ :: _ => -1
  | _ :: _, [] => 1
  | a :: p, b :: q => if a < b then -1 else if b < a then 1 else lexI p q
theorem cmp_lexI : ∀ {a b : List Int}, Byt a → Byt b → Lib.compareBytes (Lib.bytesOf a) (Lib.bytesOf b) = lexI a b
  | [], [], _, _ => rfl
  | [], _ :: _, _, _ => rfl
  | _ :: _, [], _, _ => rfl
  | x :: a, y :: b, ha, hb => by
    have ih := cmp_lexI ha.cons.2 hb.cons.2
    have h1 := u8_lt ha.cons.1 hb.cons.1
    have h2 := u8_lt hb.cons.1 ha.cons.1
    unfold Lib.bytesOf at ih ⊢
    rw [List.map_cons, List.map_cons, Lib.compareBytes, lexI, ih]
    simp only [h1, h2]
/-! ### Put -/
def be (n : Int) : Nat → List Int
  | 0 => []
  | s + 1 => (n / 2 ^ (8 * s)) % 256 :: be n s
theorem wrap_8 (s : Nat) (h : s ≤ 8) : wrap64 (8 * (s : Int)) = ((8 * s : Nat) : Int) := by unfold wrap64; omega
theorem put_loop (n : Int) (s : Nat) : ∀ (k : Nat) (acc : List Int), s ≤ 8 → s < k → acc.length + s ≤ 140737488355328 → octet_Put.l0 k n acc ((s : Int) - 1) = some (acc ++ be n s) := by
  induction s with
  | zero =>
    intro k acc _ hk _
    obtain ⟨k, rfl⟩ : ∃ m, k = m + 1 := ⟨k - 1, by omega⟩
    simp only [octet_Put.l0]
    rw [if_neg (by omega)]
    simp [be]
  | succ s ih =>
    intro k acc hs hk hl
    obtain ⟨k, rfl⟩ : ∃ m, k = m + 1 := ⟨k - 1, by omega⟩
    have e : ((s + 1 : Nat) : Int) - 1 = (s : Int) := by omega
    rw [e]
    simp only [octet_Put.l0]
    rw [wrap_8 s (by omega), if_pos (by omega), if_pos (by omega), if_pos (by omega)]
    have e2 : wrap64 ((s : Int) - 1) = (s : Int) - 1 := by unfold wrap64; omega
    have e3 : shr .u64 n ((8 * s : Nat) : Int) = n / 2 ^ (8 * s) := by
      unfold shr
      have hb : IntKind.u64.bits = 64 := rfl
      rw [Int.toNat_natCast, hb, Nat.min_eq_left (by omega)]
    rw [e2, e3, ih k _ (by omega) (by omega) (by rw [List.length_append, List.length_singleton]; omega)]
    simp [be]
/-! ### Less, Next, Shared -/
theorem less_tells {a b : List Int} (ha : Byt a) (hb : Byt b) : octet_Less.f a b = some (decide (lexI a b < 0)) := by
  unfold octet_Less.f bytes_Compare.f
  simp only [Option.bind_some]
  rw [cmp_lexI ha hb]
theorem next_loop (a : List Int) (ha : Byt a) (hl : a.length ≤ 1000) (i : Nat) : ∀ k : Nat, i ≤ a.length → i < k → (∀ j, i ≤ j → j < a.length → rd a (j : Int) = 255) →
    ∃ r ok, octet_Next.l0 k a (i : Int) = some (r, ok) ∧ (ok = true → ∃ p c t, a = p ++ c :: t ∧ r = p ++ [c + 1] ∧ c < 255 ∧ 0 ≤ c) ∧ (ok = false → r = []) := by
  induction i with
  | zero =>
    intro k _ hk _
    obtain ⟨k, rfl⟩ : ∃ m, k = m + 1 := ⟨k - 1, by omega⟩
    refine ⟨[], false, ?_, by simp, by simp⟩
    simp only [octet_Next.l0]
    rw [if_neg (by omega), if_pos (by omega)]
  | succ i ih =>
    intro k hi hk hall
    obtain ⟨k, rfl⟩ : ∃ m, k = m + 1 := ⟨k - 1, by omega⟩
    have e : ((i + 1 : Nat) : Int) - 1 = (i : Int) := by omega
    have ew : wrap64 (((i + 1 : Nat) : Int) - 1) = (i : Int) := by rw [e]; unfold wrap64; omega
    simp only [octet_Next.l0, ew]
    rw [if_pos (by omega), if_pos (by omega), if_pos (by omega)]
    have hb : a[i]? = some (rd a (i : Int)) := by
      have hlt : i < a.length := by omega
      simp [rd, List.getD_eq_getElem?_getD, List.getElem?_eq_getElem hlt]
    by_cases h255 : rd a (i : Int) = 255
    · rw [if_pos h255]
      exact ih k (by omega) (by omega) (fun j h1 h2 => by
        rcases Nat.lt_or_ge i j with h | h
        · exact hall j (by omega) h2
        · obtain rfl : j = i := by omega
          exact h255)
    · rw [if_neg h255, if_neg (by omega), if_pos (by omega), if_pos (by omega)]
      have hr := ha _ (List.mem_of_getElem? hb)
      have hsplit : a = a.take i ++ rd a (i : Int) :: a.drop (i + 1) := by
        have hlt : i < a.length := by omega
        have h1 : a[i] = rd a (i : Int) := by have := List.getElem?_eq_getElem hlt; rw [hb] at this; exact (Option.some.inj this).symm
        rw [← h1, List.getElem_cons_drop, List.take_append_drop]
      have ht : a.take (i + 1) = a.take i ++ [rd a (i : Int)] := by
        rw [List.take_add_one, hb]; rfl
      have hlen : (a.take i).length = i := by rw [List.length_take]; omega
      unfold slices_Clone_byte_byte.f
      rw [Int.toNat_natCast, if_pos (by rw [List.length_take]; omega)]
      simp only [Option.bind_some]
      rw [if_pos (by rw [List.length_take]; omega)]
      refine ⟨_, true, rfl, fun _ => ⟨a.take i, rd a (i : Int), a.drop (i + 1), hsplit, ?_, by omega, hr.1⟩, by simp⟩
      rw [ht, Int.toNat_natCast]
      have e1 : rd (a.take i ++ [rd a (i : Int)]) (i : Int) = rd a (i : Int) := by
        generalize rd a (i : Int) = q
        simp [rd, List.getD_eq_getElem?_getD, List.getElem?_append_right, hlen]
      rw [e1]
      have e2 : (rd a (i : Int) + 1) % 256 = rd a (i : Int) + 1 := by omega
      rw [e2, List.set_append_right _ _ (by omega), hlen, Nat.sub_self]
      rfl
theorem next_tells (a : List Int) (ha : Byt a) (hl : a.length ≤ 1000) (k : Nat) (hk : a.length < k) :
    ∃ r ok, octet_Next.f k a = some (r, ok) ∧ (ok = true → ∃ p c t, a = p ++ c :: t ∧ r = p ++ [c + 1] ∧ c < 255 ∧ 0 ≤ c) ∧ (ok = false → r = []) := by
  unfold octet_Next.f
  exact next_loop a ha hl a.length k (Nat.le_refl _) hk (fun j h1 h2 => by omega)
theorem known_tells (k : Nat) (hk : 20 ≤ k) : marigraphlaw2_known.f k = some true := at_rounds marigraphlaw2_known.mono hk (by decide +kernel)
theorem i64_of {a : Int} (h : (Lit.int .i64 a).wf = true) : -9223372036854775808 ≤ a ∧ a ≤ 9223372036854775807 := by
  have h1 : IntKind.i64.min = -9223372036854775808 := rfl
  have h2 : IntKind.i64.max = 9223372036854775807 := rfl
  simp only [Lit.wf, Bool.and_eq_true, decide_eq_true_eq] at h
  omega
/-! ### Within -/
theorem within_w {n lo hi : Int} (h1 : -2199023255552 ≤ lo) (h2 : lo ≤ hi) (h3 : hi ≤ 2199023255552) (hn : -9223372036854775808 ≤ n ∧ n ≤ 9223372036854775807) : ∃ r, Ev (fun k => marigraphbook_Within.f k n lo hi) r ∧ lo ≤ r ∧ r ≤ hi ∧ (lo ≤ n → n ≤ hi → r = n) := by
  have e1 : wrap64 (wrap64 (hi - lo) + 1) = hi - lo + 1 := by unfold wrap64; omega
  have hj : ∀ b : Bool, (b = true ↔ (lo ≤ n ∧ n ≤ hi)) → ∃ r, (∀ k, marigraphbook_Within.j0 (k + 1) n lo hi b = some r) ∧ lo ≤ r ∧ r ≤ hi ∧ (lo ≤ n → n ≤ hi → r = n) := by
    intro b hb
    simp only [marigraphbook_Within.j0, e1]
    cases b with
    | true =>
      have := hb.1 rfl
      exact ⟨n, fun _ => by rw [if_pos rfl], this.1, this.2, fun _ _ => rfl⟩
    | false =>
      have hno : ¬ (lo ≤ n ∧ n ≤ hi) := fun h => by have := hb.2 h; cases this
      simp only [Bool.false_eq_true, if_false]
      rw [if_neg (by omega)]
      have hm : (0 : Int) < hi - lo + 1 := by omega
      have t1 : Int.tmod n (hi - lo + 1) < hi - lo + 1 := Int.tmod_lt_of_pos _ hm
      have t2 : -(hi - lo + 1) < Int.tmod n (hi - lo + 1) := by
        have := Int.tmod_lt_of_pos (-n) hm
        rw [Int.neg_tmod] at this
        omega
      generalize Int.tmod n (hi - lo + 1) = t at *
      by_cases ht : t < 0
      · rw [if_pos ht]
        have e : wrap64 (lo + wrap64 (wrap64 (wrap64 (t + hi) - lo) + 1)) = t + hi + 1 := by unfold wrap64; omega
        rw [e]
        exact ⟨_, fun _ => rfl, by omega, by omega, fun a b => absurd ⟨a, b⟩ hno⟩
      · rw [if_neg ht]
        have e : wrap64 (lo + t) = lo + t := by unfold wrap64; omega
        rw [e]
        exact ⟨_, fun _ => rfl, by omega, by omega, fun a b => absurd ⟨a, b⟩ hno⟩
  have fin : ∀ b : Bool, (∀ k, marigraphbook_Within.f k n lo hi = marigraphbook_Within.j0 k n lo hi b) → (b = true ↔ (lo ≤ n ∧ n ≤ hi)) → ∃ r, Ev (fun k => marigraphbook_Within.f k n lo hi) r ∧ lo ≤ r ∧ r ≤ hi ∧ (lo ≤ n → n ≤ hi → r = n) := by
    intro b hf hb
    obtain ⟨r, h, hr⟩ := hj b hb
    refine ⟨r, ⟨1, fun k hk => ?_⟩, hr⟩
    obtain ⟨k, rfl⟩ : ∃ m, k = m + 1 := ⟨k - 1, by omega⟩
    show marigraphbook_Within.f (k + 1) n lo hi = some r
    rw [hf]
    exact h k
  by_cases hlo : n ≥ lo
  · refine fin (decide (n ≤ hi)) (fun k => by unfold marigraphbook_Within.f; rw [if_pos hlo]) ?_
    rw [decide_eq_true_iff]
    exact ⟨fun h => ⟨hlo, h⟩, fun h => h.2⟩
  · refine fin false (fun k => by unfold marigraphbook_Within.f; rw [if_neg hlo]) ?_
    constructor
    · intro h; cases h
    · intro h; omega
/-! ### bytes as strings -/
theorem u8_eq {x y : Int} (hx : 0 ≤ x ∧ x ≤ 255) (hy : 0 ≤ y ∧ y ≤ 255) : (UInt8.ofNat x.toNat = UInt8.ofNat y.toNat) ↔ x = y := by
  constructor
  · intro h
    have h := congrArg UInt8.toNat h
    rw [UInt8.toNat_ofNat', UInt8.toNat_ofNat'] at h
    omega
  · rintro rfl; rfl
theorem bytesLess_lexI : ∀ {a b : List Int}, Byt a → Byt b → Op.bytesLess (Lib.bytesOf a) (Lib.bytesOf b) = decide (lexI a b < 0)
  | [], [], _, _ => rfl
  | [], _ :: _, _, _ => rfl
  | _ :: _, [], _, _ => rfl
  | x :: a, y :: b, ha, hb => by
    have ih := bytesLess_lexI ha.cons.2 hb.cons.2
    have h1 := u8_lt ha.cons.1 hb.cons.1
    have h2 := u8_eq ha.cons.1 hb.cons.1
    unfold Lib.bytesOf at ih ⊢
    rw [List.map_cons, List.map_cons, Op.bytesLess, lexI, ih]
    rw [Bool.eq_iff_iff]
    simp only [Bool.or_eq_true, Bool.and_eq_true, decide_eq_true_iff, beq_iff_eq, h1, h2]
    by_cases hlt : x < y
    · simp [hlt]
    · by_cases hgt : y < x
      · have hne : ¬ x = y := by omega
        simp [hlt, hgt, hne]
      · have he : x = y := by omega
        simp [he]
theorem sn_less {a b : List Int} (ha : Byt a) (hb : Byt b) : Op.bytesLess (strOfNums a).toList (strOfNums b).toList = decide (lexI a b < 0) := by
  rw [Lib.strOfNums_toList, Lib.strOfNums_toList]
  exact bytesLess_lexI ha hb
theorem rput_loop (n : Int) (s : Nat) : ∀ (acc : List Int), s ≤ 8 → acc.length + s ≤ 140737488355328 → Ev (fun k => marigraphref2_Put.l0 k n acc ((s : Int) - 1)) (acc ++ be n s) := by
  induction s with
  | zero =>
    intro acc _ _
    refine Ev.step (f := fun _ => some (acc ++ be n 0)) (fun k => ?_) (Ev.now _)
    simp only [marigraphref2_Put.l0]
    rw [if_neg (by omega)]
    simp [be]
  | succ s ih =>
    intro acc hs hl
    have e : ((s + 1 : Nat) : Int) - 1 = (s : Int) := by omega
    have ew : IntKind.u64.wrap (wrap64 (8 * (s : Int))) = ((8 * s : Nat) : Int) := by rw [wrap_8 s (by omega), IntKind.wrap_u64]; omega
    have e2 : wrap64 ((s : Int) - 1) = (s : Int) - 1 := by unfold wrap64; omega
    have e3 : shr .u64 n ((8 * s : Nat) : Int) = n / 2 ^ (8 * s) := by
      unfold shr
      have hb : IntKind.u64.bits = 64 := rfl
      rw [Int.toNat_natCast, hb, Nat.min_eq_left (by omega)]
    have hi := ih (acc ++ [n / 2 ^ (8 * s) % 256]) (by omega) (by rw [List.length_append, List.length_singleton]; omega)
    rw [List.append_assoc] at hi
    rw [e]
    refine Ev.step (fun k => ?_) hi
    simp only [marigraphref2_Put.l0]
    rw [ew, if_pos (by omega), if_pos (by omega), if_pos (by omega), e2, e3]
theorem size_in (size : Int) : ∃ s : Nat, s ≤ 8 ∧ mx (mn size 8) 0 = (s : Int) := by
  refine ⟨(mx (mn size 8) 0).toNat, ?_, ?_⟩
  · unfold mx mn; split <;> split <;> omega
  · unfold mx mn; split <;> split <;> omega
theorem put_any (l : List Int) (n size : Int) (s : Nat) (hs : s ≤ 8) (e : mx (mn size 8) 0 = (s : Int)) (hl : l.length ≤ 1000) : Ev (fun k => octet_Put.f k l n size) (l ++ be n s) := by
  refine ⟨9, fun k hk => ?_⟩
  show octet_Put.f k l n size = _
  unfold octet_Put.f slices_Clone_byte_byte.f
  rw [if_pos (by omega)]
  simp only [Option.bind_some]
  rw [e]
  exact put_loop n s k l hs (by omega) (by omega)
theorem rput_any (l : List Int) (n size : Int) (s : Nat) (hs : s ≤ 8) (e : mx (mn size 8) 0 = (s : Int)) (hl : l.length ≤ 1000) : Ev (fun k => marigraphref2_Put.f k l n size) (l ++ be n s) := by
  unfold marigraphref2_Put.f
  simp only [Option.bind_some, List.length_nil, Nat.zero_add, List.nil_append, e, if_pos (show l.length < 140737488355328 by omega)]
  exact rput_loop n s l hs (by omega)
theorem rd_at {l : List Int} {j : Nat} (h : j < l.length) : l.take (j + 1) = l.take j ++ [rd l (j : Int)] := by
  rw [List.take_add_one, List.getElem?_eq_getElem h]
  unfold rd
  rw [Int.toNat_natCast, List.getD_eq_getElem?_getD, List.getElem?_eq_getElem h]
  rfl
theorem rget_loop (l : List Int) (s : Nat) (hs : s ≤ l.length) (hl : l.length ≤ 1000) : ∀ (d j : Nat), j + d = s → Ev (fun k => marigraphref2_Get.l0 k l (s : Int) (getI 0 (l.take j)) (j : Int)) (getI 0 (l.take s), true) := by
  intro d
  induction d with
  | zero =>
    intro j hj
    have : j = s := by omega
    subst this
    refine Ev.step (f := fun _ => some (getI 0 (l.take j), true)) (fun k => ?_) (Ev.now _)
    simp only [marigraphref2_Get.l0]
    rw [if_neg (Int.lt_irrefl _)]
  | succ d ih =>
    intro j hj
    have hn := ih (j + 1) (by omega)
    have e2 : wrap64 ((j : Int) + 1) = ((j + 1 : Nat) : Int) := by unfold wrap64; omega
    rw [rd_at (show j < l.length by omega), getI_snoc] at hn
    refine Ev.step (fun k => ?_) hn
    simp only [marigraphref2_Get.l0]
    rw [if_pos (by omega), if_pos (by omega), if_pos (by omega), e2]
theorem get_same (l : List Int) (size : Int) (hl : l.length ≤ 1000) : ∃ r, octet_Get.f l size = some r ∧ Ev (fun k => marigraphref2_Get.f k l size) r := by
  have hj : Ev (fun k => marigraphref2_Get.j0 k l size true) (0, false) := Ev.step (f := fun _ => some (0, false)) (fun k => by simp only [marigraphref2_Get.j0, if_true]) (Ev.now _)
  unfold octet_Get.f marigraphref2_Get.f
  by_cases h0 : size < 0
  · simp only [if_pos h0]
    exact ⟨_, rfl, hj⟩
  · by_cases h8 : size > 8
    · simp only [if_neg h0, if_pos h8]
      exact ⟨_, rfl, hj⟩
    · by_cases hn : size > (l.length : Int)
      · simp only [if_neg h0, if_neg h8, if_pos hn, decide_eq_true (show (l.length : Int) < size from hn)]
        exact ⟨_, rfl, hj⟩
      · simp only [if_neg h0, if_neg h8, if_neg hn, decide_eq_false (show ¬ (l.length : Int) < size from hn)]
        refine ⟨_, rfl, ?_⟩
        obtain ⟨s, rfl⟩ := Int.eq_ofNat_of_zero_le (show 0 ≤ size by omega)
        rw [Int.toNat_natCast]
        refine Ev.step (fun k => ?_) (rget_loop l s (by omega) hl s 0 (by omega))
        simp only [marigraphref2_Get.j0]
        rw [if_neg (by decide)]
        rfl
theorem lays_tells (l : List Int) (n size : Int) (hl : l.length ≤ 1000) : Ev (fun k => marigraphlaw2_lays.f k l n size) true := by
  obtain ⟨⟨r1, r2⟩, h1, h2⟩ := get_same l size hl
  obtain ⟨s, hs, e⟩ := size_in size
  unfold marigraphlaw2_lays.f
  rw [h1]
  simp only [Option.bind_some]
  refine Ev.bind h2 ?_
  simp only [beq_self_eq_true, if_true]
  refine Ev.bind (put_any l n size s hs e hl) (Ev.bind (rput_any l n size s hs e hl) ?_)
  simp only [beq_self_eq_true]
  exact Ev.now _
theorem next_same (a : List Int) (hl : a.length ≤ 1000) : ∀ (k : Nat) (i : Int), marigraphref2_Next.l0 k a i = octet_Next.l0 k a i
  | 0, _ => rfl
  | k + 1, i => by
    have ih := next_same a hl k
    have ht : ∀ n, (a.take n).length < 140737488355328 := fun n => by rw [List.length_take]; omega
    simp only [marigraphref2_Next.l0, octet_Next.l0, slices_Clone_byte_byte.f, Option.bind_some, List.length_nil, Nat.zero_add, List.nil_append, if_pos (ht _), ih]
theorem shared_same (a b : List Int) : ∀ (k : Nat) (i : Int), marigraphref2_Shared.l0 k a b i = octet_Shared.l0 k a b i
  | 0, _ => rfl
  | k + 1, i => by
    have ih := shared_same a b k
    simp only [marigraphref2_Shared.l0, octet_Shared.l0, ih]
theorem shared_some (a b : List Int) (hl : a.length ≤ 1000) : ∀ (d j : Nat), j + d = a.length → ∃ n, Ev (fun k => octet_Shared.l0 k a b (j : Int)) n := by
  intro d
  induction d with
  | zero =>
    intro j hj
    refine ⟨(j : Int), Ev.step (f := fun _ => some (j : Int)) (fun k => ?_) (Ev.now _)⟩
    simp only [octet_Shared.l0]
    rw [if_neg (by omega)]
  | succ d ih =>
    intro j hj
    by_cases hb : (j : Int) < (b.length : Int)
    · by_cases he : rd a (j : Int) = rd b (j : Int)
      · obtain ⟨n, hn⟩ := ih (j + 1) (by omega)
        have e2 : wrap64 ((j : Int) + 1) = ((j + 1 : Nat) : Int) := by unfold wrap64; omega
        refine ⟨n, Ev.step (fun k => ?_) hn⟩
        simp only [octet_Shared.l0]
        rw [if_pos (by omega), if_pos hb, if_pos (by omega), if_pos he, e2]
      · refine ⟨(j : Int), Ev.step (f := fun _ => some (j : Int)) (fun k => ?_) (Ev.now _)⟩
        simp only [octet_Shared.l0]
        rw [if_pos (by omega), if_pos hb, if_pos (by omega), if_neg he]
    · refine ⟨(j : Int), Ev.step (f := fun _ => some (j : Int)) (fun k => ?_) (Ev.now _)⟩
      simp only [octet_Shared.l0]
      rw [if_pos (by omega), if_neg hb]
theorem order_tells {a b : List Int} (ha : Byt a) (hb : Byt b) (la : a.length ≤ 1000) : Ev (fun k => marigraphlaw2_order.f k a b) true := by
  obtain ⟨r, ok, hn, _, _⟩ := next_tells a ha la (a.length + 1) (Nat.lt_succ_self _)
  have h1 : Ev (fun k => octet_Next.f k a) (r, ok) := ⟨a.length + 1, fun k hk => at_rounds (octet_Next.mono a) hk hn⟩
  have h2 : Ev (fun k => marigraphref2_Next.f k a) (r, ok) := by
    obtain ⟨K, hK⟩ := h1
    refine ⟨K, fun k hk => ?_⟩
    have := hK k hk
    show marigraphref2_Next.f k a = _
    unfold marigraphref2_Next.f
    rw [next_same a la]
    exact this
  obtain ⟨n, h3⟩ := shared_some a b la a.length 0 (by omega)
  have h4 : Ev (fun k => marigraphref2_Shared.l0 k a b ((0 : Nat) : Int)) n := by
    obtain ⟨K, hK⟩ := h3
    exact ⟨K, fun k hk => by show marigraphref2_Shared.l0 k a b _ = _; rw [shared_same]; exact hK k hk⟩
  have hr : octet_Less.f a b = some (decide (lexI a b < 0)) := less_tells ha hb
  have hr2 : marigraphref2_Less.f a b = some (decide (lexI a b < 0)) := by unfold marigraphref2_Less.f; rw [sn_less ha hb]
  unfold marigraphlaw2_order.f
  refine Ev.bind h1 (Ev.bind h2 ?_)
  rw [hr, hr2]
  simp only [Option.bind_some, beq_self_eq_true, if_true]
  refine Ev.bind (show Ev (fun k => octet_Shared.f k a b) n from h3) (Ev.bind (show Ev (fun k => marigraphref2_Shared.f k a b) n from h4) ?_)
  simp only [if_true]
  exact Ev.now _
theorem same_loop (l : List Int) (hl : l.length ≤ 1000) : ∀ (d j : Nat), j + d = l.length → Ev (fun k => marigraphbook_Same_byte.l0 k l l (j : Int)) true := by
  intro d
  induction d with
  | zero =>
    intro j hj
    refine Ev.step (f := fun _ => some true) (fun k => ?_) (Ev.now _)
    simp only [marigraphbook_Same_byte.l0]
    rw [if_neg (by omega)]
  | succ d ih =>
    intro j hj
    have e2 : wrap64 ((j : Int) + 1) = ((j + 1 : Nat) : Int) := by unfold wrap64; omega
    refine Ev.step (fun k => ?_) (ih (j + 1) (by omega))
    simp only [marigraphbook_Same_byte.l0]
    rw [if_pos (by omega), if_pos (by omega), if_pos (by omega), if_pos trivial, e2]
theorem intact_loop (a : List Int) (m : Int) (hl : a.length ≤ 1000) : ∀ (d j : Nat), j + d = 80 → Ev (fun k => marigraphbook_Intact_byte.l0 k (a ++ List.replicate 80 m) m ((a.length + j : Nat) : Int)) true := by
  have hlen : (a ++ List.replicate 80 m).length = a.length + 80 := by rw [List.length_append, List.length_replicate]
  intro d
  induction d with
  | zero =>
    intro j hj
    refine Ev.step (f := fun _ => some true) (fun k => ?_) (Ev.now _)
    simp only [marigraphbook_Intact_byte.l0]
    rw [if_neg (by omega)]
  | succ d ih =>
    intro j hj
    have hr : rd (a ++ List.replicate 80 m) ((a.length + j : Nat) : Int) = m := by
      unfold rd
      rw [Int.toNat_natCast, List.getD_eq_getElem?_getD, List.getElem?_append_right (Nat.le_add_right _ _), Nat.add_sub_cancel_left, List.getElem?_replicate, if_pos (by omega)]
      rfl
    have e2 : wrap64 (((a.length + j : Nat) : Int) + 1) = ((a.length + (j + 1) : Nat) : Int) := by unfold wrap64; omega
    refine Ev.step (fun k => ?_) (ih (j + 1) (by omega))
    simp only [marigraphbook_Intact_byte.l0]
    rw [if_pos (by omega), if_pos (by omega), if_pos hr, e2]
theorem Intact_tells (a : List Int) (m : Int) (hl : a.length ≤ 1000) : Ev (fun k => marigraphbook_Intact_byte.f k (a ++ List.replicate 80 m) a m) true := by
  have hlen : (a ++ List.replicate 80 m).length = a.length + 80 := by rw [List.length_append, List.length_replicate]
  have e1 : ((a ++ List.replicate 80 m).length : Int) = wrap64 ((a.length : Int) + 80) := by rw [hlen]; unfold wrap64; omega
  have ht : (a ++ List.replicate 80 m).take a.length = a := List.take_left' rfl
  have hi := intact_loop a m hl 80 0 (by omega)
  unfold marigraphbook_Intact_byte.f
  simp only [if_pos e1, if_pos (show 0 ≤ (a.length : Int) by omega), if_pos (show (a.length : Int) ≤ ((a ++ List.replicate 80 m).length : Int) by omega), Int.toNat_natCast, ht]
  have hs : Ev (fun k => marigraphbook_Same_byte.f k a a) true := by
    unfold marigraphbook_Same_byte.f
    simp only [if_true]
    exact same_loop a hl a.length 0 (by omega)
  refine Ev.bind hs ?_
  refine Ev.step (fun k => ?_) hi
  simp only [marigraphbook_Intact_byte.j0, Bool.not_true]
  rw [if_neg (by decide)]
  rfl
theorem OctetTells : marigraphlaw2_OctetTells.Pure := by
  intro l0 l1 n size _ _ h0 _ _ h1 _ hsz
  have ha := (Byt.of_wf h0).cut 60
  have hb := (Byt.of_wf h1).cut 60
  have la := cut_len l0 60
  have lb := cut_len l1 60
  have hsz := i64_of hsz
  refine Ev.rounds ?_
  unfold marigraphlaw2_OctetTells.f
  generalize cutI l0 60 = a at *
  generalize cutI l1 60 = b at *
  have hlen : (a ++ List.replicate 80 (165 : Int)).length = a.length + 80 := by rw [List.length_append, List.length_replicate]
  have hR : marigraphbook_Roomy_byte.f a 165 = some (a ++ List.replicate 80 165) := by unfold marigraphbook_Roomy_byte.f; rw [if_pos (by omega)]
  have ht : (a ++ List.replicate 80 (165 : Int)).take a.length = a := List.take_left' rfl
  obtain ⟨s, hs, s0, s8, _⟩ := within_w (n := size) (lo := 0) (hi := 8) (by decide) (by decide) (by decide) hsz
  rw [hR]
  simp only [Option.bind_some, if_pos (show 0 ≤ (a.length : Int) by omega), if_pos (show (a.length : Int) ≤ ((a ++ List.replicate 80 (165 : Int)).length : Int) by omega), Int.toNat_natCast, ht]
  refine Ev.bind (lays_tells a n size (by omega)) ?_
  simp only [if_true]
  refine Ev.bind hs (Ev.bind (lays_tells a n s (by omega)) ?_)
  simp only [if_true]
  refine Ev.bind (order_tells ha hb (by omega)) ?_
  have hf : Byt (a ++ [255]) := ha.append (by intro x hx; rw [List.mem_singleton] at hx; omega)
  simp only [if_true, List.nil_append, List.length_nil, Nat.zero_add, if_pos (show a.length < 140737488355328 by omega)]
  refine Ev.bind (order_tells hf ha (by rw [List.length_append, List.length_singleton]; omega)) ?_
  simp only [if_true]
  refine Ev.bind (Intact_tells a 165 (by omega)) ?_
  simp only [if_true]
  exact Ev.bind (show Ev (fun k => marigraphlaw2_known.f k) true from ⟨20, fun k hk => known_tells k hk⟩) (Ev.now _)

end Go.Proofs.Ytjlliaomgpgnpaa.Pure

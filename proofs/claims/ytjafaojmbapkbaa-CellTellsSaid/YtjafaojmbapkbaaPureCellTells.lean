/- Cells are written and read as the document says. No condition beyond the statement. -/
import Derived.Test.YtjafaojmbapkbaaPCellTellsx9
namespace Go.Proofs.Ytjafaojmbapkbaa.Pure
open Go.RowKit Go.Proofs.Ytjafaojmbapkbaa.PCellTells Go.Proofs.YtjafaojmbapkbaaW.PrintWords Go.Proofs.YtjafaojmbapkbaaW.PrintLast
set_option linter.unusedVariables false
set_option linter.unusedSimpArgs false

/-! ### bytes as whole numbers: in range, in order -/
def Byt (l : List Int) : Prop := ∀ x ∈ l, 0 ≤ x ∧ x ≤ 255
theorem Byt.of_wf {l : List Int} (h : ∀ x ∈ l, (Lit.int .u8 x).wf = true) : Byt l := by
  intro x hx
  have := h x hx
  have h1 : IntKind.u8.min = 0 := rfl
  have h2 : IntKind.u8.max = 255 := rfl
  simp only [Lit.wf, Bool.and_eq_true, decide_eq_true_eq] at this
  omega
theorem Byt.cons {x : Int} {l : List Int} (h : Byt (x :: l)) : (0 ≤ x ∧ x ≤ 255) ∧ Byt l := ⟨h x (by simp), fun y hy => h y (by simp [hy])⟩
theorem Byt.append {a b : List Int} (ha : Byt a) (hb : Byt b) : Byt (a ++ b) := by
  intro x hx
  rcases List.mem_append.1 hx with h | h
  · exact ha x h
  · exact hb x h
/-! ### Put -/
def be (n : Int) : Nat → List Int
  | 0 => []
  | s + 1 => (n / 2 ^ (8 * s)) % 256 :: be n s
theorem be_len (n : Int) (s : Nat) : (be n s).length = s := by induction s with | zero => rfl | succ s ih => simp [be, ih]
theorem be_byt (n : Int) (s : Nat) : Byt (be n s) := by
  induction s with
  | zero => intro x hx; cases hx
  | succ s ih =>
    intro x hx
    rcases List.mem_cons.1 hx with rfl | hx
    · omega
    · exact ih x hx
theorem wrap_8 (s : Nat) (h : s ≤ 8) : wrap64 (8 * (s : Int)) = ((8 * s : Nat) : Int) := by unfold wrap64; omega
theorem put_loop (n : Int) (s : Nat) : ∀ (k : Nat) (acc : List Int), s ≤ 8 → s < k → acc.length + s ≤ 140737488355328 → octet_Put.l0 k n acc ((s : Int) - 1) = some (acc ++ be n s) := by
  induction s with
  | zero =>
    intro k acc _ hk _
    obtain ⟨k, rfl⟩ : ∃ m, k = m + 1 := ⟨k - 1, by omega⟩
    simp only [octet_Put.l0]
    rw [if_neg (by omega)]
    simp [be]
  | succ s ih =>
    intro k acc hs hk hl
    obtain ⟨k, rfl⟩ : ∃ m, k = m + 1 := ⟨k - 1, by omega⟩
    have e : ((s + 1 : Nat) : Int) - 1 = (s : Int) := by omega
    rw [e]
    simp only [octet_Put.l0]
    rw [wrap_8 s (by omega), if_pos (by omega), if_pos (by omega), if_pos (by omega)]
    have e2 : wrap64 ((s : Int) - 1) = (s : Int) - 1 := by unfold wrap64; omega
    have e3 : shr .u64 n ((8 * s : Nat) : Int) = n / 2 ^ (8 * s) := by
      unfold shr
      have hb : IntKind.u64.bits = 64 := rfl
      rw [Int.toNat_natCast, hb, Nat.min_eq_left (by omega)]
    rw [e2, e3, ih k _ (by omega) (by omega) (by rw [List.length_append, List.length_singleton]; omega)]
    simp [be]
theorem put_tells (l : List Int) (n : Int) (s : Nat) (k : Nat) (hs : s ≤ 8) (hk : s < k) (hl : l.length + 8 ≤ 140737488355328) : octet_Put.f k l n (s : Int) = some (l ++ be n s) := by
  unfold octet_Put.f slices_Clone_byte_byte.f
  rw [if_pos (by omega)]
  simp only [Option.bind_some]
  have e : mx (mn (s : Int) 8) 0 = (s : Int) := by unfold mx mn; split <;> split <;> omega
  rw [e]
  exact put_loop n s k l hs hk (by omega)
theorem Byt.cut {a : List Int} (h : Byt a) (n : Nat) : Byt (cutI a n) := by
  unfold cutI
  split
  · exact fun x hx => h x (List.mem_of_mem_take hx)
  · exact h
theorem cut_len (a : List Int) (n : Nat) : (cutI a n).length ≤ n := by
  unfold cutI
  split
  · rw [List.length_take]; omega
  · omega
theorem emod_256 (m P : Int) (hP : 0 < P) : m % (P * 256) = m % P + P * (m / P % 256) := by
  have h1 := Int.emod_add_mul_ediv m P
  have h2 := Int.emod_add_mul_ediv (m / P) 256
  have h3 := Int.emod_nonneg m (Int.ne_of_gt hP)
  have h4 := Int.emod_lt_of_pos m hP
  generalize hq : m / P = q at *
  have h5 : P * q = P * (q % 256) + P * 256 * (q / 256) := by rw [Int.mul_assoc, ← Int.mul_add, h2]
  have h6 : 0 ≤ P * (q % 256) := Int.mul_nonneg (by omega) (by omega)
  have h7 : P * (q % 256) ≤ P * 255 := Int.mul_le_mul_of_nonneg_left (by omega) (by omega)
  have e : m = (m % P + P * (q % 256)) + P * 256 * (q / 256) := by omega
  calc m % (P * 256) = ((m % P + P * (q % 256)) + P * 256 * (q / 256)) % (P * 256) := by rw [← e]
    _ = (m % P + P * (q % 256)) % (P * 256) := Int.add_mul_emod_self_left _ _ _
    _ = m % P + P * (q % 256) := Int.emod_eq_of_lt (by omega) (by omega)
/-! ### Get -/
theorem or_byte (q c : Int) (hq : 0 ≤ q) (hc : 0 ≤ c ∧ c ≤ 255) (hb : q * 256 + c < 18446744073709551616) : Go.bits .or .u64 (IntKind.u64.wrap (q * 256)) (IntKind.u64.wrap c) = q * 256 + c := by
  have w (x : Int) (h0 : 0 ≤ x) (h1 : x < 18446744073709551616) : IntKind.u64.wrap x = x := by
    have : IntKind.u64.wrap x = x % 18446744073709551616 := by simp [IntKind.wrap, IntKind.bits, IntKind.signed]
    rw [this]; exact Int.emod_eq_of_lt h0 h1
  rw [w _ (by omega) (by omega), w _ (by omega) (by omega)]
  exact bits_join .u64 64 (by decide) (fun x h0 h1 => w x h0 (by simpa using h1)) 8 _ _ (by omega) (by omega) (by show q * 256 < 18446744073709551616; omega) hc.1 (by show c < 256; omega) (by show c < 18446744073709551616; omega)
theorem getI_be (n : Int) (s : Nat) : ∀ a : Int, 0 ≤ a → a * 2 ^ (8 * s) + n % 2 ^ (8 * s) < 18446744073709551616 → getI a (be n s) = a * 2 ^ (8 * s) + n % 2 ^ (8 * s) := by
  induction s with
  | zero => intro a _ _; simp [be, getI]
  | succ s ih =>
    intro a ha hb
    have hp : (0 : Int) < 2 ^ (8 * s) := Int.pow_pos (by decide)
    have e : (2 : Int) ^ (8 * (s + 1)) = 2 ^ (8 * s) * 256 := by rw [Nat.mul_add, Int.pow_add]; rfl
    rw [e, emod_256 n _ hp] at hb ⊢
    have h3 := Int.emod_nonneg n (Int.ne_of_gt hp)
    have h4 := Int.emod_lt_of_pos n hp
    generalize hP : (2 : Int) ^ (8 * s) = P at *
    show getI (Go.bits .or .u64 (IntKind.u64.wrap (a * 256)) (IntKind.u64.wrap (n / 2 ^ (8 * s) % 256))) (be n s) = _
    rw [hP]
    generalize hq : n / P % 256 = c at *
    have hc : 0 ≤ c ∧ c ≤ 255 := by omega
    have e2 : a * (P * 256) + (n % P + P * c) = (a * 256 + c) * P + n % P := by
      rw [Int.add_mul, Int.mul_comm P 256, ← Int.mul_assoc, Int.mul_comm P c]; omega
    rw [e2] at hb ⊢
    have h0 : 0 ≤ a * 256 + c := by omega
    have h5 : (a * 256 + c) * 1 ≤ (a * 256 + c) * P := Int.mul_le_mul_of_nonneg_left (by omega) h0
    rw [or_byte a c ha hc (by omega)]
    exact ih _ h0 hb
theorem evNow {α : Type} {f : Nat → Option α} {r : α} (hf : ∀ k, f k = some r) : Ev f r := ⟨0, fun k _ => hf k⟩
theorem i64_of {a : Int} (h : (Lit.int .i64 a).wf = true) : -9223372036854775808 ≤ a ∧ a ≤ 9223372036854775807 := by
  have h1 : IntKind.i64.min = -9223372036854775808 := rfl
  have h2 : IntKind.i64.max = 9223372036854775807 := rfl
  simp only [Lit.wf, Bool.and_eq_true, decide_eq_true_eq] at h
  omega
/-! ### Within -/
theorem within_w {n lo hi : Int} (h1 : -2199023255552 ≤ lo) (h2 : lo ≤ hi) (h3 : hi ≤ 2199023255552) (hn : -9223372036854775808 ≤ n ∧ n ≤ 9223372036854775807) : ∃ r, Ev (fun k => marigraphbook_Within.f k n lo hi) r ∧ lo ≤ r ∧ r ≤ hi ∧ (lo ≤ n → n ≤ hi → r = n) := by
  have e1 : wrap64 (wrap64 (hi - lo) + 1) = hi - lo + 1 := by unfold wrap64; omega
  have hj : ∀ b : Bool, (b = true ↔ (lo ≤ n ∧ n ≤ hi)) → ∃ r, (∀ k, marigraphbook_Within.j0 (k + 1) n lo hi b = some r) ∧ lo ≤ r ∧ r ≤ hi ∧ (lo ≤ n → n ≤ hi → r = n) := by
    intro b hb
    simp only [marigraphbook_Within.j0, e1]
    cases b with
    | true =>
      have := hb.1 rfl
      exact ⟨n, fun _ => by rw [if_pos rfl], this.1, this.2, fun _ _ => rfl⟩
    | false =>
      have hno : ¬ (lo ≤ n ∧ n ≤ hi) := fun h => by have := hb.2 h; cases this
      simp only [Bool.false_eq_true, if_false]
      rw [if_neg (by omega)]
      have hm : (0 : Int) < hi - lo + 1 := by omega
      have t1 : Int.tmod n (hi - lo + 1) < hi - lo + 1 := Int.tmod_lt_of_pos _ hm
      have t2 : -(hi - lo + 1) < Int.tmod n (hi - lo + 1) := by
        have := Int.tmod_lt_of_pos (-n) hm
        rw [Int.neg_tmod] at this
        omega
      generalize Int.tmod n (hi - lo + 1) = t at *
      by_cases ht : t < 0
      · rw [if_pos ht]
        have e : wrap64 (lo + wrap64 (wrap64 (wrap64 (t + hi) - lo) + 1)) = t + hi + 1 := by unfold wrap64; omega
        rw [e]
        exact ⟨_, fun _ => rfl, by omega, by omega, fun a b => absurd ⟨a, b⟩ hno⟩
      · rw [if_neg ht]
        have e : wrap64 (lo + t) = lo + t := by unfold wrap64; omega
        rw [e]
        exact ⟨_, fun _ => rfl, by omega, by omega, fun a b => absurd ⟨a, b⟩ hno⟩
  have fin : ∀ b : Bool, (∀ k, marigraphbook_Within.f k n lo hi = marigraphbook_Within.j0 k n lo hi b) → (b = true ↔ (lo ≤ n ∧ n ≤ hi)) → ∃ r, Ev (fun k => marigraphbook_Within.f k n lo hi) r ∧ lo ≤ r ∧ r ≤ hi ∧ (lo ≤ n → n ≤ hi → r = n) := by
    intro b hf hb
    obtain ⟨r, h, hr⟩ := hj b hb
    refine ⟨r, ⟨1, fun k hk => ?_⟩, hr⟩
    obtain ⟨k, rfl⟩ : ∃ m, k = m + 1 := ⟨k - 1, by omega⟩
    show marigraphbook_Within.f (k + 1) n lo hi = some r
    rw [hf]
    exact h k
  by_cases hlo : n ≥ lo
  · refine fin (decide (n ≤ hi)) (fun k => by unfold marigraphbook_Within.f; rw [if_pos hlo]) ?_
    rw [decide_eq_true_iff]
    exact ⟨fun h => ⟨hlo, h⟩, fun h => h.2⟩
  · refine fin false (fun k => by unfold marigraphbook_Within.f; rw [if_neg hlo]) ?_
    constructor
    · intro h; cases h
    · intro h; omega
/-! ### bytes as strings -/
theorem u8_eq {x y : Int} (hx : 0 ≤ x ∧ x ≤ 255) (hy : 0 ≤ y ∧ y ≤ 255) : (UInt8.ofNat x.toNat = UInt8.ofNat y.toNat) ↔ x = y := by
  constructor
  · intro h
    have h := congrArg UInt8.toNat h
    rw [UInt8.toNat_ofNat', UInt8.toNat_ofNat'] at h
    omega
  · rintro rfl; rfl
theorem bytesOf_inj : ∀ {a b : List Int}, Byt a → Byt b → (Lib.bytesOf a = Lib.bytesOf b ↔ a = b)
  | [], [], _, _ => by simp
  | [], _ :: _, _, _ => by simp [Lib.bytesOf]
  | _ :: _, [], _, _ => by simp [Lib.bytesOf]
  | x :: a, y :: b, ha, hb => by
    have ih := bytesOf_inj ha.cons.2 hb.cons.2
    have h1 := u8_eq ha.cons.1 hb.cons.1
    unfold Lib.bytesOf at ih ⊢
    rw [List.map_cons, List.map_cons, List.cons.injEq, List.cons.injEq, h1, ih]
theorem sn_eq {a b : List Int} (ha : Byt a) (hb : Byt b) : ((strOfNums a).toList = (strOfNums b).toList) ↔ a = b := by
  rw [Lib.strOfNums_toList, Lib.strOfNums_toList]
  exact bytesOf_inj ha hb
/-! ### points and their cells -/
def May (o v : Int) : Prop := 0 ≤ o ∧ o < 3600 ∧ -2147483647 ≤ v ∧ v ≤ 2147483647
instance (o v : Int) : Decidable (May o v) := by unfold May; exact inferInstance
def width (v : Int) : Nat := if -128 ≤ v ∧ v ≤ 127 then 1 else if -32768 ≤ v ∧ v ≤ 32767 then 2 else 4
theorem width_is (v : Int) : width v = 1 ∨ width v = 2 ∨ width v = 4 := by unfold width; split <;> (try split) <;> omega
theorem i8_w (n : Int) : IntKind.i8.wrap n = (n + 128) % 256 - 128 := by
  simp [IntKind.wrap, IntKind.bits, IntKind.signed]
  split <;> omega
theorem i16_w (n : Int) : IntKind.i16.wrap n = (n + 32768) % 65536 - 32768 := by
  simp [IntKind.wrap, IntKind.bits, IntKind.signed]
  split <;> omega
theorem width_tells {v : Int} : cell_Width.f v = some (width v : Int) := by
  unfold cell_Width.f width
  rw [i8_w, i16_w]
  have e1 : wrap64 ((v + 128) % 256 - 128) = (v + 128) % 256 - 128 := by unfold wrap64; omega
  have e2 : wrap64 ((v + 32768) % 65536 - 32768) = (v + 32768) % 65536 - 32768 := by unfold wrap64; omega
  rw [e1, e2]
  by_cases h1 : -128 ≤ v ∧ v ≤ 127
  · rw [if_pos (by omega), if_pos h1]; rfl
  · rw [if_neg (by omega), if_neg h1]
    by_cases h2 : -32768 ≤ v ∧ v ≤ 32767
    · rw [if_pos (by omega), if_pos h2]; rfl
    · rw [if_neg (by omega), if_neg h2]; rfl
/-- A point's qualifier; its value's bytes. -/
def qual (o v : Int) : List Int := be (o * 16 + width v - 1) 2
def val_ (v : Int) : List Int := be (IntKind.u64.wrap v) (width v)
theorem qual_len (o v : Int) : (qual o v).length = 2 := be_len _ _
theorem val_len (v : Int) : (val_ v).length = width v := be_len _ _
theorem put_ev (l : List Int) (n : Int) (s : Nat) (hs : s ≤ 8) (hl : l.length + 8 ≤ 140737488355328) : Ev (fun k => octet_Put.f k l n (s : Int)) (l ++ be n s) := ⟨9, fun k hk => put_tells l n s k hs (by omega) hl⟩
theorem wide_tells {o v : Int} (h : 0 ≤ o ∧ o < 3600) : Ev (fun k => cell_Wide.f k o (width v : Int)) (qual o v) := by
  have hw := width_is v
  have e : IntKind.u64.wrap (wrap64 ((wrap64 ((wrap64 (o * 16)) + (width v : Int))) - 1)) = o * 16 + width v - 1 := by
    rw [IntKind.wrap_u64]; unfold wrap64; omega
  have hp := put_ev [] (o * 16 + width v - 1) 2 (by decide) (by decide)
  rw [List.nil_append] at hp
  unfold cell_Wide.f
  simp only [e, if_neg (show ¬ o < 0 by omega), if_neg (show ¬ o ≥ 3600 by omega)]
  unfold qual
  rcases hw with h1 | h1 | h1
  all_goals
    rw [h1] at hp ⊢
    exact Ev.bind hp (Ev.now _)
theorem right_may (o v : Int) : cell_right.f o v = some (decide (May o v)) := by
  unfold cell_right.f
  by_cases h1 : 0 ≤ o
  · rw [if_pos (show o ≥ 0 from h1)]
    by_cases h2 : o < 3600
    · rw [if_pos h2]
      by_cases h3 : -2147483647 ≤ v
      · rw [if_pos (show v ≥ -2147483647 from h3)]
        congr 1
        rw [Bool.eq_iff_iff, decide_eq_true_iff, decide_eq_true_iff]
        exact ⟨fun h => ⟨h1, h2, h3, h⟩, fun h => h.2.2.2⟩
      · rw [if_neg h3, decide_eq_false (fun h => h3 h.2.2.1)]
    · rw [if_neg h2, decide_eq_false (fun h => h2 h.2.1)]
  · rw [if_neg h1, decide_eq_false (fun h => h1 h.1)]
theorem lay_tells {o v : Int} (h : May o v) (q x : List Int) (hq : q.length ≤ 1000000) (hx : x.length ≤ 1000000) : Ev (fun k => cell_lay.f k q x o v) (q ++ qual o v, x ++ val_ v) := by
  unfold cell_lay.f
  rw [width_tells]
  simp only [Option.bind_some]
  refine Ev.bind (wide_tells ⟨h.1, h.2.1⟩) ?_
  have hl := qual_len o v
  simp only [if_pos (show q.length + (qual o v).length < 140737488355328 by omega)]
  exact Ev.bind (put_ev x _ _ (by have := width_is v; omega) (by omega)) (Ev.now _)
theorem One_tells {o v : Int} (h : May o v) : Ev (fun k => cell_One.f k o v) (qual o v, val_ v, 0) := by
  unfold cell_One.f
  rw [right_may, decide_eq_true h]
  simp only [Option.bind_some, if_true]
  exact Ev.bind (lay_tells h [] [] (by decide) (by decide)) (Ev.now _)
theorem One_not {o v : Int} (h : ¬ May o v) : Ev (fun k => cell_One.f k o v) ([], [], 1) := by
  unfold cell_One.f
  rw [right_may, decide_eq_false h]
  simp only [Option.bind_some, Bool.false_eq_true, if_false]
  exact Ev.now _
/-- Points that rise, each may be. -/
def Rise : Int → List S45 → Prop
  | _, [] => True
  | b, o :: l => b < o.f0 ∧ May o.f0 o.f1 ∧ Rise o.f0 l
def quals : List S45 → List Int
  | [] => []
  | o :: l => qual o.f0 o.f1 ++ quals l
def vals : List S45 → List Int
  | [] => []
  | o :: l => val_ o.f1 ++ vals l
theorem quals_len : ∀ l : List S45, (quals l).length = 2 * l.length
  | [] => rfl
  | o :: l => by rw [quals, List.length_append, qual_len, quals_len l, List.length_cons]; omega
theorem vals_len : ∀ l : List S45, (vals l).length ≤ 4 * l.length
  | [] => by decide
  | o :: l => by
    have h := vals_len l
    have h2 := width_is o.f1
    rw [vals, List.length_append, val_len, List.length_cons]; omega
theorem rd_pre (pre : List S45) (o : S45) (suf : List S45) : rd_T45 (pre ++ o :: suf) (pre.length : Int) = o := by
  unfold rd_T45
  rw [Int.toNat_natCast, List.getD_eq_getElem?_getD, List.getElem?_append_right (Nat.le_refl _), Nat.sub_self]
  rfl
theorem quals_snoc (pre : List S45) (o : S45) : quals (pre ++ [o]) = quals pre ++ qual o.f0 o.f1 := by
  induction pre with
  | nil => simp [quals]
  | cons a pre ih => rw [List.cons_append, quals, ih, quals, List.append_assoc]
theorem vals_snoc (pre : List S45) (o : S45) : vals (pre ++ [o]) = vals pre ++ val_ o.f1 := by
  induction pre with
  | nil => simp [vals]
  | cons a pre ih => rw [List.cons_append, vals, ih, vals, List.append_assoc]
theorem wrap_nxt {n : Nat} (h : n < 1000000) : wrap64 ((n : Int) + 1) = ((n + 1 : Nat) : Int) := by unfold wrap64; omega
theorem many_loop (l : List S45) (hl : l.length ≤ 1000) : ∀ (suf pre : List S45) (b : Int), l = pre ++ suf → Rise b suf → (∀ p o, pre = p ++ [o] → b = o.f0) →
    Ev (fun k => cell_Many.l0 k l (quals pre) (vals pre) l (l.length : Int) (pre.length : Int)) (quals l, vals l ++ [0], 0) := by
  intro suf
  induction suf with
  | nil =>
    intro pre b e _ _
    rw [List.append_nil] at e
    subst e
    have h2 := vals_len l
    refine Ev.step (f := fun k => some (quals l, vals l ++ [0], 0)) (fun k => ?_) (Ev.now _)
    simp only [cell_Many.l0]
    rw [if_neg (by omega), if_pos (by omega)]
  | cons o suf ih =>
    intro pre b e hr hb
    obtain ⟨h1, h2, h3⟩ := hr
    have hll : l.length = pre.length + (suf.length + 1) := by rw [e, List.length_append, List.length_cons]
    have hq := quals_len pre
    have hv := vals_len pre
    have hlay := lay_tells h2 (quals pre) (vals pre) (by omega) (by omega)
    have e2 : l = (pre ++ [o]) ++ suf := by rw [e, List.append_assoc]; rfl
    have hnext := ih (pre ++ [o]) o.f0 e2 h3 (by
      intro p o' h
      obtain ⟨_, h⟩ := List.append_inj' h rfl
      rw [(List.cons.inj h).1])
    rw [quals_snoc, vals_snoc] at hnext
    have hrd : rd_T45 l (pre.length : Int) = o := by rw [e]; exact rd_pre pre o suf
    have hw : wrap64 ((pre.length : Int) + 1) = ((pre ++ [o]).length : Int) := by rw [wrap_nxt (by omega), List.length_append]; rfl
    refine Ev.step (f := fun k => (cell_lay.f k (quals pre) (vals pre) o.f0 o.f1).bind fun bt => cell_Many.l0 k l bt.1 bt.2 l (l.length : Int) (wrap64 ((pre.length : Int) + 1))) (fun k => ?_) ?_
    · simp only [cell_Many.l0]
      rw [if_pos (by omega), if_pos (by omega), if_pos (by omega), hrd, right_may, decide_eq_true h2]
      simp only [Option.bind_some, if_true]
      rcases List.eq_nil_or_concat pre with hp | ⟨p, o', hp⟩
      · rw [if_neg (by rw [hp]; decide)]
      · have hp' : pre = p ++ [o'] := by rw [hp]; exact List.concat_eq_append
        have hpl : pre.length = p.length + 1 := by rw [hp', List.length_append]; rfl
        have hwp : wrap64 ((pre.length : Int) - 1) = (p.length : Int) := by rw [hpl]; unfold wrap64; omega
        have hro : rd_T45 l (p.length : Int) = o' := by rw [e, hp', List.append_assoc]; exact rd_pre p o' _
        have hbo := hb p o' hp'
        rw [if_pos (by omega), hwp, if_pos (by omega), if_pos (by omega), hro, if_neg (by omega)]
    · refine Ev.bind hlay ?_
      rw [hw]
      exact hnext
theorem Many_tells {l : List S45} {b : Int} (h : Rise b l) (h2 : 2 ≤ l.length) (h64 : l.length ≤ 64) : Ev (fun k => cell_Many.f k l) (quals l, vals l ++ [0], 0) := by
  have hloop := many_loop l (by omega) l [] b rfl h (by intro p o e; cases p <;> cases e)
  unfold cell_Many.f
  simp only [if_neg (show ¬ (l.length : Int) < 2 by omega), decide_eq_false (show ¬ (l.length : Int) > 64 by omega)]
  refine Ev.step (f := fun k => cell_Many.l0 k l [] [] l (l.length : Int) 0) (fun k => ?_) hloop
  simp only [cell_Many.j0]
  rw [if_neg (by decide)]
theorem known_ev : Ev (fun k => marigraphlaw15_known.f k) true := Ev.of (fun k => marigraphlaw15_known.mono k) (k := 40) (by decide +kernel)
/-! ### points as they are drawn -/
def conv (o : S26) : S45 := ⟨o.f0, o.f1⟩
theorem rd_mem {l : List Int} {j : Nat} (h : j < l.length) : rd l (j : Int) ∈ l := by
  unfold rd
  rw [Int.toNat_natCast, List.getD_eq_getElem?_getD, List.getElem?_eq_getElem h]
  exact List.getElem_mem h
theorem offs_loop (l0 l1 : List Int) (h0 : ∀ x ∈ l0, (Lit.int .i64 x).wf = true) (h1 : ∀ x ∈ l1, (Lit.int .i64 x).wf = true) (n : Nat) (hn : n ≤ 60) : ∀ (d j : Nat) (acc : List S26) (b : Int), d = min l0.length n - j → acc.length = j → j ≤ 60 → -1 ≤ b → b ≤ 50 * j - 1 →
    ∃ m, Ev (fun k => marigraphlaw15_offs.l0 k l0 l1 (n : Int) acc b (j : Int)) (acc ++ m) ∧ Rise b (m.map conv) ∧ m.length = d := by
  intro d
  induction d with
  | zero =>
    intro j acc b hd ha hj hb1 hb2
    refine ⟨[], ?_, trivial, rfl⟩
    rw [List.append_nil]
    refine Ev.step (f := fun k => marigraphlaw15_offs.j1 k l0 l1 (n : Int) acc b (j : Int) false) (fun k => ?_) ?_
    · simp only [marigraphlaw15_offs.l0]
      by_cases hl : (j : Int) < (l0.length : Int)
      · rw [if_pos hl, decide_eq_false (by omega)]
      · rw [if_neg hl]
    · refine Ev.step (f := fun _ => some acc) (fun k => ?_) (Ev.now _)
      simp only [marigraphlaw15_offs.j1]
      rw [if_neg (by decide)]
  | succ d ih =>
    intro j acc b hd ha hj hb1 hb2
    have hlt : j < l0.length := by omega
    have hjn : j < n := by omega
    obtain ⟨t, ht, t1, t2, _⟩ := within_w (n := rd l0 (j : Int)) (lo := 1) (hi := 50) (by decide) (by decide) (by decide) (i64_of (h0 _ (rd_mem hlt)))
    have e1 : wrap64 (b + t) = b + t := by unfold wrap64; omega
    have e2 : wrap64 ((j : Int) + 1) = ((j + 1 : Nat) : Int) := by unfold wrap64; omega
    have hv : ∃ v, -2147483647 ≤ v ∧ v ≤ 2147483647 ∧ ∀ g, Ev (fun k => marigraphlaw15_offs.l0 k l0 l1 (n : Int) (acc ++ [⟨b + t, v⟩]) (b + t) ((j + 1 : Nat) : Int)) g → Ev (fun k => if (j : Int) < (l1.length : Int) then ((marigraphbook_Within.f k (rd l1 (j : Int)) (-2147483647) 2147483647).bind fun t196 => (if acc.length < 8796093022208 then (marigraphlaw15_offs.l0 k l0 l1 (n : Int) (acc ++ [(⟨wrap64 (b + t), t196⟩ : S26)]) (wrap64 (b + t)) (wrap64 ((j : Int) + 1))) else (none))) else (if acc.length < 8796093022208 then (marigraphlaw15_offs.l0 k l0 l1 (n : Int) (acc ++ [(⟨wrap64 (b + t), 0⟩ : S26)]) (wrap64 (b + t)) (wrap64 ((j : Int) + 1))) else (none))) g := by
      simp only [e1, e2, if_pos (show acc.length < 8796093022208 by omega)]
      by_cases hl1 : j < l1.length
      · obtain ⟨v, hv, v1, v2, _⟩ := within_w (n := rd l1 (j : Int)) (lo := -2147483647) (hi := 2147483647) (by decide) (by decide) (by decide) (i64_of (h1 _ (rd_mem hl1)))
        refine ⟨v, v1, v2, fun g hg => ?_⟩
        simp only [if_pos (show (j : Int) < (l1.length : Int) by omega)]
        exact Ev.bind hv hg
      · refine ⟨0, by decide, by decide, fun g hg => ?_⟩
        simp only [if_neg (show ¬ (j : Int) < (l1.length : Int) by omega)]
        exact hg
    obtain ⟨v, v1, v2, hv⟩ := hv
    obtain ⟨m, hm, hr, hml⟩ := ih (j + 1) (acc ++ [⟨b + t, v⟩]) (b + t) (by omega) (by rw [List.length_append, ha]; rfl) (by omega) (by omega) (by omega)
    refine ⟨⟨b + t, v⟩ :: m, ?_, ⟨show b < b + t by omega, ⟨show 0 ≤ b + t by omega, show b + t < 3600 by omega, v1, v2⟩, hr⟩, by rw [List.length_cons, hml]⟩
    rw [show acc ++ ⟨b + t, v⟩ :: m = (acc ++ [⟨b + t, v⟩]) ++ m by rw [List.append_assoc]; rfl]
    refine Ev.step (f := fun k => marigraphlaw15_offs.j1 k l0 l1 (n : Int) acc b (j : Int) true) (fun k => ?_) ?_
    · simp only [marigraphlaw15_offs.l0]
      rw [if_pos (by omega), decide_eq_true (by omega)]
    · refine Ev.step (f := fun k => (marigraphbook_Within.f k (rd l0 (j : Int)) 1 50).bind fun t => if (j : Int) < (l1.length : Int) then ((marigraphbook_Within.f k (rd l1 (j : Int)) (-2147483647) 2147483647).bind fun t196 => (if acc.length < 8796093022208 then (marigraphlaw15_offs.l0 k l0 l1 (n : Int) (acc ++ [(⟨wrap64 (b + t), t196⟩ : S26)]) (wrap64 (b + t)) (wrap64 ((j : Int) + 1))) else (none))) else (if acc.length < 8796093022208 then (marigraphlaw15_offs.l0 k l0 l1 (n : Int) (acc ++ [(⟨wrap64 (b + t), 0⟩ : S26)]) (wrap64 (b + t)) (wrap64 ((j : Int) + 1))) else (none))) (fun k => ?_) (Ev.bind ht (hv _ hm))
      simp only [marigraphlaw15_offs.j1]
      rw [if_pos trivial, if_pos (by omega), if_pos (by omega)]
theorem offs_tells (l0 l1 : List Int) (h0 : ∀ x ∈ l0, (Lit.int .i64 x).wf = true) (h1 : ∀ x ∈ l1, (Lit.int .i64 x).wf = true) (n : Nat) (hn : n ≤ 60) : ∃ m, Ev (fun k => marigraphlaw15_offs.f k l0 l1 (n : Int)) m ∧ Rise (-1) (m.map conv) ∧ m.length ≤ n := by
  obtain ⟨m, h, hr, hl⟩ := offs_loop l0 l1 h0 h1 n hn _ 0 [] (-1) rfl rfl (by omega) (by omega) (by omega)
  exact ⟨m, h, hr, by omega⟩
theorem theirs_loop (l : List S26) (hl : l.length ≤ 1000) : ∀ (suf pre : List S26), l = pre ++ suf → Ev (fun k => marigraphlaw15_theirs.l0 k l (pre.map conv) (pre.length : Int)) (l.map conv) := by
  intro suf
  induction suf with
  | nil =>
    intro pre e
    rw [List.append_nil] at e
    subst e
    refine Ev.step (f := fun _ => some (l.map conv)) (fun k => ?_) (Ev.now _)
    simp only [marigraphlaw15_theirs.l0]
    rw [if_neg (by omega)]
  | cons o suf ih =>
    intro pre e
    have hll : l.length = pre.length + (suf.length + 1) := by rw [e, List.length_append, List.length_cons]
    have hnext := ih (pre ++ [o]) (by rw [e, List.append_assoc]; rfl)
    have hrd : rd_T26 l (pre.length : Int) = o := by
      rw [e]; unfold rd_T26
      rw [Int.toNat_natCast, List.getD_eq_getElem?_getD, List.getElem?_append_right (Nat.le_refl _), Nat.sub_self]
      rfl
    refine Ev.step (fun k => ?_) hnext
    simp only [marigraphlaw15_theirs.l0]
    rw [if_pos (by omega), if_pos (by omega), if_pos (by rw [List.length_map]; omega), hrd, wrap_nxt (by omega), List.map_append, List.length_append]
    rfl
theorem theirs_tells (l : List S26) (hl : l.length ≤ 1000) : Ev (fun k => marigraphlaw15_theirs.f k l) (l.map conv) := theirs_loop l hl l [] rfl
/-! ### what is read of points that were written -/
theorem sx_val {v : Int} (h : -2147483647 ≤ v ∧ v ≤ 2147483647) : sx (width v) (v % 18446744073709551616 % 2 ^ (8 * width v)) = v := by
  rcases width_is v with e | e | e
  · have hv : -128 ≤ v ∧ v ≤ 127 := by
      unfold width at e
      split at e
      · assumption
      · split at e <;> omega
    rw [e]
    show wrap64 (IntKind.u64.wrap (v % 18446744073709551616 % 256 * 72057594037927936)) / 72057594037927936 = v
    rw [IntKind.wrap_u64]; unfold wrap64; omega
  · have hv : -32768 ≤ v ∧ v ≤ 32767 := by
      unfold width at e
      split at e
      · omega
      · split at e
        · assumption
        · omega
    rw [e]
    show wrap64 (IntKind.u64.wrap (v % 18446744073709551616 % 65536 * 281474976710656)) / 281474976710656 = v
    rw [IntKind.wrap_u64]; unfold wrap64; omega
  · rw [e]
    show wrap64 (IntKind.u64.wrap (v % 18446744073709551616 % 4294967296 * 4294967296)) / 4294967296 = v
    rw [IntKind.wrap_u64]; unfold wrap64; omega
theorem read_one {o v : Int} (h : May o v) (q w : List Int) (acc : List S45) (ha : acc.length < 8796093022207) : readI (qual o v ++ q) (val_ v ++ w) acc = readI q w (acc ++ [⟨o, v⟩]) := by
  have hw := width_is v
  obtain ⟨o0, o1, v0, v1⟩ := h
  have hq : getI 0 (qual o v) = o * 16 + width v - 1 := by
    unfold qual
    rw [getI_be _ _ 0 (by omega) (by rw [show (2 : Int) ^ (8 * 2) = 65536 from rfl]; omega), show (2 : Int) ^ (8 * 2) = 65536 from rfl]; omega
  have hv : getI 0 ((val_ v ++ w).take (width v)) = v % 18446744073709551616 % 2 ^ (8 * width v) := by
    have hp : (0 : Int) < 2 ^ (8 * width v) ∧ (2 : Int) ^ (8 * width v) ≤ 4294967296 := by rcases hw with e | e | e <;> rw [e] <;> decide
    have h1 := Int.emod_lt_of_pos (v % 18446744073709551616) hp.1
    rw [List.take_left' (val_len v)]
    unfold val_
    rw [IntKind.wrap_u64, getI_be _ _ 0 (by omega) (by omega)]
    omega
  obtain ⟨n, hn⟩ := Int.eq_ofNat_of_zero_le (show 0 ≤ o * 16 + (width v : Int) - 1 by omega)
  have e1 : n % 8 + 1 = width v := by omega
  have e2 : ((n / 16 : Nat) : Int) = o := by omega
  have hl : ¬ (val_ v ++ w).length < width v := by rw [List.length_append, val_len]; omega
  have hqq : qual o v = [(o * 16 + width v - 1) / 2 ^ (8 * 1) % 256, (o * 16 + width v - 1) / 2 ^ (8 * 0) % 256] := rfl
  rw [hqq] at hq ⊢
  rw [List.cons_append, List.cons_append, List.nil_append, readI, hq, hn, Int.toNat_natCast, e1, e2, if_pos (by omega), if_pos (by omega), if_pos ha, if_neg hl, hv, sx_val ⟨v0, v1⟩, List.drop_left' (val_len v)]
theorem read_all (w : List Int) : ∀ (l : List S45) (b : Int) (acc : List S45), Rise b l → acc.length + l.length < 1000000 → readI (quals l) (vals l ++ w) acc = some (acc ++ l)
  | [], _, acc, _, _ => by rw [quals, readI, List.append_nil]
  | o :: l, b, acc, h, hl => by
    rw [List.length_cons] at hl
    rw [quals, vals, List.append_assoc, read_one h.2.1 _ _ _ (by omega), read_all w l o.f0 _ h.2.2 (by rw [List.length_append, List.length_singleton]; omega), List.append_assoc]
    rfl
theorem Parse_one {o : S45} (h : May o.f0 o.f1) : Ev (fun k => cell_Parse.f k (qual o.f0 o.f1) (val_ o.f1)) ([o], 0) := by
  have hr : cell_read.f (qual o.f0 o.f1) (val_ o.f1) = some [o] := by
    have := read_one h [] [] [] (by decide)
    rw [List.append_nil, List.append_nil] at this
    unfold cell_read.f
    rw [this, readI]; rfl
  unfold cell_Parse.f
  simp only [hr, Option.bind_some, List.length_singleton, if_pos (show ((1 : Nat) : Int) = 1 from rfl), if_pos (show 0 < ((1 : Nat) : Int) by decide), show rd_T45 [o] 0 = o from rfl]
  refine Ev.bind (One_tells h) ?_
  simp only [if_true]
  exact Ev.now _
theorem Parse_many {l : List S45} {b : Int} (h : Rise b l) (h2 : 2 ≤ l.length) (h64 : l.length ≤ 64) : Ev (fun k => cell_Parse.f k (quals l) (vals l ++ [0])) (l, 0) := by
  have hr : cell_read.f (quals l) (vals l ++ [0]) = some l := by
    have := read_all [0] l b [] h (by rw [List.length_nil]; omega)
    exact this
  unfold cell_Parse.f
  simp only [hr, Option.bind_some, if_neg (show ¬ (l.length : Int) = 1 by omega), if_pos (show (l.length : Int) > 1 by omega)]
  refine Ev.bind (Many_tells h h2 h64) ?_
  simp only [if_true]
  exact Ev.now _
theorem off_loop (l : List S45) (hl : l.length ≤ 1000) : ∀ (d j : Nat), d + j = l.length → Ev (fun k => cell_Off.l0 k l l (j : Int)) true := by
  intro d
  induction d with
  | zero =>
    intro j hj
    refine Ev.step (f := fun _ => some true) (fun k => ?_) (Ev.now _)
    simp only [cell_Off.l0]
    rw [if_neg (by omega)]
  | succ d ih =>
    intro j hj
    refine Ev.step (fun k => ?_) (ih (j + 1) (by omega))
    simp only [cell_Off.l0]
    rw [if_pos (by omega), if_pos (by omega), if_pos (by omega), wrap_nxt (by omega), if_neg (by simp)]
theorem off_self (l : List S45) (hl : l.length ≤ 1000) : Ev (fun k => cell_Off.f k l l) true := by
  unfold cell_Off.f
  simp only [if_true]
  exact off_loop l hl l.length 0 rfl
/-! ### the document's side -/
theorem rwidth_tells (v : Int) : Ev (fun k => marigraphref15_Width.f k v) (width v : Int) := by
  refine Ev.step (f := fun k => marigraphref15_Width.f (k + 1) v) (fun _ => rfl) (evNow (fun k => ?_))
  unfold width
  simp only [marigraphref15_Width.f, marigraphref15_Width.j0]
  by_cases h1 : -128 ≤ v
  · by_cases h2 : v ≤ 127
    · rw [if_pos (show v ≥ -128 from h1), decide_eq_true h2, if_pos rfl, if_pos ⟨h1, h2⟩]; rfl
    · rw [if_pos (show v ≥ -128 from h1), decide_eq_false h2, if_neg (by decide), if_pos (show v ≥ -32768 by omega), if_neg (show ¬ (-128 ≤ v ∧ v ≤ 127) by omega)]
      by_cases h3 : v ≤ 32767
      · rw [if_pos h3, if_pos (show -32768 ≤ v ∧ v ≤ 32767 by omega)]; rfl
      · rw [if_neg h3, if_neg (show ¬ (-32768 ≤ v ∧ v ≤ 32767) by omega)]; rfl
  · rw [if_neg h1, if_neg (by decide), if_neg (show ¬ (-128 ≤ v ∧ v ≤ 127) by omega)]
    by_cases h3 : -32768 ≤ v
    · rw [if_pos (show v ≥ -32768 from h3), if_pos (show v ≤ 32767 by omega), if_pos (show -32768 ≤ v ∧ v ≤ 32767 by omega)]; rfl
    · rw [if_neg h3, if_neg (show ¬ (-32768 ≤ v ∧ v ≤ 32767) by omega)]; rfl
theorem rput_loop (n : Int) (s : Nat) : ∀ (acc : List Int), s ≤ 8 → acc.length + s ≤ 140737488355328 → Ev (fun k => marigraphref2_Put.l0 k n acc ((s : Int) - 1)) (acc ++ be n s) := by
  induction s with
  | zero =>
    intro acc _ _
    refine Ev.step (f := fun _ => some (acc ++ be n 0)) (fun k => ?_) (Ev.now _)
    simp only [marigraphref2_Put.l0]
    rw [if_neg (by omega)]
    simp [be]
  | succ s ih =>
    intro acc hs hl
    have e : ((s + 1 : Nat) : Int) - 1 = (s : Int) := by omega
    have ew : IntKind.u64.wrap (wrap64 (8 * (s : Int))) = ((8 * s : Nat) : Int) := by rw [wrap_8 s (by omega), IntKind.wrap_u64]; omega
    have e2 : wrap64 ((s : Int) - 1) = (s : Int) - 1 := by unfold wrap64; omega
    have e3 : shr .u64 n ((8 * s : Nat) : Int) = n / 2 ^ (8 * s) := by
      unfold shr
      have hb : IntKind.u64.bits = 64 := rfl
      rw [Int.toNat_natCast, hb, Nat.min_eq_left (by omega)]
    have hi := ih (acc ++ [n / 2 ^ (8 * s) % 256]) (by omega) (by rw [List.length_append, List.length_singleton]; omega)
    rw [List.append_assoc] at hi
    rw [e]
    refine Ev.step (fun k => ?_) hi
    simp only [marigraphref2_Put.l0]
    rw [ew, if_pos (by omega), if_pos (by omega), if_pos (by omega), e2, e3]
theorem rput_tells (l : List Int) (n : Int) (s : Nat) (hs : s ≤ 8) (hl : l.length + 8 ≤ 140737488355328) : Ev (fun k => marigraphref2_Put.f k l n (s : Int)) (l ++ be n s) := by
  have e : mx (mn (s : Int) 8) 0 = (s : Int) := by unfold mx mn; split <;> split <;> omega
  unfold marigraphref2_Put.f
  simp only [Option.bind_some, List.length_nil, Nat.zero_add, List.nil_append, e, if_pos (show l.length < 140737488355328 by omega)]
  exact rput_loop n s l hs (by omega)
theorem rwide_tells {o v : Int} (h : 0 ≤ o ∧ o < 3600) : Ev (fun k => marigraphref15_Wide.f k o (width v : Int)) (qual o v) := by
  have hw := width_is v
  have e : IntKind.u64.wrap (wrap64 ((wrap64 ((wrap64 (o * 16)) + (width v : Int))) - 1)) = o * 16 + width v - 1 := by
    rw [IntKind.wrap_u64]; unfold wrap64; omega
  unfold marigraphref15_Wide.f
  rw [e]
  exact Ev.bind (rput_tells [] (o * 16 + width v - 1) 2 (by decide) (by decide)) (Ev.now _)
theorem rd26_pre (pre : List S26) (o : S26) (suf : List S26) : rd_T26 (pre ++ o :: suf) (pre.length : Int) = o := by
  unfold rd_T26
  rw [Int.toNat_natCast, List.getD_eq_getElem?_getD, List.getElem?_append_right (Nat.le_refl _), Nat.sub_self]
  rfl
/-- Behind many points a 0 stands. -/
def tl_ (n : Nat) : List Int := if 1 < n then [0] else []
theorem cell_loop (l : List S26) (hl : l.length ≤ 1000) : ∀ (suf pre : List S26) (b : Int), l = pre ++ suf → Rise b (suf.map conv) →
    Ev (fun k => marigraphref15_Cell.l0 k l (quals (pre.map conv)) (vals (pre.map conv)) (pre.length : Int)) (quals (l.map conv), vals (l.map conv) ++ tl_ l.length) := by
  intro suf
  induction suf with
  | nil =>
    intro pre b e _
    rw [List.append_nil] at e
    subst e
    have h2 := vals_len (l.map conv)
    rw [List.length_map] at h2
    refine Ev.step (f := fun k => some (quals (l.map conv), vals (l.map conv) ++ tl_ l.length)) (fun k => ?_) (Ev.now _)
    simp only [marigraphref15_Cell.l0]
    unfold tl_
    rw [if_neg (by omega)]
    by_cases h1 : 1 < l.length
    · rw [if_pos (show (l.length : Int) > 1 by omega), if_pos (by omega), if_pos h1]
    · rw [if_neg (show ¬ (l.length : Int) > 1 by omega), if_neg h1, List.append_nil]
  | cons o suf ih =>
    intro pre b e hr
    obtain ⟨h1, h2, h3⟩ := hr
    have hll : l.length = pre.length + (suf.length + 1) := by rw [e, List.length_append, List.length_cons]
    have hq := quals_len (pre.map conv)
    have hv := vals_len (pre.map conv)
    rw [List.length_map] at hq hv
    have hnext := ih (pre ++ [o]) o.f0 (by rw [e, List.append_assoc]; rfl) h3
    rw [List.map_append, List.map_singleton, quals_snoc, vals_snoc] at hnext
    have hrd : rd_T26 l (pre.length : Int) = o := by rw [e]; exact rd26_pre pre o suf
    have hw : wrap64 ((pre.length : Int) + 1) = ((pre ++ [o]).length : Int) := by rw [wrap_nxt (by omega), List.length_append]; rfl
    have hql := qual_len o.f0 o.f1
    refine Ev.step (f := fun k => marigraphref15_Cell.l0 (k + 1) l (quals (pre.map conv)) (vals (pre.map conv)) (pre.length : Int)) (fun _ => rfl) ?_
    simp only [marigraphref15_Cell.l0, if_pos (show (pre.length : Int) < (l.length : Int) by omega), if_pos (show 0 ≤ (pre.length : Int) by omega), hrd]
    refine Ev.bind (rwidth_tells o.f1) ?_
    refine Ev.bind (rwide_tells ⟨h2.1, h2.2.1⟩) ?_
    simp only [if_pos (show (quals (pre.map conv)).length + (qual o.f0 o.f1).length < 140737488355328 by omega)]
    refine Ev.bind (rput_tells (vals (pre.map conv)) _ _ (by have := width_is o.f1; omega) (by omega)) ?_
    rw [hw]
    exact hnext
theorem Cell_tells {l : List S26} {b : Int} (h : Rise b (l.map conv)) (hl : l.length ≤ 1000) : Ev (fun k => marigraphref15_Cell.f k l) (quals (l.map conv), vals (l.map conv) ++ tl_ l.length) := cell_loop l hl l [] b rfl h
theorem rmay_tells (o v : Int) : marigraphref15_May.f o v = some (decide (May o v)) := right_may o v
theorem get_loop (l : List Int) (s : Nat) (hl : s ≤ l.length) (h8 : s ≤ 8) : ∀ (d j : Nat), d + j = s → Ev (fun k => marigraphref2_Get.l0 k l (s : Int) (getI 0 (l.take j)) (j : Int)) (getI 0 (l.take s), true) := by
  intro d
  induction d with
  | zero =>
    intro j hj
    obtain rfl : j = s := by omega
    refine Ev.step (f := fun _ => some (getI 0 (l.take j), true)) (fun k => ?_) (Ev.now _)
    simp only [marigraphref2_Get.l0]
    rw [if_neg (by omega)]
  | succ d ih =>
    intro j hj
    have hlt : j < l.length := by omega
    have e : getI 0 (l.take (j + 1)) = Go.bits .or .u64 (IntKind.u64.wrap (getI 0 (l.take j) * 256)) (IntKind.u64.wrap (rd l (j : Int))) := by
      rw [List.take_add_one, List.getElem?_eq_getElem hlt, Option.toList_some, getI_snoc]
      unfold rd
      rw [Int.toNat_natCast, List.getD_eq_getElem?_getD, List.getElem?_eq_getElem hlt]
      rfl
    have hi := ih (j + 1) (by omega)
    rw [e] at hi
    refine Ev.step (fun k => ?_) hi
    simp only [marigraphref2_Get.l0]
    rw [if_pos (by omega), if_pos (by omega), if_pos (by omega), wrap_nxt (by omega)]
theorem rget_tells (l : List Int) (s : Nat) (h8 : s ≤ 8) (hl : s ≤ l.length) : Ev (fun k => marigraphref2_Get.f k l (s : Int)) (getI 0 (l.take s), true) := by
  unfold marigraphref2_Get.f
  simp only [if_neg (show ¬ (s : Int) < 0 by omega), if_neg (show ¬ (s : Int) > 8 by omega), decide_eq_false (show ¬ (l.length : Int) < (s : Int) by omega)]
  refine Ev.step (fun k => ?_) (get_loop l s hl h8 s 0 rfl)
  simp only [marigraphref2_Get.j0]
  rw [if_neg (by decide)]
  rfl
theorem rget_not (l : List Int) (s : Nat) (h : 8 < s ∨ l.length < s) : Ev (fun k => marigraphref2_Get.f k l (s : Int)) (0, false) := by
  have hj : Ev (fun k => marigraphref2_Get.j0 k l (s : Int) true) (0, false) := by
    refine Ev.step (f := fun _ => some (0, false)) (fun k => ?_) (Ev.now _)
    simp only [marigraphref2_Get.j0, if_true]
  unfold marigraphref2_Get.f
  simp only [if_neg (show ¬ (s : Int) < 0 by omega)]
  by_cases h8 : (s : Int) > 8
  · simp only [if_pos h8]
    exact hj
  · simp only [if_neg h8, decide_eq_true (show (l.length : Int) < (s : Int) by omega)]
    exact hj
/-! ### reading any bytes -/
theorem getI_two {x y : Int} (hx : 0 ≤ x ∧ x ≤ 255) (hy : 0 ≤ y ∧ y ≤ 255) : getI 0 [x, y] = x * 256 + y := by
  have e1 := or_byte 0 x (by decide) hx (by omega)
  have e2 := or_byte x y hx.1 hy (by omega)
  rw [getI, getI, getI, e1, show (0 : Int) * 256 + x = x by omega, e2]
theorem read_total : ∀ (n : Nat) (q v : List Int) (acc : List S45), q.length ≤ n → Byt q → acc.length + q.length < 1000000 → ∃ t, readI q v acc = some t ∧ t.length ≤ acc.length + q.length
  | _, [], _, acc, _, _, _ => ⟨acc, rfl, by simp⟩
  | _, [_], _, _, _, _, _ => ⟨[], rfl, by simp⟩
  | 0, _ :: _ :: _, _, _, h, _, _ => by simp at h
  | n + 1, x :: y :: q, v, acc, h, hb, hl => by
    rw [List.length_cons, List.length_cons] at h hl
    have e := getI_two hb.cons.1 hb.cons.2.cons.1
    have h1 := hb.cons.1
    have h2 := hb.cons.2.cons.1
    rw [readI, if_pos (by omega), if_pos (by omega), if_pos (by omega)]
    split
    · exact ⟨[], rfl, by simp⟩
    · obtain ⟨t, ht, hlt⟩ := read_total n q (v.drop ((getI 0 [x, y]).toNat % 8 + 1)) (acc ++ [⟨((getI 0 [x, y]).toNat / 16 : Nat), sx ((getI 0 [x, y]).toNat % 8 + 1) (getI 0 (v.take ((getI 0 [x, y]).toNat % 8 + 1)))⟩]) (by omega) hb.cons.2.cons.2 (by rw [List.length_append, List.length_singleton]; omega)
      rw [List.length_append, List.length_singleton] at hlt
      exact ⟨t, ht, by rw [List.length_cons, List.length_cons]; omega⟩
/-- These bytes are just these points' cell. -/
def Good (q v : List Int) (l : List S45) : Prop := (∃ b, Rise b l) ∧ 1 ≤ l.length ∧ l.length ≤ 64 ∧ q = quals l ∧ v = vals l ++ tl_ l.length
theorem many_bad (l : List S45) (hl : l.length ≤ 1000) : ∀ (suf pre : List S45) (b : Int), l = pre ++ suf → (∀ p o, pre = p ++ [o] → b = o.f0) → (∀ c, (pre ≠ [] → c = b) → ¬ Rise c suf) →
    Ev (fun k => cell_Many.l0 k l (quals pre) (vals pre) l (l.length : Int) (pre.length : Int)) ([], [], 1) := by
  intro suf
  induction suf with
  | nil => intro pre b _ _ h; exact absurd trivial (h b (fun _ => rfl))
  | cons o suf ih =>
    intro pre b e hb hbad
    have hll : l.length = pre.length + (suf.length + 1) := by rw [e, List.length_append, List.length_cons]
    have hq := quals_len pre
    have hv := vals_len pre
    have hrd : rd_T45 l (pre.length : Int) = o := by rw [e]; exact rd_pre pre o suf
    refine Ev.step (f := fun k => cell_Many.l0 (k + 1) l (quals pre) (vals pre) l (l.length : Int) (pre.length : Int)) (fun _ => rfl) ?_
    simp only [cell_Many.l0, if_pos (show (pre.length : Int) < (l.length : Int) by omega), if_pos (show 0 ≤ (pre.length : Int) by omega), hrd, right_may, Option.bind_some]
    by_cases hm : May o.f0 o.f1
    · have hstep : ¬ Rise o.f0 suf → Ev (fun k => (cell_lay.f k (quals pre) (vals pre) o.f0 o.f1).bind fun bt => cell_Many.l0 k l bt.1 bt.2 l (l.length : Int) (wrap64 ((pre.length : Int) + 1))) ([], [], 1) := by
        intro hc
        refine Ev.bind (lay_tells hm (quals pre) (vals pre) (by omega) (by omega)) ?_
        rw [show wrap64 ((pre.length : Int) + 1) = ((pre ++ [o]).length : Int) by rw [wrap_nxt (by omega), List.length_append]; rfl]
        have := ih (pre ++ [o]) o.f0 (by rw [e, List.append_assoc]; rfl) (by
          intro p o' h
          obtain ⟨_, h⟩ := List.append_inj' h rfl
          rw [(List.cons.inj h).1]) (by
          intro c hcc hr
          obtain rfl := hcc (by simp)
          exact hc hr)
        rw [quals_snoc, vals_snoc] at this
        exact this
      simp only [decide_eq_true hm, if_true]
      rcases List.eq_nil_or_concat pre with hp | ⟨p, o', hp⟩
      · simp only [if_neg (show ¬ (pre.length : Int) > 0 by rw [hp]; decide)]
        exact hstep (fun hr => hbad (o.f0 - 1) (fun h => absurd hp h) ⟨by omega, hm, hr⟩)
      · have hp' : pre = p ++ [o'] := by rw [hp]; exact List.concat_eq_append
        have hpl : pre.length = p.length + 1 := by rw [hp', List.length_append]; rfl
        have hwp : wrap64 ((pre.length : Int) - 1) = (p.length : Int) := by rw [hpl]; unfold wrap64; omega
        have hro : rd_T45 l (p.length : Int) = o' := by rw [e, hp', List.append_assoc]; exact rd_pre p o' _
        have hbo := hb p o' hp'
        simp only [if_pos (show (pre.length : Int) > 0 by omega), hwp, if_pos (show 0 ≤ (p.length : Int) by omega), if_pos (show (p.length : Int) < (l.length : Int) by omega), hro]
        by_cases hge : o'.f0 ≥ o.f0
        · simp only [if_pos hge]
          exact Ev.now _
        · simp only [if_neg hge]
          exact hstep (fun hr => hbad b (fun _ => rfl) ⟨by omega, hm, hr⟩)
    · simp only [decide_eq_false hm, Bool.false_eq_true, if_false]
      exact Ev.now _
theorem Many_not {l : List S45} (hl : l.length ≤ 1000) (h : ¬ ((∃ b, Rise b l) ∧ 2 ≤ l.length ∧ l.length ≤ 64)) : Ev (fun k => cell_Many.f k l) ([], [], 1) := by
  have hj : Ev (fun k => cell_Many.j0 k l true) ([], [], 1) := by
    refine Ev.step (f := fun _ => some ([], [], 1)) (fun k => ?_) (Ev.now _)
    simp only [cell_Many.j0, if_true]
  unfold cell_Many.f
  by_cases h2 : l.length < 2
  · simp only [if_pos (show (l.length : Int) < 2 by omega)]
    exact hj
  · simp only [if_neg (show ¬ (l.length : Int) < 2 by omega)]
    by_cases h64 : l.length ≤ 64
    · simp only [decide_eq_false (show ¬ (l.length : Int) > 64 by omega)]
      refine Ev.step (f := fun k => cell_Many.l0 k l [] [] l (l.length : Int) 0) (fun k => ?_) (many_bad l hl l [] 0 rfl (by intro p o e; cases p <;> cases e) (fun c _ hr => h ⟨⟨c, hr⟩, by omega, h64⟩))
      simp only [cell_Many.j0]
      rw [if_neg (by decide)]
    · simp only [decide_eq_true (show (l.length : Int) > 64 by omega)]
      exact hj
theorem quals_byt : ∀ l : List S45, Byt (quals l)
  | [] => fun _ h => by cases h
  | o :: l => (be_byt _ _).append (quals_byt l)
theorem vals_byt : ∀ l : List S45, Byt (vals l)
  | [] => fun _ h => by cases h
  | o :: l => (be_byt _ _).append (vals_byt l)
theorem tl_byt (n : Nat) : Byt (tl_ n) := by
  unfold tl_
  split
  · intro x hx
    obtain rfl : x = 0 := by simpa using hx
    decide
  · intro x hx; cases hx
theorem prog_good {q v : List Int} {l : List S45} (h : Good q v l) : Ev (fun k => cell_Parse.f k q v) (l, 0) := by
  obtain ⟨⟨b, hr⟩, h1, h64, rfl, rfl⟩ := h
  by_cases h2 : 2 ≤ l.length
  · rw [show tl_ l.length = [0] from if_pos (by omega)]
    exact Parse_many hr h2 h64
  · obtain ⟨o, rfl⟩ : ∃ o, l = [o] := by
      match l, h1, h2 with
      | [o], _, _ => exact ⟨o, rfl⟩
      | _ :: _ :: _, _, h2 => exact absurd (by simp) h2
    have := Parse_one hr.2.1
    rw [show quals [o] = qual o.f0 o.f1 from List.append_nil _, show vals [o] = val_ o.f1 from List.append_nil _, show tl_ [o].length = [] from rfl, List.append_nil]
    exact this
theorem sn_two {a b q v : List Int} {α : Type} {x y : α} (ha : Byt a) (hb : Byt b) (hq : Byt q) (hv : Byt v) (h : ¬ (q = a ∧ v = b)) : (if (strOfNums a).toList = (strOfNums q).toList then (if (strOfNums b).toList = (strOfNums v).toList then some x else some y) else some y) = some y := by
  by_cases h1 : q = a
  · have h2 : ¬ v = b := fun e => h ⟨h1, e⟩
    rw [if_pos ((sn_eq ha hq).2 h1.symm), if_neg (fun e => h2 ((sn_eq hb hv).1 e).symm)]
  · rw [if_neg (fun e => h1 ((sn_eq ha hq).1 e).symm)]
theorem prog_bad {q v : List Int} (hq : Byt q) (hv : Byt v) (hl : q.length ≤ 1000) (h : ∀ l, ¬ Good q v l) : Ev (fun k => cell_Parse.f k q v) ([], 12) := by
  obtain ⟨t, ht, htl⟩ := read_total q.length q v [] (Nat.le_refl _) hq (by rw [List.length_nil]; omega)
  rw [List.length_nil] at htl
  have hr : cell_read.f q v = some t := ht
  unfold cell_Parse.f
  simp only [hr, Option.bind_some]
  match t, htl with
  | [], _ => exact Ev.now _
  | [o], _ =>
    simp only [List.length_singleton, if_pos (show ((1 : Nat) : Int) = 1 from rfl), if_pos (show 0 < ((1 : Nat) : Int) by decide), show rd_T45 [o] 0 = o from rfl]
    by_cases hm : May o.f0 o.f1
    · refine Ev.bind (One_tells hm) ?_
      simp only [if_true]
      rw [sn_two (show Byt (qual o.f0 o.f1) from be_byt _ _) (show Byt (val_ o.f1) from be_byt _ _) hq hv]
      · exact Ev.now _
      · rintro ⟨e1, e2⟩
        exact h [o] ⟨⟨o.f0 - 1, by omega, hm, trivial⟩, Nat.le_refl _, show 1 ≤ 64 by decide, by rw [e1]; exact (List.append_nil _).symm, by rw [e2]; exact ((List.append_nil _).trans (List.append_nil _)).symm⟩
    · refine Ev.bind (One_not hm) ?_
      exact Ev.now _
  | a :: b :: t, htl =>
    generalize hL : a :: b :: t = l at htl ⊢
    have h2 : 2 ≤ l.length := by rw [← hL]; simp
    simp only [if_neg (show ¬ (l.length : Int) = 1 by omega), if_pos (show (l.length : Int) > 1 by omega)]
    by_cases hm : (∃ b, Rise b l) ∧ 2 ≤ l.length ∧ l.length ≤ 64
    · obtain ⟨⟨b, hb⟩, _, h64⟩ := hm
      refine Ev.bind (Many_tells hb h2 h64) ?_
      have et : tl_ l.length = [0] := if_pos (by omega)
      simp only [if_true]
      rw [sn_two (quals_byt l) ((vals_byt l).append (et ▸ tl_byt l.length)) hq hv]
      · exact Ev.now _
      · rintro ⟨e1, e2⟩
        exact h l ⟨⟨b, hb⟩, by omega, h64, e1, by rw [et]; exact e2⟩
    · refine Ev.bind (Many_not (by omega) hm) ?_
      exact Ev.now _
/-! ### the document's reading -/
def X_ (w : Nat) (u : Int) : Int := if u / 2 ^ (8 * w - 1) = 1 then u - 2 ^ (8 * w) else u
def last_ok (out : List S26) (m : Int) : Prop := ∀ p z, out = p ++ [z] → z.f0 < m
theorem ref_core (q v : List Int) (out : List S26) (a w i m x : Int) (r : List S26 × Bool) (hl : out.length ≤ 1000) (ha : wrap64 (a + w) = a + w) (hi : wrap64 (i + 2) = i + 2)
    (h : (May m x ∧ last_ok out m ∧ Ev (fun k => marigraphref15_Parse.l0 k q v (out ++ [⟨m, x⟩]) (a + w) (i + 2)) r) ∨ (¬ (May m x ∧ last_ok out m) ∧ r = ([], false))) :
    Ev (fun k => (marigraphref15_May.f m x).bind fun t => (if t = true then (if (out.length : Int) > 0 then (if 0 ≤ (wrap64 ((out.length : Int) - 1)) then (if (wrap64 ((out.length : Int) - 1)) < (out.length : Int) then (if ((rd_T26 out (wrap64 ((out.length : Int) - 1))).f0) ≥ m then (some (([] : List (S26)), false)) else (if out.length < 8796093022208 then (marigraphref15_Parse.l0 k q v (out ++ [(⟨m, x⟩ : S26)]) (wrap64 (a + w)) (wrap64 (i + 2))) else (none))) else (none)) else (none)) else (if out.length < 8796093022208 then (marigraphref15_Parse.l0 k q v (out ++ [(⟨m, x⟩ : S26)]) (wrap64 (a + w)) (wrap64 (i + 2))) else (none))) else (some (([] : List (S26)), false)))) r := by
  simp only [rmay_tells, Option.bind_some, ha, hi, if_pos (show out.length < 8796093022208 by omega)]
  by_cases hm : May m x
  · simp only [decide_eq_true hm, if_true]
    rcases List.eq_nil_or_concat out with hp | ⟨p, z, hp⟩
    · have hlo : last_ok out m := by intro p z e; rw [hp] at e; cases p <;> cases e
      simp only [if_neg (show ¬ (out.length : Int) > 0 by rw [hp]; decide)]
      rcases h with h | h
      · exact h.2.2
      · exact absurd ⟨hm, hlo⟩ h.1
    · have hp' : out = p ++ [z] := by rw [hp]; exact List.concat_eq_append
      have hpl : out.length = p.length + 1 := by rw [hp', List.length_append]; rfl
      have hwp : wrap64 ((out.length : Int) - 1) = (p.length : Int) := by rw [hpl]; unfold wrap64; omega
      have hro : rd_T26 out (p.length : Int) = z := by rw [hp']; exact rd26_pre p z []
      simp only [if_pos (show (out.length : Int) > 0 by omega), hwp, if_pos (show 0 ≤ (p.length : Int) by omega), if_pos (show (p.length : Int) < (out.length : Int) by omega), hro]
      by_cases hge : z.f0 ≥ m
      · simp only [if_pos hge]
        rcases h with h | h
        · exact absurd (h.2.1 p z hp') (by omega)
        · rw [h.2]; exact Ev.now _
      · simp only [if_neg hge]
        rcases h with h | h
        · exact h.2.2
        · refine absurd ⟨hm, fun p2 z2 e => ?_⟩ h.1
          obtain ⟨_, e⟩ := List.append_inj' (hp'.symm.trans e) rfl
          rw [← (List.cons.inj e).1]; omega
  · simp only [decide_eq_false hm, Bool.false_eq_true, if_false]
    rcases h with h | h
    · exact absurd h.1 hm
    · rw [h.2]; exact Ev.now _
theorem ref_j2 (q v : List Int) (out : List S26) (a i n u : Int) (w : Nat) (r : List S26 × Bool) (hl : out.length ≤ 1000) (ha : 0 ≤ a ∧ a ≤ 1000000) (hi : 0 ≤ i ∧ i ≤ 1000000) (hn : 0 ≤ n ∧ n < 65536) (hw : w = 1 ∨ w = 2 ∨ w = 4) (hu : 0 ≤ u ∧ u < 2 ^ (8 * w))
    (h : (May (n / 16) (X_ w u) ∧ last_ok out (n / 16) ∧ Ev (fun k => marigraphref15_Parse.l0 k q v (out ++ [⟨n / 16, X_ w u⟩]) (a + w) (i + 2)) r) ∨ (¬ (May (n / 16) (X_ w u) ∧ last_ok out (n / 16)) ∧ r = ([], false))) :
    Ev (fun k => marigraphref15_Parse.j2 k q v out a i n (w : Int) u false) r := by
  have e0 : IntKind.u64.wrap (wrap64 ((wrap64 (8 * (w : Int))) - 1)) = ((8 * w - 1 : Nat) : Int) := by rcases hw with rfl | rfl | rfl <;> decide +kernel
  have e1 : IntKind.u64.wrap (wrap64 (8 * (w : Int))) = ((8 * w : Nat) : Int) := by rcases hw with rfl | rfl | rfl <;> decide +kernel
  have e2 : shr .u64 u ((8 * w - 1 : Nat) : Int) = u / 2 ^ (8 * w - 1) := by
    unfold shr
    have hb : IntKind.u64.bits = 64 := rfl
    rw [Int.toNat_natCast, hb, Nat.min_eq_left (by omega)]
  have e3 : shl .i64 1 ((8 * w : Nat) : Int) = 2 ^ (8 * w) := by rcases hw with rfl | rfl | rfl <;> decide +kernel
  have hu2 : u < 4294967296 := by
    have : (2 : Int) ^ (8 * w) ≤ 4294967296 := by rcases hw with rfl | rfl | rfl <;> decide +kernel
    omega
  have e4 : wrap64 u = u := by unfold wrap64; omega
  have e5 : wrap64 (u - 2 ^ (8 * w)) = u - 2 ^ (8 * w) := by
    have : (0 : Int) < 2 ^ (8 * w) ∧ (2 : Int) ^ (8 * w) ≤ 4294967296 := by rcases hw with rfl | rfl | rfl <;> decide +kernel
    unfold wrap64; omega
  have e6 : wrap64 (IntKind.u64.wrap (Int.tdiv n 16)) = n / 16 := by rw [Int.tdiv_eq_ediv_of_nonneg hn.1, IntKind.wrap_u64]; unfold wrap64; omega
  have a1 : wrap64 (a + (w : Int)) = a + (w : Int) := by unfold wrap64; omega
  have i1 : wrap64 (i + 2) = i + 2 := by unfold wrap64; omega
  refine Ev.step (f := fun k => marigraphref15_Parse.j2 (k + 1) q v out a i n (w : Int) u false) (fun _ => rfl) ?_
  simp only [marigraphref15_Parse.j2, Bool.false_eq_true, if_false, e0, e1, e2, e3, e4, e5, e6, if_pos (show 0 ≤ ((8 * w - 1 : Nat) : Int) by omega), if_pos (show 0 ≤ ((8 * w : Nat) : Int) by omega)]
  by_cases hs : u / 2 ^ (8 * w - 1) = 1
  · rw [show X_ w u = u - 2 ^ (8 * w) from if_pos hs] at h
    simp only [if_pos hs]
    exact ref_core q v out a w i _ _ r hl a1 i1 h
  · rw [show X_ w u = u from if_neg hs] at h
    simp only [if_neg hs]
    exact ref_core q v out a w i _ _ r hl a1 i1 h
theorem getI_bnd : ∀ (l : List Int) (a : Int), Byt l → 0 ≤ a → l.length ≤ 4 → (a + 1) * 256 ^ l.length ≤ 4294967296 → a * 256 ^ l.length ≤ getI a l ∧ getI a l < (a + 1) * 256 ^ l.length
  | [], a, _, _, _, _ => by simp [getI]; omega
  | x :: l, a, hb, ha, hl, hu => by
    have h1 := hb.cons.1
    rw [List.length_cons] at hl hu ⊢
    rw [Int.pow_succ] at hu ⊢
    have hp : (0 : Int) < 256 ^ l.length := Int.pow_pos (by decide)
    have hs : (a + 1) * 256 ≤ (a + 1) * (256 ^ l.length * 256) := by
      refine Int.mul_le_mul_of_nonneg_left ?_ (by omega)
      omega
    have e := or_byte a x ha h1 (by omega)
    have h2 : (a * 256 + x + 1) * 256 ^ l.length ≤ (a + 1) * (256 ^ l.length * 256) := by
      rw [Int.mul_comm (256 ^ l.length) 256, ← Int.mul_assoc]
      exact Int.mul_le_mul_of_nonneg_right (by omega) (by omega)
    have h3 : a * (256 ^ l.length * 256) ≤ (a * 256 + x) * 256 ^ l.length := by
      rw [Int.mul_comm (256 ^ l.length) 256, ← Int.mul_assoc]
      exact Int.mul_le_mul_of_nonneg_right (by omega) (by omega)
    have ih := getI_bnd l (a * 256 + x) hb.cons.2 (by omega) (by omega) (by omega)
    rw [getI, e]
    omega
theorem Byt.take {l : List Int} (h : Byt l) (n : Nat) : Byt (l.take n) := fun x hx => h x (List.mem_of_mem_take hx)
theorem Byt.drop {l : List Int} (h : Byt l) (n : Nat) : Byt (l.drop n) := fun x hx => h x (List.mem_of_mem_drop hx)
/-- One round: what stands at i and at a is a point, or the reading ends. -/
theorem ref_step (q v : List Int) (out : List S26) (a i : Nat) (r : List S26 × Bool) (hq : Byt q) (hv : Byt v) (hl : out.length ≤ 1000) (ha : a ≤ v.length) (hvl : v.length ≤ 1000) (hi : i + 2 ≤ q.length) (hql : q.length ≤ 1000)
    (n u : Int) (w : Nat) (hn : n = getI 0 ((q.drop i).take 2)) (hw : w = (n % 16).toNat + 1) (hu : u = getI 0 ((v.drop a).take w))
    (h : (((w = 1 ∨ w = 2 ∨ w = 4) ∧ a + w ≤ v.length ∧ May (n / 16) (X_ w u) ∧ last_ok out (n / 16)) ∧ Ev (fun k => marigraphref15_Parse.l0 k q v (out ++ [⟨n / 16, X_ w u⟩]) ((a + w : Nat) : Int) ((i + 2 : Nat) : Int)) r) ∨ (¬ ((w = 1 ∨ w = 2 ∨ w = 4) ∧ a + w ≤ v.length ∧ May (n / 16) (X_ w u) ∧ last_ok out (n / 16)) ∧ r = ([], false))) :
    Ev (fun k => marigraphref15_Parse.l0 k q v out (a : Int) (i : Int)) r := by
  have hn2 : 0 ≤ n ∧ n < 65536 := by
    have hlen : ((q.drop i).take 2).length = 2 := by rw [List.length_take, List.length_drop]; omega
    have := getI_bnd ((q.drop i).take 2) 0 ((hq.drop i).take 2) (by decide) (by omega) (by rw [hlen]; decide)
    rw [hlen, ← hn] at this
    omega
  have ew : wrap64 (wrap64 (Int.tmod n 16) + 1) = (w : Int) := by rw [Int.tmod_eq_emod_of_nonneg hn2.1, hw]; unfold wrap64; omega
  have hend : Ev (fun k => marigraphref15_Parse.j2 k q v out (a : Int) (i : Int) n (w : Int) u true) ([], false) := by
    refine Ev.step (f := fun _ => some ([], false)) (fun k => ?_) (Ev.now _)
    simp only [marigraphref15_Parse.j2, if_true]
  have hend0 : Ev (fun k => marigraphref15_Parse.j2 k q v out (a : Int) (i : Int) n (w : Int) 0 true) ([], false) := by
    refine Ev.step (f := fun _ => some ([], false)) (fun k => ?_) (Ev.now _)
    simp only [marigraphref15_Parse.j2, if_true]
  refine Ev.step (f := fun k => marigraphref15_Parse.l0 (k + 1) q v out (a : Int) (i : Int)) (fun _ => rfl) ?_
  simp only [marigraphref15_Parse.l0, if_pos (show (i : Int) < (q.length : Int) by omega), if_pos (show 0 ≤ (i : Int) by omega), if_pos (show (i : Int) ≤ (q.length : Int) by omega), Int.toNat_natCast]
  refine Ev.bind (rget_tells (q.drop i) 2 (by decide) (by rw [List.length_drop]; omega)) ?_
  rw [← hn]
  simp only [if_pos (show 0 ≤ (a : Int) by omega), if_pos (show (a : Int) ≤ (v.length : Int) by omega), ew]
  by_cases hg : w ≤ 8 ∧ a + w ≤ v.length
  · refine Ev.bind (rget_tells (v.drop a) w hg.1 (by rw [List.length_drop]; omega)) ?_
    rw [← hu]
    simp only [if_true]
    have hj : (w = 1 ∨ w = 2 ∨ w = 4) → Ev (fun k => marigraphref15_Parse.j2 k q v out (a : Int) (i : Int) n (w : Int) u false) r := by
      intro h124
      have hub : 0 ≤ u ∧ u < 2 ^ (8 * w) := by
        have hlen : ((v.drop a).take w).length = w := by rw [List.length_take, List.length_drop]; omega
        have := getI_bnd ((v.drop a).take w) 0 ((hv.drop a).take w) (by decide) (by omega) (by rw [hlen]; rcases h124 with e | e | e <;> rw [e] <;> decide)
        rw [hlen, ← hu] at this
        rcases h124 with e | e | e <;> rw [e] at this ⊢ <;> omega
      refine ref_j2 q v out a i n u w r hl (by omega) (by omega) hn2 h124 hub ?_
      rcases h with h | h
      · exact .inl ⟨h.1.2.2.1, h.1.2.2.2, h.2⟩
      · exact .inr ⟨fun hh => h.1 ⟨h124, hg.2, hh⟩, h.2⟩
    by_cases h1 : (w : Int) = 1
    · simp only [if_pos h1]
      exact hj (by omega)
    · simp only [if_neg h1]
      by_cases h2 : (w : Int) = 2
      · simp only [if_pos h2]
        exact hj (by omega)
      · simp only [if_neg h2]
        by_cases h4 : (w : Int) = 4
        · rw [show ((w : Int) != 4) = false from bne_eq_false_iff_eq.2 h4]
          exact hj (by omega)
        · rw [show ((w : Int) != 4) = true from bne_iff_ne.2 h4]
          rcases h with h | h
          · exact absurd h.1.1 (by omega)
          · rw [h.2]; exact hend
  · refine Ev.bind (rget_not (v.drop a) w (by rw [List.length_drop]; omega)) ?_
    simp only [Bool.false_eq_true, if_false]
    rcases h with h | h
    · exact absurd ⟨by omega, h.1.2.1⟩ hg
    · rw [h.2]; exact hend0
theorem X_val {v : Int} (h : -2147483647 ≤ v ∧ v ≤ 2147483647) : X_ (width v) (v % 18446744073709551616 % 2 ^ (8 * width v)) = v := by
  unfold X_
  rcases width_is v with e | e | e
  · have hv : -128 ≤ v ∧ v ≤ 127 := by
      unfold width at e
      split at e
      · assumption
      · split at e <;> omega
    rw [e]
    show (if v % 18446744073709551616 % 256 / 128 = 1 then v % 18446744073709551616 % 256 - 256 else v % 18446744073709551616 % 256) = v
    split <;> omega
  · have hv : -32768 ≤ v ∧ v ≤ 32767 := by
      unfold width at e
      split at e
      · omega
      · split at e
        · assumption
        · omega
    rw [e]
    show (if v % 18446744073709551616 % 65536 / 32768 = 1 then v % 18446744073709551616 % 65536 - 65536 else v % 18446744073709551616 % 65536) = v
    split <;> omega
  · rw [e]
    show (if v % 18446744073709551616 % 4294967296 / 2147483648 = 1 then v % 18446744073709551616 % 4294967296 - 4294967296 else v % 18446744073709551616 % 4294967296) = v
    split <;> omega
theorem map_back (l : List S45) : (l.map fun o => (⟨o.f0, o.f1⟩ : S26)).map conv = l := by
  induction l with
  | nil => rfl
  | cons o l ih => rw [List.map_cons, List.map_cons, ih]; rfl
/-- The end of the reading: what was read is laid again. -/
theorem ref_end {q v : List Int} {out : List S26} {b : Int} (hq : Byt q) (hv : Byt v) (a : Int) (hr : Rise b (out.map conv)) (h1 : 1 ≤ out.length) (h64 : out.length ≤ 64) :
    (Good q v (out.map conv) → Ev (fun k => marigraphref15_Parse.l0 k q v out a (q.length : Int)) (out, true)) ∧ (¬ Good q v (out.map conv) → Ev (fun k => marigraphref15_Parse.l0 k q v out a (q.length : Int)) ([], false)) := by
  have hc := Cell_tells hr (by omega)
  have hb1 := quals_byt (out.map conv)
  have hb2 := (vals_byt (out.map conv)).append (tl_byt out.length)
  constructor
  · rintro ⟨_, _, _, e1, e2⟩
    rw [List.length_map] at e2
    refine Ev.step (f := fun k => marigraphref15_Parse.l0 (k + 1) q v out a (q.length : Int)) (fun _ => rfl) ?_
    simp only [marigraphref15_Parse.l0, if_neg (Int.lt_irrefl _)]
    refine Ev.bind hc ?_
    simp only [if_pos ((sn_eq hb1 hq).2 e1.symm), if_pos ((sn_eq hb2 hv).2 e2.symm)]
    exact Ev.now _
  · intro hg
    refine Ev.step (f := fun k => marigraphref15_Parse.l0 (k + 1) q v out a (q.length : Int)) (fun _ => rfl) ?_
    simp only [marigraphref15_Parse.l0, if_neg (Int.lt_irrefl _)]
    refine Ev.bind hc ?_
    simp only []
    rw [sn_two hb1 hb2 hq hv]
    · exact Ev.now _
    · rintro ⟨e1, e2⟩
      exact hg ⟨⟨b, hr⟩, by rw [List.length_map]; exact h1, by rw [List.length_map]; exact h64, e1, by rw [List.length_map]; exact e2⟩
theorem rise_snoc : ∀ (l : List S26) (b : Int) (o : S26), Rise b (l.map conv) → May o.f0 o.f1 → last_ok l o.f0 → (l = [] → b < o.f0) → Rise b ((l ++ [o]).map conv)
  | [], b, o, _, hm, _, h0 => ⟨h0 rfl, hm, trivial⟩
  | [a], b, o, h, hm, hl, _ => ⟨h.1, h.2.1, hl [] a rfl, hm, trivial⟩
  | a :: c :: l, b, o, h, hm, hl, _ => ⟨h.1, h.2.1, rise_snoc (c :: l) a.f0 o h.2.2 hm (fun p z e => hl (a :: p) z (by rw [List.cons_append, ← e])) (fun e => by cases e)⟩
theorem ref_bad {q v : List Int} (hq : Byt q) (hv : Byt v) (hql : q.length ≤ 128) (hq2 : 2 ≤ q.length) (hev : q.length % 2 = 0) (hvl : v.length ≤ 1000) (hbad : ∀ l, ¬ Good q v l) : ∀ (d : Nat) (out : List S26) (a : Nat), 2 * out.length + 2 * d = q.length → a ≤ v.length → (∃ b, Rise b (out.map conv)) →
    Ev (fun k => marigraphref15_Parse.l0 k q v out (a : Int) ((2 * out.length : Nat) : Int)) ([], false) := by
  intro d
  induction d with
  | zero =>
    intro out a hd _ hr
    obtain ⟨b, hr⟩ := hr
    rw [show 2 * out.length = q.length by omega]
    exact (ref_end hq hv a hr (by omega) (by omega)).2 (hbad _)
  | succ d ih =>
    intro out a hd ha hr
    refine ref_step q v out a (2 * out.length) _ hq hv (by omega) ha hvl (by omega) (by omega) _ _ _ rfl rfl rfl ?_
    generalize getI 0 ((q.drop (2 * out.length)).take 2) = n
    generalize (n % 16).toNat + 1 = w
    generalize X_ w (getI 0 ((v.drop a).take w)) = x
    by_cases hok : (w = 1 ∨ w = 2 ∨ w = 4) ∧ a + w ≤ v.length ∧ May (n / 16) x ∧ last_ok out (n / 16)
    · refine .inl ⟨hok, ?_⟩
      have := ih (out ++ [⟨n / 16, x⟩]) (a + w) (by rw [List.length_append, List.length_singleton]; omega) hok.2.1 (by
        obtain ⟨b, hr⟩ := hr
        by_cases ho : out = []
        · rw [ho]; exact ⟨n / 16 - 1, show n / 16 - 1 < n / 16 by omega, hok.2.2.1, trivial⟩
        · exact ⟨b, rise_snoc out b ⟨n / 16, x⟩ hr hok.2.2.1 hok.2.2.2 (fun h => absurd h ho)⟩)
      rw [List.length_append, List.length_singleton, Nat.mul_add] at this
      exact this
    · exact .inr ⟨hok, rfl⟩
theorem rise_last : ∀ (pre : List S26) (b : Int) (o : S26) (suf : List S45), Rise b (pre.map conv ++ conv o :: suf) → last_ok pre o.f0
  | [], _, _, _, _ => by intro p z e; cases p <;> cases e
  | [a], b, o, suf, h => by
    intro p z e
    match p, e with
    | [], e => rw [← (List.cons.inj e).1]; exact h.2.2.1
    | _ :: p, e => cases p <;> cases e
  | a :: c :: l, b, o, suf, h => by
    intro p z e
    match p, e with
    | [], e => cases e
    | _ :: p, e => exact rise_last (c :: l) a.f0 o suf h.2.2 p z (List.cons.inj e).2
theorem rise_at : ∀ (pre : List S45) (b : Int) (o : S45) (suf : List S45), Rise b (pre ++ o :: suf) → May o.f0 o.f1
  | [], _, _, _, h => h.2.1
  | a :: pre, _, o, suf, h => rise_at pre a.f0 o suf h.2.2
theorem quals_app : ∀ a b : List S45, quals (a ++ b) = quals a ++ quals b
  | [], _ => rfl
  | o :: a, b => by rw [List.cons_append, quals, quals, quals_app a b, List.append_assoc]
theorem vals_app : ∀ a b : List S45, vals (a ++ b) = vals a ++ vals b
  | [], _ => rfl
  | o :: a, b => by rw [List.cons_append, vals, vals, vals_app a b, List.append_assoc]
theorem ref_good {q v : List Int} {l : List S26} (hq : Byt q) (hv : Byt v) (hvl : v.length ≤ 1000) (hg : Good q v (l.map conv)) : ∀ (suf pre : List S26), l = pre ++ suf →
    Ev (fun k => marigraphref15_Parse.l0 k q v pre ((vals (pre.map conv)).length : Int) ((2 * pre.length : Nat) : Int)) (l, true) := by
  obtain ⟨⟨b, hr⟩, h1, h64, e1, e2⟩ := hg
  have hg : Good q v (l.map conv) := ⟨⟨b, hr⟩, h1, h64, e1, e2⟩
  have hqn := quals_len (l.map conv)
  rw [← e1] at hqn
  rw [List.length_map] at h1 h64 hqn
  intro suf
  induction suf with
  | nil =>
    intro pre e
    rw [List.append_nil] at e
    subst e
    rw [← hqn]
    exact (ref_end hq hv _ hr h1 h64).1 hg
  | cons o suf ih =>
    intro pre e
    have hll : l.length = pre.length + (suf.length + 1) := by rw [e, List.length_append, List.length_cons]
    have em : l.map conv = pre.map conv ++ conv o :: suf.map conv := by rw [e, List.map_append, List.map_cons]
    have hm : May o.f0 o.f1 := rise_at (pre.map conv) b (conv o) (suf.map conv) (em ▸ hr)
    have hlo := rise_last pre b o (suf.map conv) (em ▸ hr)
    have hqd : q.drop (2 * pre.length) = qual o.f0 o.f1 ++ quals (suf.map conv) := by
      rw [e1, em, quals_app]
      exact List.drop_left' (by rw [quals_len, List.length_map])
    have hvd : v.drop (vals (pre.map conv)).length = val_ o.f1 ++ (vals (suf.map conv) ++ tl_ (l.map conv).length) := by
      rw [e2, em, vals_app, List.append_assoc, List.drop_left' rfl, vals, List.append_assoc]; rfl
    have hw := width_is o.f1
    have hn : getI 0 ((q.drop (2 * pre.length)).take 2) = o.f0 * 16 + width o.f1 - 1 := by
      rw [hqd, List.take_left' (qual_len _ _)]
      unfold qual
      have := hm.1
      have := hm.2.1
      rw [getI_be _ _ 0 (by omega) (by rw [show (2 : Int) ^ (8 * 2) = 65536 from rfl]; omega), show (2 : Int) ^ (8 * 2) = 65536 from rfl]; omega
    have ew : ((o.f0 * 16 + (width o.f1 : Int) - 1) % 16).toNat + 1 = width o.f1 := by omega
    have ed : (o.f0 * 16 + (width o.f1 : Int) - 1) / 16 = o.f0 := by omega
    have hu : getI 0 ((v.drop (vals (pre.map conv)).length).take (width o.f1)) = o.f1 % 18446744073709551616 % 2 ^ (8 * width o.f1) := by
      have hp : (0 : Int) < 2 ^ (8 * width o.f1) ∧ (2 : Int) ^ (8 * width o.f1) ≤ 4294967296 := by rcases hw with e | e | e <;> rw [e] <;> decide
      have h1 := Int.emod_lt_of_pos (o.f1 % 18446744073709551616) hp.1
      rw [hvd, List.take_left' (val_len o.f1)]
      unfold val_
      rw [IntKind.wrap_u64, getI_be _ _ 0 (by omega) (by omega)]
      omega
    have hvlen := congrArg List.length e2
    rw [em, vals_app, vals, List.length_append, List.length_append, List.length_append, val_len] at hvlen
    refine ref_step q v pre _ (2 * pre.length) _ hq hv (by omega) (by omega) hvl (by omega) (by omega) (o.f0 * 16 + width o.f1 - 1) _ (width o.f1) hn.symm ew.symm hu.symm ?_
    rw [ed, X_val hm.2.2]
    refine .inl ⟨⟨hw, by rw [show (conv o).f1 = o.f1 from rfl] at hvlen; omega, hm, hlo⟩, ?_⟩
    have := ih (pre ++ [o]) (by rw [e, List.append_assoc]; rfl)
    rw [List.map_append, List.map_singleton, vals_snoc, List.length_append, List.length_append, List.length_singleton, Nat.mul_add, val_len] at this
    exact this
theorem parses_tells {q v : List Int} (hq : Byt q) (hv : Byt v) (hql : q.length ≤ 1000) (hvl : v.length ≤ 1000) : Ev (fun k => marigraphlaw15_parses.f k q v) true := by
  have h0 : ∀ k, marigraphref15_Parse.j0 (k + 1) q v false = marigraphref15_Parse.l0 k q v [] 0 0 := fun k => by
    simp only [marigraphref15_Parse.j0]; rw [if_neg (by decide)]
  unfold marigraphlaw15_parses.f
  by_cases h : ∃ l, Good q v l
  · obtain ⟨l, hg⟩ := h
    refine Ev.bind (prog_good hg) ?_
    have hg' := hg
    obtain ⟨_, h1, h64, e1, _⟩ := hg'
    have hqn := quals_len l
    rw [← e1] at hqn
    have hl2 := map_back l
    generalize (l.map fun o => (⟨o.f0, o.f1⟩ : S26)) = m at hl2
    subst hl2
    have hr : Ev (fun k => marigraphref15_Parse.f k q v) (m, true) := by
      unfold marigraphref15_Parse.f
      simp only [if_neg (show ¬ (q.length : Int) < 2 by omega), if_pos (show (q.length : Int) % 2 = 0 by omega), decide_eq_false (show ¬ (q.length : Int) > 128 by omega)]
      exact Ev.step h0 (ref_good hq hv hvl hg m [] rfl)
    refine Ev.bind hr ?_
    simp only [beq_self_eq_true, if_true]
    unfold marigraphlaw15_same.f
    rw [List.length_map] at h64
    exact Ev.bind (Ev.bind (theirs_tells m (by omega)) (Ev.bind (off_self _ (by rw [List.length_map]; omega)) (Ev.now _))) (Ev.now _)
  · have hbad : ∀ l, ¬ Good q v l := fun l hl => h ⟨l, hl⟩
    refine Ev.bind (prog_bad hq hv hql hbad) ?_
    have hj : Ev (fun k => marigraphref15_Parse.j0 k q v true) ([], false) := by
      refine Ev.step (f := fun _ => some ([], false)) (fun k => ?_) (Ev.now _)
      simp only [marigraphref15_Parse.j0, if_true]
    have hr : Ev (fun k => marigraphref15_Parse.f k q v) ([], false) := by
      unfold marigraphref15_Parse.f
      by_cases h2 : q.length < 2
      · simp only [if_pos (show (q.length : Int) < 2 by omega)]
        exact hj
      · simp only [if_neg (show ¬ (q.length : Int) < 2 by omega)]
        by_cases hev : q.length % 2 = 0
        · simp only [if_pos (show (q.length : Int) % 2 = 0 by omega)]
          by_cases h128 : q.length ≤ 128
          · simp only [decide_eq_false (show ¬ (q.length : Int) > 128 by omega)]
            exact Ev.step h0 (ref_bad hq hv h128 (by omega) hev hvl hbad (q.length / 2) [] 0 (by rw [List.length_nil]; omega) (Nat.zero_le _) ⟨0, trivial⟩)
          · simp only [decide_eq_true (show (q.length : Int) > 128 by omega)]
            exact hj
        · simp only [if_neg (show ¬ (q.length : Int) % 2 = 0 by omega)]
          exact hj
    refine Ev.bind hr ?_
    simp only [show ((12 : Int) == 0) = false from rfl, beq_self_eq_true, if_true, Bool.false_eq_true, if_false]
    unfold marigraphlaw15_same.f
    exact Ev.bind (Ev.bind (theirs_tells [] (by decide)) (Ev.bind (off_self [] (by decide)) (Ev.now _))) (Ev.now _)
theorem one_tells (o v : Int) : Ev (fun k => marigraphlaw15_one.f k o v) true := by
  unfold marigraphlaw15_one.f
  by_cases h : May o v
  · refine Ev.bind (One_tells h) ?_
    simp only [rmay_tells, decide_eq_true h, Option.bind_some, if_true]
    have hr : Rise (o - 1) (([⟨o, v⟩] : List S26).map conv) := ⟨show o - 1 < o by omega, h, trivial⟩
    refine Ev.bind (Cell_tells hr (show 1 ≤ 1000 by decide)) ?_
    rw [show quals (([⟨o, v⟩] : List S26).map conv) = qual o v from List.append_nil _, show vals (([⟨o, v⟩] : List S26).map conv) ++ tl_ ([⟨o, v⟩] : List S26).length = val_ v from (List.append_nil _).trans (List.append_nil _)]
    simp only [if_true, beq_self_eq_true]
    exact Ev.now _
  · refine Ev.bind (One_not h) ?_
    simp only [rmay_tells, decide_eq_false h, Option.bind_some, Bool.false_eq_true, if_false]
    exact evNow (fun _ => by decide +kernel)
theorem many_end {l : List S26} {b : Int} (h : Rise b (l.map conv)) (hl : l.length ≤ 64) (x : Bool) (hx : x = decide (2 ≤ l.length)) : Ev (fun k => marigraphlaw15_many.l0 k l x (l.length : Int)) true := by
  refine Ev.step (f := fun k => marigraphlaw15_many.l0 (k + 1) l x (l.length : Int)) (fun _ => rfl) ?_
  simp only [marigraphlaw15_many.l0, if_neg (Int.lt_irrefl _)]
  refine Ev.bind (theirs_tells l (by omega)) ?_
  by_cases h2 : 2 ≤ l.length
  · refine Ev.bind (Many_tells h (by rw [List.length_map]; omega) (by rw [List.length_map]; omega)) ?_
    rw [hx, decide_eq_true h2]
    simp only [if_true]
    refine Ev.bind (Cell_tells h (by omega)) ?_
    rw [show tl_ l.length = [0] from if_pos (by omega)]
    simp only [if_true, beq_self_eq_true]
    exact Ev.now _
  · refine Ev.bind (Many_not (by rw [List.length_map]; omega) (by rw [List.length_map]; omega)) ?_
    rw [hx, decide_eq_false h2]
    exact evNow (fun _ => by rw [if_neg (by decide), if_pos rfl]; decide +kernel)
theorem many_loop' {l : List S26} {b : Int} (h : Rise b (l.map conv)) (hl : l.length ≤ 64) (x : Bool) (hx : x = decide (2 ≤ l.length)) : ∀ (suf pre : List S26), l = pre ++ suf → Ev (fun k => marigraphlaw15_many.l0 k l x (pre.length : Int)) true := by
  intro suf
  induction suf with
  | nil =>
    intro pre e
    rw [List.append_nil] at e
    rw [← e]
    exact many_end h hl x hx
  | cons o suf ih =>
    intro pre e
    have hll : l.length = pre.length + (suf.length + 1) := by rw [e, List.length_append, List.length_cons]
    have em : l.map conv = pre.map conv ++ conv o :: suf.map conv := by rw [e, List.map_append, List.map_cons]
    have hm : May o.f0 o.f1 := rise_at (pre.map conv) b (conv o) (suf.map conv) (em ▸ h)
    have hlo := rise_last pre b o (suf.map conv) (em ▸ h)
    have hnext := ih (pre ++ [o]) (by rw [e, List.append_assoc]; rfl)
    have hrd : rd_T26 l (pre.length : Int) = o := by rw [e]; exact rd26_pre pre o suf
    have hw : wrap64 ((pre.length : Int) + 1) = ((pre ++ [o]).length : Int) := by rw [wrap_nxt (by omega), List.length_append]; rfl
    refine Ev.step (fun k => ?_) hnext
    simp only [marigraphlaw15_many.l0, if_pos (show (pre.length : Int) < (l.length : Int) by omega), hrd, hw]
    cases x with
    | false => rw [if_neg (by decide)]
    | true =>
      simp only [if_true, if_pos (show 0 ≤ (pre.length : Int) by omega), rmay_tells, decide_eq_true hm, Option.bind_some]
      rcases List.eq_nil_or_concat pre with hp | ⟨p, z, hp⟩
      · rw [if_pos (by rw [hp]; rfl)]
      · have hp' : pre = p ++ [z] := by rw [hp]; exact List.concat_eq_append
        have hpl : pre.length = p.length + 1 := by rw [hp', List.length_append]; rfl
        have hwp : wrap64 ((pre.length : Int) - 1) = (p.length : Int) := by rw [hpl]; unfold wrap64; omega
        have hro : rd_T26 l (p.length : Int) = z := by rw [e, hp', List.append_assoc]; exact rd26_pre p z _
        rw [if_neg (by omega), hwp, if_pos (by omega), if_pos (by omega), hro, decide_eq_true (hlo p z hp')]
theorem many_tells {l : List S26} {b : Int} (h : Rise b (l.map conv)) (hl : l.length ≤ 64) : Ev (fun k => marigraphlaw15_many.f k l) true := by
  have hj : ∀ x, x = decide (2 ≤ l.length) → Ev (fun k => marigraphlaw15_many.j0 k l x) true := fun x hx =>
    Ev.step (fun k => by simp only [marigraphlaw15_many.j0]; rfl) (many_loop' h hl x hx l [] rfl)
  unfold marigraphlaw15_many.f
  by_cases h2 : 2 ≤ l.length
  · simp only [if_pos (show (l.length : Int) ≥ 2 by omega)]
    exact hj _ (by rw [decide_eq_true h2, decide_eq_true (by omega)])
  · simp only [if_neg (show ¬ (l.length : Int) ≥ 2 by omega)]
    exact hj _ (by rw [decide_eq_false h2])
theorem xor_byt (a b : Int) : 0 ≤ Go.bits .xor .u8 a b ∧ Go.bits .xor .u8 a b ≤ 255 := by
  unfold Go.bits
  rw [IntKind.wrap_u8]
  omega
theorem Byt.set {l : List Int} (h : Byt l) (i : Nat) {x : Int} (hx : 0 ≤ x ∧ x ≤ 255) : Byt (l.set i x) := by
  intro y hy
  rcases List.mem_or_eq_of_mem_set hy with hy | rfl
  · exact h y hy
  · exact hx
theorem CellTells : marigraphlaw15_CellTells.Pure := by
  intro l0 l1 a2 a3 l4 l5 a6 a7 _ _ h0 _ _ h1 h2 h3 _ _ h4 _ _ h5 h6 h7
  refine Ev.rounds ?_
  obtain ⟨m, hm, hr, hml⟩ := offs_tells l0 l1 h0 h1 30 (by decide)
  have hc := Cell_tells hr (by omega)
  have hq : Byt (quals (m.map conv)) := quals_byt _
  have hv : Byt (vals (m.map conv) ++ tl_ m.length) := (vals_byt _).append (tl_byt _)
  have hql := quals_len (m.map conv)
  have hvl := vals_len (m.map conv)
  have htl : (tl_ m.length).length ≤ 1 := by unfold tl_; split <;> simp
  rw [List.length_map] at hql hvl
  have hb4 := (Byt.of_wf h4).cut 12
  have hb5 := (Byt.of_wf h5).cut 20
  have hl4 := cut_len l4 12
  have hl5 := cut_len l5 20
  have hvl2 : (vals (m.map conv) ++ tl_ m.length).length ≤ 200 := by rw [List.length_append]; omega
  have hj : ∀ x y, Byt x → Byt y → x.length ≤ 1000 → y.length ≤ 1000 → Ev (fun k => marigraphlaw15_CellTells.j0 k a2 a3 (cutI l4 12) (cutI l5 20) m (quals (m.map conv)) (vals (m.map conv) ++ tl_ m.length) x y) true := by
    intro x y hx hy hxl hyl
    obtain ⟨t, ht, _⟩ := within_w (n := a2) (lo := 0) (hi := 3599) (by decide) (by decide) (by decide) (i64_of h2)
    refine Ev.step (f := fun k => marigraphlaw15_CellTells.j0 (k + 1) a2 a3 (cutI l4 12) (cutI l5 20) m (quals (m.map conv)) (vals (m.map conv) ++ tl_ m.length) x y) (fun _ => rfl) ?_
    simp only [marigraphlaw15_CellTells.j0]
    refine Ev.bind (one_tells a2 a3) ?_
    simp only [if_true]
    refine Ev.bind ht ?_
    refine Ev.bind (one_tells t _) ?_
    simp only [if_true]
    refine Ev.bind (many_tells hr (by omega)) ?_
    simp only [if_true]
    refine Ev.bind (parses_tells hq hv (by omega) (by omega)) ?_
    simp only [if_true]
    refine Ev.bind (parses_tells hx hv hxl (by omega)) ?_
    simp only [if_true]
    refine Ev.bind (parses_tells hq hy (by omega) hyl) ?_
    simp only [if_true]
    refine Ev.bind (parses_tells hb4 hb5 (by omega) (by omega)) ?_
    simp only [if_true]
    refine Ev.bind (parses_tells hb4 hv (by omega) (by omega)) ?_
    simp only [if_true, width_tells, Option.bind_some]
    refine Ev.bind (rwidth_tells a3) ?_
    simp only [if_true]
    exact Ev.bind known_ev (Ev.now _)
  unfold marigraphlaw15_CellTells.f
  refine Ev.bind hm ?_
  refine Ev.bind hc ?_
  simp only [Option.bind_some, List.nil_append, List.length_nil, Nat.zero_add]
  generalize hQ : quals (m.map conv) = Q at *
  generalize hV : vals (m.map conv) ++ tl_ m.length = V at *
  have hV1 : 2 * 0 < m.length → 0 < V.length := by
    intro hpos
    rw [← hV]
    cases m with
    | nil => simp at hpos
    | cons o m =>
      have := width_is (conv o).f1
      rw [List.map_cons, vals, List.length_append, List.length_append, val_len]
      omega
  simp only [if_pos (show Q.length < 140737488355328 by omega), if_pos (show V.length < 140737488355328 by omega)]
  by_cases hpos : 0 < m.length
  · have hVp := hV1 (by omega)
    have eq1 : wrap64 ((Q.length : Int) - 1) = (Q.length : Int) - 1 := by unfold wrap64; omega
    have ev1 : wrap64 ((V.length : Int) - 1) = (V.length : Int) - 1 := by unfold wrap64; omega
    obtain ⟨s, hs, s0, s1, _⟩ := within_w (n := a6) (lo := 0) (hi := (Q.length : Int) - 1) (by decide) (by omega) (by omega) (i64_of h6)
    obtain ⟨t, ht, t0, t1, _⟩ := within_w (n := a6) (lo := 0) (hi := (V.length : Int) - 1) (by decide) (by omega) (by omega) (i64_of h6)
    simp only [if_pos (show (m.length : Int) > 0 by omega), eq1, ev1]
    refine Ev.bind hs ?_
    simp only [if_pos s0, if_pos (show s < (Q.length : Int) by omega)]
    refine Ev.bind ht ?_
    simp only [if_pos t0, if_pos (show t < (V.length : Int) by omega)]
    exact hj _ _ (hq.set _ (xor_byt _ _)) (hv.set _ (xor_byt _ _)) (by rw [List.length_set]; omega) (by rw [List.length_set]; omega)
  · simp only [if_neg (show ¬ (m.length : Int) > 0 by omega)]
    exact hj _ _ hq hv (by omega) (by omega)

end Go.Proofs.Ytjafaojmbapkbaa.Pure

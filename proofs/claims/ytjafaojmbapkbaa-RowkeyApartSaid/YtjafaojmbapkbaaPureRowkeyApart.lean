/- Unlike rows have unlike keys, and none begins another one; a key's first byte is its row's salt, of which there are four; no condition beyond the statement's own. -/
import Derived.Test.YtjafaojmbapkbaaPRowkeyApartx6
namespace Go.Proofs.Ytjafaojmbapkbaa.Pure
open Go.RowKit Go.Proofs.Ytjafaojmbapkbaa.PRowkeyApart Go.Proofs.YtjafaojmbapkbaaW.PrintWords Go.Proofs.YtjafaojmbapkbaaW.PrintLast
set_option linter.unusedVariables false
set_option linter.unusedSimpArgs false

/-! ### bytes as whole numbers: in range, in order -/
def Byt (l : List Int) : Prop := ∀ x ∈ l, 0 ≤ x ∧ x ≤ 255
theorem Byt.cons {x : Int} {l : List Int} (h : Byt (x :: l)) : (0 ≤ x ∧ x ≤ 255) ∧ Byt l := ⟨h x (by simp), fun y hy => h y (by simp [hy])⟩
theorem Byt.append {a b : List Int} (ha : Byt a) (hb : Byt b) : Byt (a ++ b) := by
  intro x hx
  rcases List.mem_append.1 hx with h | h
  · exact ha x h
  · exact hb x h
/-! ### Put -/
def be (n : Int) : Nat → List Int
  | 0 => []
  | s + 1 => (n / 2 ^ (8 * s)) % 256 :: be n s
theorem be_len (n : Int) (s : Nat) : (be n s).length = s := by induction s with | zero => rfl | succ s ih => simp [be, ih]
theorem be_byt (n : Int) (s : Nat) : Byt (be n s) := by
  induction s with
  | zero => intro x hx; cases hx
  | succ s ih =>
    intro x hx
    rcases List.mem_cons.1 hx with rfl | hx
    · omega
    · exact ih x hx
theorem wrap_8 (s : Nat) (h : s ≤ 8) : wrap64 (8 * (s : Int)) = ((8 * s : Nat) : Int) := by unfold wrap64; omega
theorem put_loop (n : Int) (s : Nat) : ∀ (k : Nat) (acc : List Int), s ≤ 8 → s < k → acc.length + s ≤ 140737488355328 → octet_Put.l0 k n acc ((s : Int) - 1) = some (acc ++ be n s) := by
  induction s with
  | zero =>
    intro k acc _ hk _
    obtain ⟨k, rfl⟩ : ∃ m, k = m + 1 := ⟨k - 1, by omega⟩
    simp only [octet_Put.l0]
    rw [if_neg (by omega)]
    simp [be]
  | succ s ih =>
    intro k acc hs hk hl
    obtain ⟨k, rfl⟩ : ∃ m, k = m + 1 := ⟨k - 1, by omega⟩
    have e : ((s + 1 : Nat) : Int) - 1 = (s : Int) := by omega
    rw [e]
    simp only [octet_Put.l0]
    rw [wrap_8 s (by omega), if_pos (by omega), if_pos (by omega), if_pos (by omega)]
    have e2 : wrap64 ((s : Int) - 1) = (s : Int) - 1 := by unfold wrap64; omega
    have e3 : shr .u64 n ((8 * s : Nat) : Int) = n / 2 ^ (8 * s) := by
      unfold shr
      have hb : IntKind.u64.bits = 64 := rfl
      rw [Int.toNat_natCast, hb, Nat.min_eq_left (by omega)]
    rw [e2, e3, ih k _ (by omega) (by omega) (by rw [List.length_append, List.length_singleton]; omega)]
    simp [be]
theorem put_tells (l : List Int) (n : Int) (s : Nat) (k : Nat) (hs : s ≤ 8) (hk : s < k) (hl : l.length + 8 ≤ 140737488355328) : octet_Put.f k l n (s : Int) = some (l ++ be n s) := by
  unfold octet_Put.f slices_Clone_byte_byte.f
  rw [if_pos (by omega)]
  simp only [Option.bind_some]
  have e : mx (mn (s : Int) 8) 0 = (s : Int) := by unfold mx mn; split <;> split <;> omega
  rw [e]
  exact put_loop n s k l hs hk (by omega)
theorem emod_256 (m P : Int) (hP : 0 < P) : m % (P * 256) = m % P + P * (m / P % 256) := by
  have h1 := Int.emod_add_mul_ediv m P
  have h2 := Int.emod_add_mul_ediv (m / P) 256
  have h3 := Int.emod_nonneg m (Int.ne_of_gt hP)
  have h4 := Int.emod_lt_of_pos m hP
  generalize hq : m / P = q at *
  have h5 : P * q = P * (q % 256) + P * 256 * (q / 256) := by rw [Int.mul_assoc, ← Int.mul_add, h2]
  have h6 : 0 ≤ P * (q % 256) := Int.mul_nonneg (by omega) (by omega)
  have h7 : P * (q % 256) ≤ P * 255 := Int.mul_le_mul_of_nonneg_left (by omega) (by omega)
  have e : m = (m % P + P * (q % 256)) + P * 256 * (q / 256) := by omega
  calc m % (P * 256) = ((m % P + P * (q % 256)) + P * 256 * (q / 256)) % (P * 256) := by rw [← e]
    _ = (m % P + P * (q % 256)) % (P * 256) := Int.add_mul_emod_self_left _ _ _
    _ = m % P + P * (q % 256) := Int.emod_eq_of_lt (by omega) (by omega)
/-! ### Get -/
theorem or_byte (q c : Int) (hq : 0 ≤ q) (hc : 0 ≤ c ∧ c ≤ 255) (hb : q * 256 + c < 18446744073709551616) : Go.bits .or .u64 (IntKind.u64.wrap (q * 256)) (IntKind.u64.wrap c) = q * 256 + c := by
  have w (x : Int) (h0 : 0 ≤ x) (h1 : x < 18446744073709551616) : IntKind.u64.wrap x = x := by
    have : IntKind.u64.wrap x = x % 18446744073709551616 := by simp [IntKind.wrap, IntKind.bits, IntKind.signed]
    rw [this]; exact Int.emod_eq_of_lt h0 h1
  rw [w _ (by omega) (by omega), w _ (by omega) (by omega)]
  exact bits_join .u64 64 (by decide) (fun x h0 h1 => w x h0 (by simpa using h1)) 8 _ _ (by omega) (by omega) (by show q * 256 < 18446744073709551616; omega) hc.1 (by show c < 256; omega) (by show c < 18446744073709551616; omega)
theorem getI_be (n : Int) (s : Nat) : ∀ a : Int, 0 ≤ a → a * 2 ^ (8 * s) + n % 2 ^ (8 * s) < 18446744073709551616 → getI a (be n s) = a * 2 ^ (8 * s) + n % 2 ^ (8 * s) := by
  induction s with
  | zero => intro a _ _; simp [be, getI]
  | succ s ih =>
    intro a ha hb
    have hp : (0 : Int) < 2 ^ (8 * s) := Int.pow_pos (by decide)
    have e : (2 : Int) ^ (8 * (s + 1)) = 2 ^ (8 * s) * 256 := by rw [Nat.mul_add, Int.pow_add]; rfl
    rw [e, emod_256 n _ hp] at hb ⊢
    have h3 := Int.emod_nonneg n (Int.ne_of_gt hp)
    have h4 := Int.emod_lt_of_pos n hp
    generalize hP : (2 : Int) ^ (8 * s) = P at *
    show getI (Go.bits .or .u64 (IntKind.u64.wrap (a * 256)) (IntKind.u64.wrap (n / 2 ^ (8 * s) % 256))) (be n s) = _
    rw [hP]
    generalize hq : n / P % 256 = c at *
    have hc : 0 ≤ c ∧ c ≤ 255 := by omega
    have e2 : a * (P * 256) + (n % P + P * c) = (a * 256 + c) * P + n % P := by
      rw [Int.add_mul, Int.mul_comm P 256, ← Int.mul_assoc, Int.mul_comm P c]; omega
    rw [e2] at hb ⊢
    have h0 : 0 ≤ a * 256 + c := by omega
    have h5 : (a * 256 + c) * 1 ≤ (a * 256 + c) * P := Int.mul_le_mul_of_nonneg_left (by omega) h0
    rw [or_byte a c ha hc (by omega)]
    exact ih _ h0 hb
theorem i64_of {a : Int} (h : (Lit.int .i64 a).wf = true) : -9223372036854775808 ≤ a ∧ a ≤ 9223372036854775807 := by
  have h1 : IntKind.i64.min = -9223372036854775808 := rfl
  have h2 : IntKind.i64.max = 9223372036854775807 := rfl
  simp only [Lit.wf, Bool.and_eq_true, decide_eq_true_eq] at h
  omega
/-! ### Within -/
theorem within_w {n lo hi : Int} (h1 : -2199023255552 ≤ lo) (h2 : lo ≤ hi) (h3 : hi ≤ 2199023255552) (hn : -9223372036854775808 ≤ n ∧ n ≤ 9223372036854775807) : ∃ r, Ev (fun k => marigraphbook_Within.f k n lo hi) r ∧ lo ≤ r ∧ r ≤ hi ∧ (lo ≤ n → n ≤ hi → r = n) := by
  have e1 : wrap64 (wrap64 (hi - lo) + 1) = hi - lo + 1 := by unfold wrap64; omega
  have hj : ∀ b : Bool, (b = true ↔ (lo ≤ n ∧ n ≤ hi)) → ∃ r, (∀ k, marigraphbook_Within.j0 (k + 1) n lo hi b = some r) ∧ lo ≤ r ∧ r ≤ hi ∧ (lo ≤ n → n ≤ hi → r = n) := by
    intro b hb
    simp only [marigraphbook_Within.j0, e1]
    cases b with
    | true =>
      have := hb.1 rfl
      exact ⟨n, fun _ => by rw [if_pos rfl], this.1, this.2, fun _ _ => rfl⟩
    | false =>
      have hno : ¬ (lo ≤ n ∧ n ≤ hi) := fun h => by have := hb.2 h; cases this
      simp only [Bool.false_eq_true, if_false]
      rw [if_neg (by omega)]
      have hm : (0 : Int) < hi - lo + 1 := by omega
      have t1 : Int.tmod n (hi - lo + 1) < hi - lo + 1 := Int.tmod_lt_of_pos _ hm
      have t2 : -(hi - lo + 1) < Int.tmod n (hi - lo + 1) := by
        have := Int.tmod_lt_of_pos (-n) hm
        rw [Int.neg_tmod] at this
        omega
      generalize Int.tmod n (hi - lo + 1) = t at *
      by_cases ht : t < 0
      · rw [if_pos ht]
        have e : wrap64 (lo + wrap64 (wrap64 (wrap64 (t + hi) - lo) + 1)) = t + hi + 1 := by unfold wrap64; omega
        rw [e]
        exact ⟨_, fun _ => rfl, by omega, by omega, fun a b => absurd ⟨a, b⟩ hno⟩
      · rw [if_neg ht]
        have e : wrap64 (lo + t) = lo + t := by unfold wrap64; omega
        rw [e]
        exact ⟨_, fun _ => rfl, by omega, by omega, fun a b => absurd ⟨a, b⟩ hno⟩
  have fin : ∀ b : Bool, (∀ k, marigraphbook_Within.f k n lo hi = marigraphbook_Within.j0 k n lo hi b) → (b = true ↔ (lo ≤ n ∧ n ≤ hi)) → ∃ r, Ev (fun k => marigraphbook_Within.f k n lo hi) r ∧ lo ≤ r ∧ r ≤ hi ∧ (lo ≤ n → n ≤ hi → r = n) := by
    intro b hf hb
    obtain ⟨r, h, hr⟩ := hj b hb
    refine ⟨r, ⟨1, fun k hk => ?_⟩, hr⟩
    obtain ⟨k, rfl⟩ : ∃ m, k = m + 1 := ⟨k - 1, by omega⟩
    show marigraphbook_Within.f (k + 1) n lo hi = some r
    rw [hf]
    exact h k
  by_cases hlo : n ≥ lo
  · refine fin (decide (n ≤ hi)) (fun k => by unfold marigraphbook_Within.f; rw [if_pos hlo]) ?_
    rw [decide_eq_true_iff]
    exact ⟨fun h => ⟨hlo, h⟩, fun h => h.2⟩
  · refine fin false (fun k => by unfold marigraphbook_Within.f; rw [if_neg hlo]) ?_
    constructor
    · intro h; cases h
    · intro h; omega
/-! ### bytes as strings -/
theorem u8_eq {x y : Int} (hx : 0 ≤ x ∧ x ≤ 255) (hy : 0 ≤ y ∧ y ≤ 255) : (UInt8.ofNat x.toNat = UInt8.ofNat y.toNat) ↔ x = y := by
  constructor
  · intro h
    have h := congrArg UInt8.toNat h
    rw [UInt8.toNat_ofNat', UInt8.toNat_ofNat'] at h
    omega
  · rintro rfl; rfl
theorem bytesOf_inj : ∀ {a b : List Int}, Byt a → Byt b → (Lib.bytesOf a = Lib.bytesOf b ↔ a = b)
  | [], [], _, _ => by simp
  | [], _ :: _, _, _ => by simp [Lib.bytesOf]
  | _ :: _, [], _, _ => by simp [Lib.bytesOf]
  | x :: a, y :: b, ha, hb => by
    have ih := bytesOf_inj ha.cons.2 hb.cons.2
    have h1 := u8_eq ha.cons.1 hb.cons.1
    unfold Lib.bytesOf at ih ⊢
    rw [List.map_cons, List.map_cons, List.cons.injEq, List.cons.injEq, h1, ih]
theorem sn_eq {a b : List Int} (ha : Byt a) (hb : Byt b) : ((strOfNums a).toList = (strOfNums b).toList) ↔ a = b := by
  rw [Lib.strOfNums_toList, Lib.strOfNums_toList]
  exact bytesOf_inj ha hb
theorem sn_beq {a b : List Int} (ha : Byt a) (hb : Byt b) : ((strOfNums a).toList == (strOfNums b).toList) = decide (a = b) := by
  rw [Bool.eq_iff_iff, beq_iff_eq, decide_eq_true_iff]
  exact sn_eq ha hb
/-! ### rows' keys -/
theorem put_ev (l : List Int) (n : Int) (s : Nat) (hs : s ≤ 8) (hl : l.length + 8 ≤ 140737488355328) : Ev (fun k => octet_Put.f k l n (s : Int)) (l ++ be n s) := ⟨9, fun k hk => put_tells l n s k hs (by omega) hl⟩
theorem rdT_pre (pre : List S53) (o : S53) (suf : List S53) : rd_T53 (pre ++ o :: suf) (pre.length : Int) = o := by
  unfold rd_T53
  rw [Int.toNat_natCast, List.getD_eq_getElem?_getD, List.getElem?_append_right (Nat.le_refl _), Nat.sub_self]
  rfl
theorem rdI_pre (pre : List Int) (o : Int) (suf : List Int) : rd (pre ++ o :: suf) (pre.length : Int) = o := by
  unfold rd
  rw [Int.toNat_natCast, List.getD_eq_getElem?_getD, List.getElem?_append_right (Nat.le_refl _), Nat.sub_self]
  rfl
theorem rd_mem {l : List Int} {j : Nat} (h : j < l.length) : rd l (j : Int) ∈ l := by
  unfold rd
  rw [Int.toNat_natCast, List.getD_eq_getElem?_getD, List.getElem?_eq_getElem h]
  exact List.getElem_mem h
theorem u64w {x : Int} (h0 : 0 ≤ x) (h1 : x < 18446744073709551616) : IntKind.u64.wrap x = x := by
  rw [IntKind.wrap_u64]
  exact Int.emod_eq_of_lt h0 h1
/-- Tags that may be, behind a key. -/
def Rises : Int → List S53 → Prop
  | _, [] => True
  | b, t :: l => b < t.f0 ∧ (1 ≤ t.f0 ∧ t.f0 ≤ 16777215 ∧ 1 ≤ t.f1 ∧ t.f1 ≤ 16777215) ∧ Rises t.f0 l
structure MayR (m b : Int) (l : List S53) : Prop where
  m : 1 ≤ m ∧ m ≤ 16777215
  b : 0 ≤ b ∧ b ≤ 4294967295 ∧ b % 3600 = 0
  n : 1 ≤ l.length ∧ l.length ≤ 4
  t : Rises 0 l
theorem number_tells {a : Int} (h : 1 ≤ a ∧ a ≤ 16777215) : rowkey_number.f a = some true := by
  unfold rowkey_number.f
  rw [if_pos h.1, decide_eq_true h.2]
theorem right_loop (m b : Int) (l : List S53) (h4 : l.length ≤ 4) : ∀ (suf pre : List S53) (c : Int), l = pre ++ suf → Rises c suf → (pre ≠ [] → (rd_T53 l ((pre.length : Int) - 1)).f0 = c) → Ev (fun k => rowkey_Right.l0 k l (l.length : Int) (pre.length : Int) m b l) true := by
  intro suf
  induction suf with
  | nil =>
    intro pre c e _ _
    rw [List.append_nil] at e
    subst e
    refine Ev.step (f := fun _ => some true) (fun k => ?_) (Ev.now _)
    simp only [rowkey_Right.l0]
    rw [if_neg (Int.lt_irrefl _)]
  | cons o suf ih =>
    intro pre c e hr hp
    have hll : l.length = pre.length + (suf.length + 1) := by rw [e, List.length_append, List.length_cons]
    have hrd : rd_T53 l (pre.length : Int) = o := by rw [e]; exact rdT_pre pre o suf
    have hnext := ih (pre ++ [o]) o.f0 (by rw [e, List.append_assoc]; rfl) hr.2.2 (fun _ => by rw [List.length_append, List.length_singleton, show ((pre.length + 1 : Nat) : Int) - 1 = (pre.length : Int) by omega, hrd])
    have e1 : wrap64 ((pre.length : Int) + 1) = ((pre ++ [o]).length : Int) := by rw [List.length_append, List.length_singleton]; unfold wrap64; omega
    refine Ev.step (fun k => ?_) hnext
    simp only [rowkey_Right.l0]
    rw [if_pos (by omega), if_pos (by omega), if_pos (by omega), hrd, number_tells ⟨hr.2.1.1, hr.2.1.2.1⟩, number_tells hr.2.1.2.2, e1]
    simp only [Option.bind_some, if_true]
    by_cases h0 : pre.length = 0
    · rw [if_neg (by omega)]
    · have hw : wrap64 ((pre.length : Int) - 1) = (pre.length : Int) - 1 := by unfold wrap64; omega
      have hne : pre ≠ [] := fun e0 => h0 (by rw [e0]; rfl)
      rw [if_pos (by omega), hw, if_pos (by omega), if_pos (by omega), hp hne, if_neg (by have := hr.1; omega)]
theorem Right_tells {m b : Int} {l : List S53} (h : MayR m b l) : Ev (fun k => rowkey_Right.f k m b l) true := by
  have hl := right_loop m b l h.n.2 l [] 0 rfl h.t (fun h => absurd rfl h)
  have ht : Int.tmod b 3600 = 0 := by rw [Int.tmod_eq_emod_of_nonneg h.b.1]; exact h.b.2.2
  have h1 := h.b
  have h2 := h.n
  unfold rowkey_Right.f
  simp only [number_tells h.m, Option.bind_some, if_true, if_neg (show ¬ b < 0 by omega), if_neg (show ¬ b > 4294967295 by omega), if_pos ht, if_neg (show ¬ (l.length : Int) < 1 by omega), decide_eq_false (show ¬ (l.length : Int) > 4 by omega)]
  refine Ev.step (fun k => ?_) hl
  simp only [rowkey_Right.j0]
  rw [if_neg (by decide)]
  rfl
/-- Tags as they are written; a whole key. -/
def tg : List S53 → List Int
  | [] => []
  | t :: l => be t.f0 3 ++ (be t.f1 3 ++ tg l)
def key (s m b : Int) (l : List S53) : List Int := [s % 256] ++ (be m 3 ++ (be b 4 ++ ([(l.length : Int) % 256] ++ tg l)))
theorem tg_len (l : List S53) : (tg l).length = 6 * l.length := by
  induction l with
  | nil => rfl
  | cons t l ih => rw [tg, List.length_append, List.length_append, be_len, be_len, ih, List.length_cons]; omega
theorem tg_byt (l : List S53) : Byt (tg l) := by
  induction l with
  | nil => intro x hx; cases hx
  | cons t l ih => exact (be_byt _ _).append ((be_byt _ _).append ih)
theorem one_byt (x : Int) : Byt [x % 256] := by
  intro y hy
  rw [List.mem_singleton] at hy
  omega
theorem key_len (s m b : Int) (l : List S53) : (key s m b l).length = 9 + 6 * l.length := by
  unfold key
  simp only [List.length_append, be_len, tg_len, List.length_singleton]
  omega
theorem key_byt (s m b : Int) (l : List S53) : Byt (key s m b l) := (one_byt _).append ((be_byt _ _).append ((be_byt _ _).append ((one_byt _).append (tg_byt _))))
theorem Prefix_tells (s : Int) {m b : Int} (hm : 0 ≤ m ∧ m ≤ 4294967295) (hb : 0 ≤ b ∧ b ≤ 4294967295) : Ev (fun k => rowkey_Prefix.f k s m b) (([s % 256] ++ be m 3) ++ be b 4) := by
  unfold rowkey_Prefix.f
  rw [u64w hm.1 (by omega), u64w hb.1 (by omega)]
  refine Ev.bind (put_ev _ _ 3 (by decide) (by simp)) ?_
  exact Ev.bind (put_ev _ _ 4 (by decide) (by simp [be_len])) (Ev.now _)
theorem lay_loop (l : List S53) (h4 : l.length ≤ 4) : ∀ (suf pre : List S53) (c : Int) (acc : List Int), l = pre ++ suf → Rises c suf → acc.length ≤ 100 + 6 * pre.length → Ev (fun k => rowkey_lay.l0 k acc l (l.length : Int) (pre.length : Int)) (acc ++ tg suf) := by
  intro suf
  induction suf with
  | nil =>
    intro pre c acc e _ _
    rw [List.append_nil] at e
    subst e
    refine Ev.step (f := fun _ => some (acc ++ tg [])) (fun k => ?_) (Ev.now _)
    simp only [rowkey_lay.l0]
    rw [if_neg (Int.lt_irrefl _), tg, List.append_nil]
  | cons o suf ih =>
    intro pre c acc e hr ha
    have hll : l.length = pre.length + (suf.length + 1) := by rw [e, List.length_append, List.length_cons]
    have hrd : rd_T53 l (pre.length : Int) = o := by rw [e]; exact rdT_pre pre o suf
    have hnext := ih (pre ++ [o]) o.f0 ((acc ++ be o.f0 3) ++ be o.f1 3) (by rw [e, List.append_assoc]; rfl) hr.2.2 (by simp only [List.length_append, be_len, List.length_singleton]; omega)
    have e1 : wrap64 ((pre.length : Int) + 1) = ((pre ++ [o]).length : Int) := by rw [List.length_append, List.length_singleton]; unfold wrap64; omega
    have hv := hr.2.1
    refine Ev.step (f := fun k => (octet_Put.f k acc (IntKind.u64.wrap o.f0) 3).bind fun t143 => ((octet_Put.f k t143 (IntKind.u64.wrap o.f1) 3).bind fun t146 => (rowkey_lay.l0 k t146 l (l.length : Int) ((pre ++ [o]).length : Int)))) (fun k => ?_) ?_
    · simp only [rowkey_lay.l0]
      rw [if_pos (by omega), if_pos (by omega), if_pos (by omega), hrd, e1]
    · rw [u64w (show 0 ≤ o.f0 by omega) (by omega), u64w (show 0 ≤ o.f1 by omega) (by omega)]
      refine Ev.bind (put_ev _ _ 3 (by decide) (by omega)) ?_
      refine Ev.bind (put_ev _ _ 3 (by decide) (by rw [List.length_append, be_len]; omega)) ?_
      rw [show acc ++ tg (o :: suf) = ((acc ++ be o.f0 3) ++ be o.f1 3) ++ tg suf by rw [tg]; simp only [List.append_assoc]]
      exact hnext
theorem lay_tells {m b : Int} {l : List S53} (h : MayR m b l) (s : Int) : Ev (fun k => rowkey_lay.f k s m b l) (key s m b l) := by
  have h1 := h.m
  have h2 := h.b
  have h3 := h.n
  unfold rowkey_lay.f
  refine Ev.bind (Prefix_tells s (by omega) (by omega)) ?_
  simp only [Option.bind_some]
  have hl : ((([s % 256] ++ be m 3) ++ be b 4).length + ([(l.length : Int) % 256] : List Int).length) = 9 := by simp [be_len]
  rw [hl]
  simp only [if_pos (show 9 < 140737488355328 by decide)]
  have := lay_loop l h.n.2 l [] 0 ((([s % 256] ++ be m 3) ++ be b 4) ++ [(l.length : Int) % 256]) rfl h.t (by rw [List.length_append, hl]; decide)
  rw [show key s m b l = ((([s % 256] ++ be m 3) ++ be b 4) ++ [(l.length : Int) % 256]) ++ tg l by unfold key; simp only [List.append_assoc]]
  exact this
def sumI : List Int → Int
  | [] => 0
  | x :: l => x + sumI l
theorem sumI_pos {l : List Int} (h : Byt l) : 0 ≤ sumI l := by
  induction l with
  | nil => exact Int.le_refl _
  | cons x l ih =>
    have := ih h.cons.2
    have := h.cons.1
    rw [sumI]; omega
theorem salt_loop (l : List Int) (hb : Byt l) (hl : l.length ≤ 1000) : ∀ (suf pre : List Int) (a : Int), l = pre ++ suf → 0 ≤ a → a ≤ 255 * pre.length → Ev (fun k => rowkey_Salt.l0 k a l (l.length : Int) (pre.length : Int)) (Int.tmod (a + sumI suf) 4) := by
  intro suf
  induction suf with
  | nil =>
    intro pre a e _ _
    rw [List.append_nil] at e
    subst e
    refine Ev.step (f := fun _ => some (Int.tmod (a + sumI []) 4)) (fun k => ?_) (Ev.now _)
    simp only [rowkey_Salt.l0]
    rw [if_neg (Int.lt_irrefl _), sumI, Int.add_zero]
  | cons o suf ih =>
    intro pre a e h0 h1
    have hll : l.length = pre.length + (suf.length + 1) := by rw [e, List.length_append, List.length_cons]
    have hrd : rd l (pre.length : Int) = o := by rw [e]; exact rdI_pre pre o suf
    have ho : 0 ≤ o ∧ o ≤ 255 := hb o (by rw [e]; simp)
    have hnext := ih (pre ++ [o]) (a + o) (by rw [e, List.append_assoc]; rfl) (by omega) (by rw [List.length_append, List.length_singleton]; omega)
    have e1 : wrap64 ((pre.length : Int) + 1) = ((pre ++ [o]).length : Int) := by rw [List.length_append, List.length_singleton]; unfold wrap64; omega
    have e2 : wrap64 (a + wrap64 o) = a + o := by unfold wrap64; omega
    rw [sumI, ← Int.add_assoc]
    refine Ev.step (fun k => ?_) hnext
    simp only [rowkey_Salt.l0]
    rw [if_pos (by omega), if_pos (by omega), if_pos (by omega), hrd, e1, e2]
def saltI (m b : Int) (l : List S53) : Int := sumI ((key 0 m b l).drop 1) % 4
theorem saltI_in (m b : Int) (l : List S53) : 0 ≤ saltI m b l ∧ saltI m b l ≤ 3 := by unfold saltI; omega
theorem Salt_tells {m b : Int} {l : List S53} (h : MayR m b l) : Ev (fun k => rowkey_Salt.f k m b l) (saltI m b l) := by
  have h3 := h.n
  have hk := key_len 0 m b l
  have hb : Byt ((key 0 m b l).drop 1) := fun x hx => key_byt 0 m b l x (List.mem_of_mem_drop hx)
  unfold rowkey_Salt.f
  refine Ev.bind (Right_tells h) ?_
  simp only [if_true]
  refine Ev.bind (lay_tells h 0) ?_
  simp only [Option.bind_some, if_pos (show 1 ≤ ((key 0 m b l).length : Int) by omega)]
  have := salt_loop ((key 0 m b l).drop 1) hb (by rw [List.length_drop]; omega) ((key 0 m b l).drop 1) [] 0 rfl (Int.le_refl _) (by simp)
  rw [Int.zero_add, Int.tmod_eq_emod_of_nonneg (sumI_pos hb)] at this
  exact this
theorem Encode_tells {m b : Int} {l : List S53} (h : MayR m b l) : Ev (fun k => rowkey_Encode.f k m b l) (key (saltI m b l) m b l, 0) := by
  unfold rowkey_Encode.f
  refine Ev.bind (Right_tells h) ?_
  simp only [if_true]
  refine Ev.bind (Salt_tells h) ?_
  exact Ev.bind (lay_tells h _) (Ev.now _)
theorem num3 {x : Int} (h : 0 ≤ x ∧ x ≤ 16777215) : wrap64 (getI 0 (be x 3)) = x := by
  rw [getI_be x 3 0 (Int.le_refl _) (by rw [show (2 : Int) ^ (8 * 3) = 16777216 from rfl]; omega), show (2 : Int) ^ (8 * 3) = 16777216 from rfl]
  unfold wrap64
  omega
theorem num4 {x : Int} (h : 0 ≤ x ∧ x ≤ 4294967295) : wrap64 (getI 0 (be x 4)) = x := by
  rw [getI_be x 4 0 (Int.le_refl _) (by rw [show (2 : Int) ^ (8 * 4) = 4294967296 from rfl]; omega), show (2 : Int) ^ (8 * 4) = 4294967296 from rfl]
  unfold wrap64
  omega
theorem num1 {x : Int} (h : 0 ≤ x ∧ x ≤ 255) : wrap64 (getI 0 [x % 256]) = x := by
  have e : [x % 256] = be x 1 := by simp [be]
  rw [e, getI_be x 1 0 (Int.le_refl _) (by rw [show (2 : Int) ^ (8 * 1) = 256 from rfl]; omega), show (2 : Int) ^ (8 * 1) = 256 from rfl]
  unfold wrap64
  omega
theorem tags_tells (m b : Int) (more : List Int) : ∀ (l acc : List S53) (c : Int), acc.length + l.length ≤ 1000 → Rises c l → 0 ≤ c → tagsI m b l.length (tg l ++ more) acc = some (m, b, acc ++ l, (more.length : Int), true) := by
  intro l
  induction l with
  | nil => intro acc c _ _ _; rw [List.append_nil]; rfl
  | cons t l ih =>
    intro acc c hl hr hc
    have hv := hr.2.1
    rw [List.length_cons] at hl
    rw [List.length_cons, tagsI, if_pos (by omega), tg, List.append_assoc, List.append_assoc, if_neg (by rw [List.length_append, be_len]; omega), List.drop_left' (be_len _ _), if_neg (by rw [List.length_append, be_len]; omega), List.drop_left' (be_len _ _), List.take_left' (be_len _ _), List.take_left' (be_len _ _), num3 (by omega), num3 (by omega), ih (acc ++ [t]) t.f0 (by rw [List.length_append, List.length_singleton]; omega) hr.2.2 (by omega), List.append_assoc]
    rfl
theorem read_tells {m b : Int} {l : List S53} (h : MayR m b l) (s : Int) (more : List Int) : rowkey_read.f (key s m b l ++ more) = some (m, b, l, (more.length : Int), true) := by
  have h1 := h.m
  have h2 := h.b
  have h3 := h.n
  have e : key s m b l ++ more = [s % 256] ++ (be m 3 ++ (be b 4 ++ ([(l.length : Int) % 256] ++ (tg l ++ more)))) := by unfold key; simp only [List.append_assoc]
  have e1 : (key s m b l ++ more).drop 1 = be m 3 ++ (be b 4 ++ ([(l.length : Int) % 256] ++ (tg l ++ more))) := by rw [e]; rfl
  have hd : ∀ (x : Int) (r : List Int), ([x] ++ r).drop 1 = r := fun _ _ => rfl
  have ht : ∀ (x : Int) (r : List Int), ([x] ++ r).take 1 = [x] := fun _ _ => rfl
  unfold rowkey_read.f
  rw [if_neg (by rw [List.length_append, key_len]; omega), e1, if_neg (by rw [List.length_append, be_len]; omega), List.drop_left' (be_len _ _), if_neg (by rw [List.length_append, be_len]; omega), List.drop_left' (be_len _ _), if_neg (by rw [List.length_append, List.length_singleton]; omega), hd, ht, List.take_left' (be_len _ _), List.take_left' (be_len _ _), num1 (by omega), num3 (by omega), num4 (by omega), if_pos (by omega), Int.toNat_natCast, tags_tells m b more l [] 0 (by simp; omega) h.t (Int.le_refl _)]
  rfl
theorem same_loop (l : List S53) (h4 : l.length ≤ 1000) : ∀ (suf pre : List S53), l = pre ++ suf → Ev (fun k => api_IDTag.l0 k l l (l.length : Int) (pre.length : Int)) true := by
  intro suf
  induction suf with
  | nil =>
    intro pre e
    rw [List.append_nil] at e
    subst e
    refine Ev.step (f := fun _ => some true) (fun k => ?_) (Ev.now _)
    simp only [api_IDTag.l0]
    rw [if_neg (Int.lt_irrefl _)]
  | cons o suf ih =>
    intro pre e
    have hll : l.length = pre.length + (suf.length + 1) := by rw [e, List.length_append, List.length_cons]
    have hnext := ih (pre ++ [o]) (by rw [e, List.append_assoc]; rfl)
    have e1 : wrap64 ((pre.length : Int) + 1) = ((pre ++ [o]).length : Int) := by rw [List.length_append, List.length_singleton]; unfold wrap64; omega
    refine Ev.step (fun k => ?_) hnext
    simp only [api_IDTag.l0]
    rw [if_pos (by omega), if_pos (by omega), if_pos (by omega), if_pos (by omega), e1, if_neg (by simp)]
theorem Same_tells (m b : Int) (l : List S53) (h4 : l.length ≤ 1000) : Ev (fun k => rowkey_Same.f k m b l m b l) true := by
  unfold rowkey_Same.f api_IDTag.f
  simp only [if_true]
  exact Ev.bind (same_loop l h4 l [] rfl) (Ev.now _)
/-! ### rows as they are drawn -/
def fin (l : List S53) : List S53 := if l.length = 0 then [⟨1, 1⟩] else l
theorem made_loop (l2 : List Int) (hw : ∀ x ∈ l2, (Lit.int .i64 x).wf = true) : ∀ (d i : Nat) (acc : List S53) (c : Int), d = min l2.length 4 - i → acc.length = i → i ≤ 4 → 0 ≤ c → c ≤ 2097152 * i →
    ∃ t, t.length = d ∧ Rises c t ∧ ∀ m b, Ev (fun k => marigraphlaw14_made.l0 k l2 c (i : Int) m b acc) (m, b, fin (acc ++ t)) := by
  intro d
  induction d with
  | zero =>
    intro i acc c hd ha hi hc0 hc1
    refine ⟨[], rfl, trivial, fun m b => ?_⟩
    rw [List.append_nil]
    refine Ev.step (f := fun k => marigraphlaw14_made.j1 k l2 c (i : Int) false m b acc) (fun k => ?_) ?_
    · simp only [marigraphlaw14_made.l0]
      by_cases hl : (i : Int) < (l2.length : Int)
      · rw [if_pos hl, decide_eq_false (by omega)]
      · rw [if_neg hl]
    · refine Ev.step (f := fun _ => some (m, b, fin acc)) (fun k => ?_) (Ev.now _)
      simp only [marigraphlaw14_made.j1]
      rw [if_neg (by decide)]
      unfold fin
      by_cases h0 : acc.length = 0
      · rw [if_pos (by omega), if_pos h0]
      · rw [if_neg (by omega), if_neg h0]
  | succ d ih =>
    intro i acc c hd ha hi hc0 hc1
    have hlt : i < l2.length := by omega
    have hwf := i64_of (hw _ (rd_mem hlt))
    have q0 : d = min l2.length 4 - (i + 1) := by clear hwf ih; omega
    have q1 : i + 1 ≤ 4 := by clear hwf ih; omega
    obtain ⟨t, ht, t1, t2, _⟩ := within_w (n := rd l2 (i : Int)) (lo := 1) (hi := 2097152) (by decide) (by decide) (by decide) hwf
    obtain ⟨v, hv, v1, v2, _⟩ := within_w (n := rd l2 (i : Int)) (lo := 1) (hi := 16777215) (by decide) (by decide) (by decide) hwf
    have e1 : wrap64 (c + t) = c + t := by unfold wrap64; omega
    have e2 : wrap64 ((i : Int) + 1) = ((i + 1 : Nat) : Int) := by unfold wrap64; omega
    have q2 : 0 ≤ c + t := Int.add_nonneg hc0 (Int.le_trans (by decide) t1)
    have q3 : c + t ≤ 2097152 * ((i + 1 : Nat) : Int) := by
      rw [Int.natCast_add, Int.mul_add]
      exact Int.add_le_add hc1 t2
    have q4 : 1 ≤ c + t := Int.add_le_add hc0 t1
    have q5 : c + t ≤ 16777215 := Int.le_trans q3 (Int.le_trans (Int.mul_le_mul_of_nonneg_left (Int.ofNat_le.2 q1) (by decide)) (by decide))
    have q6 : c < c + t := Int.lt_add_of_pos_right c (Int.lt_of_lt_of_le (by decide) t1)
    have q7 : acc.length < 8796093022208 := by rw [ha]; exact Nat.lt_of_le_of_lt hi (by decide)
    obtain ⟨r, hr1, hr2, hr3⟩ := ih (i + 1) (acc ++ [⟨c + t, v⟩]) (c + t) q0 (by rw [List.length_append, ha]; rfl) q1 q2 q3
    refine ⟨⟨c + t, v⟩ :: r, by rw [List.length_cons, hr1], ⟨q6, ⟨q4, q5, v1, v2⟩, hr2⟩, fun m b => ?_⟩
    rw [show acc ++ ⟨c + t, v⟩ :: r = (acc ++ [⟨c + t, v⟩]) ++ r by rw [List.append_assoc]; rfl]
    refine Ev.step (f := fun k => marigraphlaw14_made.j1 k l2 c (i : Int) true m b acc) (fun k => ?_) ?_
    · simp only [marigraphlaw14_made.l0]
      rw [if_pos (Int.ofNat_lt.2 hlt), decide_eq_true (by clear hr3 e1 e2 hr1 hr2; omega)]
    · refine Ev.step (f := fun k => (marigraphbook_Within.f k (rd l2 (i : Int)) 1 2097152).bind fun t204 => ((marigraphbook_Within.f k (rd l2 (i : Int)) 1 16777215).bind fun t206 => (if acc.length < 8796093022208 then (marigraphlaw14_made.l0 k l2 (wrap64 (c + t204)) (wrap64 ((i : Int) + 1)) m b (acc ++ [(⟨wrap64 (c + t204), t206⟩ : S53)])) else (none)))) (fun k => ?_) ?_
      · simp only [marigraphlaw14_made.j1]
        rw [if_pos trivial, if_pos (Int.natCast_nonneg i), if_pos (Int.ofNat_lt.2 hlt)]
      · refine Ev.bind ht (Ev.bind hv ?_)
        simp only [e1, e2, if_pos q7]
        exact hr3 m b
theorem made_tells {a0 : Int} {l2 : List Int} (h0 : (Lit.int .i64 a0).wf = true) (hw : ∀ x ∈ l2, (Lit.int .i64 x).wf = true) : ∃ m t, ∀ a1, (Lit.int .i64 a1).wf = true → ∃ b, MayR m b t ∧ Ev (fun k => marigraphlaw14_made.f k a0 a1 l2) (m, b, t) := by
  obtain ⟨m, hm, m1, m2, _⟩ := within_w (n := a0) (lo := 1) (hi := 16777215) (by decide) (by decide) (by decide) (i64_of h0)
  obtain ⟨t, t1, t2, t3⟩ := made_loop l2 hw _ 0 [] 0 rfl rfl (by decide) (Int.le_refl _) (by decide)
  refine ⟨m, fin t, fun a1 h1 => ?_⟩
  obtain ⟨h, hh, h2, h3, _⟩ := within_w (n := a1) (lo := 0) (hi := 1193046) (by decide) (by decide) (by decide) (i64_of h1)
  have q1 : 0 ≤ h * 3600 ∧ h * 3600 ≤ 4294967295 := by clear hh t1 t2 t3 hm; omega
  refine ⟨h * 3600, ⟨⟨m1, m2⟩, ⟨q1.1, q1.2, Int.mul_emod_left h 3600⟩, ?_, ?_⟩, ?_⟩
  · unfold fin
    split
    · decide
    · omega
  · unfold fin
    split
    · exact ⟨by decide, by decide, trivial⟩
    · exact t2
  · unfold marigraphlaw14_made.f
    refine Ev.bind hm (Ev.bind hh ?_)
    have hw3 : wrap64 (h * 3600) = h * 3600 := by
      clear t1 t2 t3 hm hh
      unfold wrap64
      omega
    simp only [hw3]
    have := t3 m (h * 3600)
    rw [List.nil_append] at this
    exact this
theorem known_ev : Ev (fun k => marigraphlaw14_known.f k) true := Ev.of (fun k => marigraphlaw14_known.mono k) (k := 60) (by decide +kernel)
/-! ### rows that are not the same -/
theorem tag_eq {o o' : S53} (h0 : o.f0 = o'.f0) (h1 : o.f1 = o'.f1) : o = o' := by
  cases o
  cases o'
  simp only at h0 h1
  rw [h0, h1]
theorem unlike_loop (l l' : List S53) (hll : l.length = l'.length) (h4 : l.length ≤ 1000) : ∀ (suf suf' pre pre' : List S53), l = pre ++ suf → l' = pre' ++ suf' → pre.length = pre'.length → suf ≠ suf' → Ev (fun k => api_IDTag.l0 k l l' (l.length : Int) (pre.length : Int)) false := by
  intro suf
  induction suf with
  | nil =>
    intro suf' pre pre' e e' hp hne
    exfalso
    have h1 : l.length = pre.length := by rw [e, List.append_nil]
    have h2 : l'.length = pre'.length + suf'.length := by rw [e', List.length_append]
    have h3 : suf'.length = 0 := by omega
    exact hne (List.length_eq_zero_iff.1 h3).symm
  | cons o suf ih =>
    intro suf' pre pre' e e' hp hne
    have h1 : l.length = pre.length + (suf.length + 1) := by rw [e, List.length_append, List.length_cons]
    have h2 : l'.length = pre'.length + suf'.length := by rw [e', List.length_append]
    cases suf' with
    | nil => simp only [List.length_nil] at h2; omega
    | cons o' suf' =>
      have hrd : rd_T53 l (pre.length : Int) = o := by rw [e]; exact rdT_pre pre o suf
      have hrd' : rd_T53 l' (pre.length : Int) = o' := by rw [e', hp]; exact rdT_pre pre' o' suf'
      have e1 : wrap64 ((pre.length : Int) + 1) = ((pre ++ [o]).length : Int) := by rw [List.length_append, List.length_singleton]; unfold wrap64; omega
      by_cases ho : o = o'
      · subst ho
        have hnext := ih suf' (pre ++ [o]) (pre' ++ [o]) (by rw [e, List.append_assoc]; rfl) (by rw [e', List.append_assoc]; rfl) (by rw [List.length_append, List.length_append, hp]) (fun h => hne (by rw [h]))
        refine Ev.step (fun k => ?_) hnext
        simp only [api_IDTag.l0]
        rw [if_pos (by omega), if_pos (by omega), if_pos (by omega), if_pos (by omega), hrd, hrd', e1, if_neg (by simp)]
      · refine Ev.step (f := fun _ => some false) (fun k => ?_) (Ev.now _)
        simp only [api_IDTag.l0]
        rw [if_pos (by omega), if_pos (by omega), if_pos (by omega), if_pos (by omega), hrd, hrd', if_pos]
        by_cases h0 : o.f0 = o'.f0
        · have h5 : ¬ o.f1 = o'.f1 := fun h => ho (tag_eq h0 h)
          simp [h5]
        · simp [h0]
theorem Same_false {m b m' b' : Int} {l l' : List S53} (h4 : l.length ≤ 1000) (h : ¬ (m = m' ∧ b = b' ∧ l = l')) : Ev (fun k => rowkey_Same.f k m b l m' b' l') false := by
  unfold rowkey_Same.f api_IDTag.f
  by_cases hm : m = m'
  · by_cases hb : b = b'
    · have hl : l ≠ l' := fun e => h ⟨hm, hb, e⟩
      simp only [if_pos hm, if_pos hb]
      by_cases hn : l.length = l'.length
      · simp only [if_pos (show (l.length : Int) = (l'.length : Int) by omega)]
        exact Ev.bind (unlike_loop l l' hn h4 l l' [] [] rfl rfl rfl hl) (Ev.now _)
      · simp only [if_neg (show ¬ (l.length : Int) = (l'.length : Int) by omega)]
        exact Ev.bind (Ev.now false) (Ev.now _)
    · simp only [if_pos hm, if_neg hb]
      exact Ev.now _
  · simp only [if_neg hm]
    exact Ev.now _
theorem pre_same {s s' m b m' b' : Int} {l l' : List S53} (h : MayR m b l) (h' : MayR m' b' l') (c : Nat) (hc : c = min (key s m b l).length (key s' m' b' l').length) (e : (key s m b l).take c = (key s' m' b' l').take c) : m = m' ∧ b = b' ∧ l = l' := by
  by_cases hle : (key s m b l).length ≤ (key s' m' b' l').length
  · have hc' : c = (key s m b l).length := by omega
    rw [hc', List.take_length] at e
    have e1 := read_tells h s ((key s' m' b' l').drop (key s m b l).length)
    have e2 := read_tells h' s' []
    rw [List.append_nil] at e2
    rw [show key s m b l ++ (key s' m' b' l').drop (key s m b l).length = key s' m' b' l' by
      conv => lhs; arg 1; rw [e]
      exact List.take_append_drop _ _, e2] at e1
    simp only [Option.some.injEq, Prod.mk.injEq] at e1
    exact ⟨e1.1.symm, e1.2.1.symm, e1.2.2.1.symm⟩
  · have hc' : c = (key s' m' b' l').length := by omega
    rw [hc', List.take_length] at e
    have e1 := read_tells h' s' ((key s m b l).drop (key s' m' b' l').length)
    have e2 := read_tells h s []
    rw [List.append_nil] at e2
    rw [show key s' m' b' l' ++ (key s m b l).drop (key s' m' b' l').length = key s m b l by
      conv => lhs; arg 1; rw [← e]
      exact List.take_append_drop _ _, e2] at e1
    simp only [Option.some.injEq, Prod.mk.injEq] at e1
    exact ⟨e1.1, e1.2.1, e1.2.2.1⟩
theorem RowkeyApart : marigraphlaw14_RowkeyApart.Pure := by
  intro a0 a1 a2 a3 l4 l5 w0 w1 w2 w3 _ _ h4 _ _ h5
  refine Ev.rounds ?_
  obtain ⟨m, t, ht⟩ := made_tells w0 h4
  obtain ⟨b, hb, e1⟩ := ht a2 w2
  obtain ⟨m', t', ht'⟩ := made_tells w1 h5
  obtain ⟨b', hb', e2⟩ := ht' a3 w3
  unfold marigraphlaw14_RowkeyApart.f
  refine Ev.bind e1 (Ev.bind e2 (Ev.bind (Encode_tells hb) (Ev.bind (Encode_tells hb') ?_)))
  have hk := key_len (saltI m b t) m b t
  have hk' := key_len (saltI m' b' t') m' b' t'
  have hx := key_byt (saltI m b t) m b t
  have hy := key_byt (saltI m' b' t') m' b' t'
  have hi := pre_same (s := saltI m b t) (s' := saltI m' b' t') hb hb'
  have hs1 := saltI_in m b t
  have r1 : rd (key (saltI m b t) m b t) 0 = saltI m b t % 256 := rfl
  have hS := Salt_tells hb
  have hn := hb.n
  have hn' := hb'.n
  have hbb : (m = m' ∧ b = b' ∧ t = t') → key (saltI m b t) m b t = key (saltI m' b' t') m' b' t' := fun e => by rw [e.1, e.2.1, e.2.2]
  simp only [if_true, show ((0 : Int) != 0) = false from rfl]
  refine Ev.step (f := fun k => marigraphlaw14_RowkeyApart.j1 k (key (saltI m b t) m b t) (key (saltI m' b' t') m' b' t') false m b t m' b' t') (fun k => ?_) ?_
  · simp only [marigraphlaw14_RowkeyApart.j0]
    rw [if_neg (by decide), if_neg (by omega), show (((key (saltI m' b' t') m' b' t').length : Int) == 0) = false by rw [beq_eq_false_iff_ne]; omega]
  generalize hX : key (saltI m b t) m b t = x at *
  generalize hY : key (saltI m' b' t') m' b' t' = y at *
  clear hX hY
  refine Ev.step (f := fun k => marigraphlaw14_RowkeyApart.j1 (k + 1) x y false m b t m' b' t') (fun _ => rfl) ?_
  have hmn : mn (x.length : Int) (y.length : Int) = ((min x.length y.length : Nat) : Int) := by unfold mn; split <;> omega
  simp only [marigraphlaw14_RowkeyApart.j1, Bool.false_eq_true, if_false, hmn, Int.toNat_natCast, if_pos (show 0 ≤ ((min x.length y.length : Nat) : Int) by omega), if_pos (show ((min x.length y.length : Nat) : Int) ≤ (x.length : Int) by omega), if_pos (show ((min x.length y.length : Nat) : Int) ≤ (y.length : Int) by omega)]
  have hx' : Byt (x.take (min x.length y.length)) := fun z hz => hx z (List.mem_of_mem_take hz)
  have hy' : Byt (y.take (min x.length y.length)) := fun z hz => hy z (List.mem_of_mem_take hz)
  have hw : wrap64 (rd x 0) = saltI m b t := by rw [r1]; unfold wrap64; omega
  have hend : Ev (fun k => if 0 < (x.length : Int) then ((rowkey_Salt.f k m b t).bind fun t240 => (if (wrap64 (rd x 0)) = t240 then ((rowkey_Salt.f k m b t).bind fun t241 => (if t241 < 4 then ((marigraphlaw14_known.f k).bind fun t242 => (some t242)) else (some false))) else (some false))) else (none)) true := by
    simp only [if_pos (show 0 < (x.length : Int) by omega)]
    refine Ev.bind hS ?_
    simp only [if_pos hw]
    refine Ev.bind hS ?_
    simp only [if_pos (show saltI m b t < 4 by omega)]
    exact Ev.bind known_ev (Ev.now _)
  by_cases hsame : m = m' ∧ b = b' ∧ t = t'
  · have hxy := hbb hsame
    obtain ⟨f1, f2, f3⟩ := hsame
    subst f1
    subst f2
    subst f3
    refine Ev.bind (Same_tells m b t (by omega)) ?_
    simp only [sn_beq hx' hy', hxy, decide_true, beq_self_eq_true, if_true]
    rw [hxy] at hend
    exact hend
  · refine Ev.bind (Same_false (by omega) hsame) ?_
    have hne : ¬ x.take (min x.length y.length) = y.take (min x.length y.length) := fun e => hsame (hi _ rfl e)
    simp only [sn_beq hx' hy', decide_eq_false hne, beq_self_eq_true, if_true]
    exact hend

end Go.Proofs.Ytjafaojmbapkbaa.Pure

/- RowkeyTells: what the plain functions of rows' keys compute answers as the statement says, for any arguments. No condition beyond the statement's own. -/
import Derived.Test.YtbgghcifpephgaaPRowkeyTellsx9
import Derived.Test.YtbgghcifpephgaaPRowkeyTellsx8
import Derived.Test.YtbgghcifpephgaaPRowkeyTellsx6
import Derived.Test.YtbgghcifpephgaaPRowkeyTellsx10
namespace Go.Proofs.Ytbgghcifpephgaa.Pure
open Go.RowKit Go.Proofs.Ytbgghcifpephgaa.PRowkeyTells Go.Proofs.YtbgghcifpephgaaW.PrintWords Go.Proofs.YtbgghcifpephgaaW.PrintLast
set_option linter.unusedVariables false
set_option linter.unusedSimpArgs false

/-! ### bytes as whole numbers: in range, in order -/
def Byt (l : List Int) : Prop := ∀ x ∈ l, 0 ≤ x ∧ x ≤ 255
theorem Byt.of_wf {l : List Int} (h : ∀ x ∈ l, (Lit.int .u8 x).wf = true) : Byt l := by
  intro x hx
  have := h x hx
  have h1 : IntKind.u8.min = 0 := rfl
  have h2 : IntKind.u8.max = 255 := rfl
  simp only [Lit.wf, Bool.and_eq_true, decide_eq_true_eq] at this
  omega
theorem Byt.cons {x : Int} {l : List Int} (h : Byt (x :: l)) : (0 ≤ x ∧ x ≤ 255) ∧ Byt l := ⟨h x (by simp), fun y hy => h y (by simp [hy])⟩
theorem Byt.append {a b : List Int} (ha : Byt a) (hb : Byt b) : Byt (a ++ b) := by
  intro x hx
  rcases List.mem_append.1 hx with h | h
  · exact ha x h
  · exact hb x h
/-! ### Put -/
def be (n : Int) : Nat → List Int
  | 0 => []
  | s + 1 => (n / 2 ^ (8 * s)) % 256 :: be n s
theorem be_len (n : Int) (s : Nat) : (be n s).length = s := by induction s with | zero => rfl | succ s ih => simp [be, ih]
theorem be_byt (n : Int) (s : Nat) : Byt (be n s) := by
  induction s with
  | zero => intro x hx; cases hx
  | succ s ih =>
    intro x hx
    rcases List.mem_cons.1 hx with rfl | hx
    · omega
    · exact ih x hx
theorem wrap_8 (s : Nat) (h : s ≤ 8) : wrap64 (8 * (s : Int)) = ((8 * s : Nat) : Int) := by unfold wrap64; omega
theorem put_loop (n : Int) (s : Nat) : ∀ (k : Nat) (acc : List Int), s ≤ 8 → s < k → acc.length + s ≤ 140737488355328 → octet_Put.l0 k n acc ((s : Int) - 1) = some (acc ++ be n s) := by
  induction s with
  | zero =>
    intro k acc _ hk _
    obtain ⟨k, rfl⟩ : ∃ m, k = m + 1 := ⟨k - 1, by omega⟩
    simp only [octet_Put.l0]
    rw [if_neg (by omega)]
    simp [be]
  | succ s ih =>
    intro k acc hs hk hl
    obtain ⟨k, rfl⟩ : ∃ m, k = m + 1 := ⟨k - 1, by omega⟩
    have e : ((s + 1 : Nat) : Int) - 1 = (s : Int) := by omega
    rw [e]
    simp only [octet_Put.l0]
    rw [wrap_8 s (by omega), if_pos (by omega), if_pos (by omega), if_pos (by omega)]
    have e2 : wrap64 ((s : Int) - 1) = (s : Int) - 1 := by unfold wrap64; omega
    have e3 : shr .u64 n ((8 * s : Nat) : Int) = n / 2 ^ (8 * s) := by
      unfold shr
      have hb : IntKind.u64.bits = 64 := rfl
      rw [Int.toNat_natCast, hb, Nat.min_eq_left (by omega)]
    rw [e2, e3, ih k _ (by omega) (by omega) (by rw [List.length_append, List.length_singleton]; omega)]
    simp [be]
theorem put_tells (l : List Int) (n : Int) (s : Nat) (k : Nat) (hs : s ≤ 8) (hk : s < k) (hl : l.length + 8 ≤ 140737488355328) : octet_Put.f k l n (s : Int) = some (l ++ be n s) := by
  unfold octet_Put.f slices_Clone_byte_byte.f
  rw [if_pos (by omega)]
  simp only [Option.bind_some]
  have e : mx (mn (s : Int) 8) 0 = (s : Int) := by unfold mx mn; split <;> split <;> omega
  rw [e]
  exact put_loop n s k l hs hk (by omega)
theorem emod_256 (m P : Int) (hP : 0 < P) : m % (P * 256) = m % P + P * (m / P % 256) := by
  have h1 := Int.emod_add_mul_ediv m P
  have h2 := Int.emod_add_mul_ediv (m / P) 256
  have h3 := Int.emod_nonneg m (Int.ne_of_gt hP)
  have h4 := Int.emod_lt_of_pos m hP
  generalize hq : m / P = q at *
  have h5 : P * q = P * (q % 256) + P * 256 * (q / 256) := by rw [Int.mul_assoc, ← Int.mul_add, h2]
  have h6 : 0 ≤ P * (q % 256) := Int.mul_nonneg (by omega) (by omega)
  have h7 : P * (q % 256) ≤ P * 255 := Int.mul_le_mul_of_nonneg_left (by omega) (by omega)
  have e : m = (m % P + P * (q % 256)) + P * 256 * (q / 256) := by omega
  calc m % (P * 256) = ((m % P + P * (q % 256)) + P * 256 * (q / 256)) % (P * 256) := by rw [← e]
    _ = (m % P + P * (q % 256)) % (P * 256) := Int.add_mul_emod_self_left _ _ _
    _ = m % P + P * (q % 256) := Int.emod_eq_of_lt (by omega) (by omega)
/-! ### Get -/
theorem or_byte (q c : Int) (hq : 0 ≤ q) (hc : 0 ≤ c ∧ c ≤ 255) (hb : q * 256 + c < 18446744073709551616) : Go.bits .or .u64 (IntKind.u64.wrap (q * 256)) (IntKind.u64.wrap c) = q * 256 + c := by
  have w (x : Int) (h0 : 0 ≤ x) (h1 : x < 18446744073709551616) : IntKind.u64.wrap x = x := by
    have : IntKind.u64.wrap x = x % 18446744073709551616 := by simp [IntKind.wrap, IntKind.bits, IntKind.signed]
    rw [this]; exact Int.emod_eq_of_lt h0 h1
  rw [w _ (by omega) (by omega), w _ (by omega) (by omega)]
  exact bits_join .u64 64 (by decide) (fun x h0 h1 => w x h0 (by simpa using h1)) 8 _ _ (by omega) (by omega) (by show q * 256 < 18446744073709551616; omega) hc.1 (by show c < 256; omega) (by show c < 18446744073709551616; omega)
theorem getI_be (n : Int) (s : Nat) : ∀ a : Int, 0 ≤ a → a * 2 ^ (8 * s) + n % 2 ^ (8 * s) < 18446744073709551616 → getI a (be n s) = a * 2 ^ (8 * s) + n % 2 ^ (8 * s) := by
  induction s with
  | zero => intro a _ _; simp [be, getI]
  | succ s ih =>
    intro a ha hb
    have hp : (0 : Int) < 2 ^ (8 * s) := Int.pow_pos (by decide)
    have e : (2 : Int) ^ (8 * (s + 1)) = 2 ^ (8 * s) * 256 := by rw [Nat.mul_add, Int.pow_add]; rfl
    rw [e, emod_256 n _ hp] at hb ⊢
    have h3 := Int.emod_nonneg n (Int.ne_of_gt hp)
    have h4 := Int.emod_lt_of_pos n hp
    generalize hP : (2 : Int) ^ (8 * s) = P at *
    show getI (Go.bits .or .u64 (IntKind.u64.wrap (a * 256)) (IntKind.u64.wrap (n / 2 ^ (8 * s) % 256))) (be n s) = _
    rw [hP]
    generalize hq : n / P % 256 = c at *
    have hc : 0 ≤ c ∧ c ≤ 255 := by omega
    have e2 : a * (P * 256) + (n % P + P * c) = (a * 256 + c) * P + n % P := by
      rw [Int.add_mul, Int.mul_comm P 256, ← Int.mul_assoc, Int.mul_comm P c]; omega
    rw [e2] at hb ⊢
    have h0 : 0 ≤ a * 256 + c := by omega
    have h5 : (a * 256 + c) * 1 ≤ (a * 256 + c) * P := Int.mul_le_mul_of_nonneg_left (by omega) h0
    rw [or_byte a c ha hc (by omega)]
    exact ih _ h0 hb
theorem evNow {α : Type} {f : Nat → Option α} {r : α} (hf : ∀ k, f k = some r) : Ev f r := ⟨0, fun k _ => hf k⟩
theorem i64_of {a : Int} (h : (Lit.int .i64 a).wf = true) : -9223372036854775808 ≤ a ∧ a ≤ 9223372036854775807 := by
  have h1 : IntKind.i64.min = -9223372036854775808 := rfl
  have h2 : IntKind.i64.max = 9223372036854775807 := rfl
  simp only [Lit.wf, Bool.and_eq_true, decide_eq_true_eq] at h
  omega
/-! ### Within -/
theorem within_w {n lo hi : Int} (h1 : -2199023255552 ≤ lo) (h2 : lo ≤ hi) (h3 : hi ≤ 2199023255552) (hn : -9223372036854775808 ≤ n ∧ n ≤ 9223372036854775807) : ∃ r, Ev (fun k => marigraphbook_Within.f k n lo hi) r ∧ lo ≤ r ∧ r ≤ hi ∧ (lo ≤ n → n ≤ hi → r = n) := by
  have e1 : wrap64 (wrap64 (hi - lo) + 1) = hi - lo + 1 := by unfold wrap64; omega
  have hj : ∀ b : Bool, (b = true ↔ (lo ≤ n ∧ n ≤ hi)) → ∃ r, (∀ k, marigraphbook_Within.j0 (k + 1) n lo hi b = some r) ∧ lo ≤ r ∧ r ≤ hi ∧ (lo ≤ n → n ≤ hi → r = n) := by
    intro b hb
    simp only [marigraphbook_Within.j0, e1]
    cases b with
    | true =>
      have := hb.1 rfl
      exact ⟨n, fun _ => by rw [if_pos rfl], this.1, this.2, fun _ _ => rfl⟩
    | false =>
      have hno : ¬ (lo ≤ n ∧ n ≤ hi) := fun h => by have := hb.2 h; cases this
      simp only [Bool.false_eq_true, if_false]
      rw [if_neg (by omega)]
      have hm : (0 : Int) < hi - lo + 1 := by omega
      have t1 : Int.tmod n (hi - lo + 1) < hi - lo + 1 := Int.tmod_lt_of_pos _ hm
      have t2 : -(hi - lo + 1) < Int.tmod n (hi - lo + 1) := by
        have := Int.tmod_lt_of_pos (-n) hm
        rw [Int.neg_tmod] at this
        omega
      generalize Int.tmod n (hi - lo + 1) = t at *
      by_cases ht : t < 0
      · rw [if_pos ht]
        have e : wrap64 (lo + wrap64 (wrap64 (wrap64 (t + hi) - lo) + 1)) = t + hi + 1 := by unfold wrap64; omega
        rw [e]
        exact ⟨_, fun _ => rfl, by omega, by omega, fun a b => absurd ⟨a, b⟩ hno⟩
      · rw [if_neg ht]
        have e : wrap64 (lo + t) = lo + t := by unfold wrap64; omega
        rw [e]
        exact ⟨_, fun _ => rfl, by omega, by omega, fun a b => absurd ⟨a, b⟩ hno⟩
  have fin : ∀ b : Bool, (∀ k, marigraphbook_Within.f k n lo hi = marigraphbook_Within.j0 k n lo hi b) → (b = true ↔ (lo ≤ n ∧ n ≤ hi)) → ∃ r, Ev (fun k => marigraphbook_Within.f k n lo hi) r ∧ lo ≤ r ∧ r ≤ hi ∧ (lo ≤ n → n ≤ hi → r = n) := by
    intro b hf hb
    obtain ⟨r, h, hr⟩ := hj b hb
    refine ⟨r, ⟨1, fun k hk => ?_⟩, hr⟩
    obtain ⟨k, rfl⟩ : ∃ m, k = m + 1 := ⟨k - 1, by omega⟩
    show marigraphbook_Within.f (k + 1) n lo hi = some r
    rw [hf]
    exact h k
  by_cases hlo : n ≥ lo
  · refine fin (decide (n ≤ hi)) (fun k => by unfold marigraphbook_Within.f; rw [if_pos hlo]) ?_
    rw [decide_eq_true_iff]
    exact ⟨fun h => ⟨hlo, h⟩, fun h => h.2⟩
  · refine fin false (fun k => by unfold marigraphbook_Within.f; rw [if_neg hlo]) ?_
    constructor
    · intro h; cases h
    · intro h; omega
/-! ### rows' keys -/
theorem put_ev (l : List Int) (n : Int) (s : Nat) (hs : s ≤ 8) (hl : l.length + 8 ≤ 140737488355328) : Ev (fun k => octet_Put.f k l n (s : Int)) (l ++ be n s) := ⟨9, fun k hk => put_tells l n s k hs (by omega) hl⟩
theorem rdT_pre (pre : List S23) (o : S23) (suf : List S23) : rd_T23 (pre ++ o :: suf) (pre.length : Int) = o := by
  unfold rd_T23
  rw [Int.toNat_natCast, List.getD_eq_getElem?_getD, List.getElem?_append_right (Nat.le_refl _), Nat.sub_self]
  rfl
theorem rdI_pre (pre : List Int) (o : Int) (suf : List Int) : rd (pre ++ o :: suf) (pre.length : Int) = o := by
  unfold rd
  rw [Int.toNat_natCast, List.getD_eq_getElem?_getD, List.getElem?_append_right (Nat.le_refl _), Nat.sub_self]
  rfl
theorem rd_mem {l : List Int} {j : Nat} (h : j < l.length) : rd l (j : Int) ∈ l := by
  unfold rd
  rw [Int.toNat_natCast, List.getD_eq_getElem?_getD, List.getElem?_eq_getElem h]
  exact List.getElem_mem h
theorem u64w {x : Int} (h0 : 0 ≤ x) (h1 : x < 18446744073709551616) : IntKind.u64.wrap x = x := by
  rw [IntKind.wrap_u64]
  exact Int.emod_eq_of_lt h0 h1
/-- Tags that may be, behind a key. -/
def Rises : Int → List S23 → Prop
  | _, [] => True
  | b, t :: l => b < t.f0 ∧ (1 ≤ t.f0 ∧ t.f0 ≤ 16777215 ∧ 1 ≤ t.f1 ∧ t.f1 ≤ 16777215) ∧ Rises t.f0 l
structure MayR (m b : Int) (l : List S23) : Prop where
  m : 1 ≤ m ∧ m ≤ 16777215
  b : 0 ≤ b ∧ b ≤ 4294967295 ∧ b % 3600 = 0
  n : 1 ≤ l.length ∧ l.length ≤ 4
  t : Rises 0 l
theorem number_tells {a : Int} (h : 1 ≤ a ∧ a ≤ 16777215) : rowkey_number.f a = some true := by
  unfold rowkey_number.f
  rw [if_pos h.1, decide_eq_true h.2]
theorem right_loop (m b : Int) (l : List S23) (h4 : l.length ≤ 4) : ∀ (suf pre : List S23) (c : Int), l = pre ++ suf → Rises c suf → (pre ≠ [] → (rd_T23 l ((pre.length : Int) - 1)).f0 = c) → Ev (fun k => rowkey_Right.l0 k l (l.length : Int) (pre.length : Int) m b l) true := by
  intro suf
  induction suf with
  | nil =>
    intro pre c e _ _
    rw [List.append_nil] at e
    subst e
    refine Ev.step (f := fun _ => some true) (fun k => ?_) (Ev.now _)
    simp only [rowkey_Right.l0]
    rw [if_neg (Int.lt_irrefl _)]
  | cons o suf ih =>
    intro pre c e hr hp
    have hll : l.length = pre.length + (suf.length + 1) := by rw [e, List.length_append, List.length_cons]
    have hrd : rd_T23 l (pre.length : Int) = o := by rw [e]; exact rdT_pre pre o suf
    have hnext := ih (pre ++ [o]) o.f0 (by rw [e, List.append_assoc]; rfl) hr.2.2 (fun _ => by rw [List.length_append, List.length_singleton, show ((pre.length + 1 : Nat) : Int) - 1 = (pre.length : Int) by omega, hrd])
    have e1 : wrap64 ((pre.length : Int) + 1) = ((pre ++ [o]).length : Int) := by rw [List.length_append, List.length_singleton]; unfold wrap64; omega
    refine Ev.step (fun k => ?_) hnext
    simp only [rowkey_Right.l0]
    rw [if_pos (by omega), if_pos (by omega), if_pos (by omega), hrd, number_tells ⟨hr.2.1.1, hr.2.1.2.1⟩, number_tells hr.2.1.2.2, e1]
    simp only [Option.bind_some, if_true]
    by_cases h0 : pre.length = 0
    · rw [if_neg (by omega)]
    · have hw : wrap64 ((pre.length : Int) - 1) = (pre.length : Int) - 1 := by unfold wrap64; omega
      have hne : pre ≠ [] := fun e0 => h0 (by rw [e0]; rfl)
      rw [if_pos (by omega), hw, if_pos (by omega), if_pos (by omega), hp hne, if_neg (by have := hr.1; omega)]
theorem Right_tells {m b : Int} {l : List S23} (h : MayR m b l) : Ev (fun k => rowkey_Right.f k m b l) true := by
  have hl := right_loop m b l h.n.2 l [] 0 rfl h.t (fun h => absurd rfl h)
  have ht : Int.tmod b 3600 = 0 := by rw [Int.tmod_eq_emod_of_nonneg h.b.1]; exact h.b.2.2
  have h1 := h.b
  have h2 := h.n
  unfold rowkey_Right.f
  simp only [number_tells h.m, Option.bind_some, if_true, if_neg (show ¬ b < 0 by omega), if_neg (show ¬ b > 4294967295 by omega), if_pos ht, if_neg (show ¬ (l.length : Int) < 1 by omega), decide_eq_false (show ¬ (l.length : Int) > 4 by omega)]
  refine Ev.step (fun k => ?_) hl
  simp only [rowkey_Right.j0]
  rw [if_neg (by decide)]
  rfl
/-- Tags as they are written; a whole key. -/
def tg : List S23 → List Int
  | [] => []
  | t :: l => be t.f0 3 ++ (be t.f1 3 ++ tg l)
def key (s m b : Int) (l : List S23) : List Int := [s % 256] ++ (be m 3 ++ (be b 4 ++ ([(l.length : Int) % 256] ++ tg l)))
theorem tg_len (l : List S23) : (tg l).length = 6 * l.length := by
  induction l with
  | nil => rfl
  | cons t l ih => rw [tg, List.length_append, List.length_append, be_len, be_len, ih, List.length_cons]; omega
theorem tg_byt (l : List S23) : Byt (tg l) := by
  induction l with
  | nil => intro x hx; cases hx
  | cons t l ih => exact (be_byt _ _).append ((be_byt _ _).append ih)
theorem one_byt (x : Int) : Byt [x % 256] := by
  intro y hy
  rw [List.mem_singleton] at hy
  omega
theorem key_len (s m b : Int) (l : List S23) : (key s m b l).length = 9 + 6 * l.length := by
  unfold key
  simp only [List.length_append, be_len, tg_len, List.length_singleton]
  omega
theorem key_byt (s m b : Int) (l : List S23) : Byt (key s m b l) := (one_byt _).append ((be_byt _ _).append ((be_byt _ _).append ((one_byt _).append (tg_byt _))))
theorem Prefix_tells (s : Int) {m b : Int} (hm : 0 ≤ m ∧ m ≤ 4294967295) (hb : 0 ≤ b ∧ b ≤ 4294967295) : Ev (fun k => rowkey_Prefix.f k s m b) (([s % 256] ++ be m 3) ++ be b 4) := by
  unfold rowkey_Prefix.f
  rw [u64w hm.1 (by omega), u64w hb.1 (by omega)]
  refine Ev.bind (put_ev _ _ 3 (by decide) (by simp)) ?_
  exact Ev.bind (put_ev _ _ 4 (by decide) (by simp [be_len])) (Ev.now _)
theorem lay_loop (l : List S23) (h4 : l.length ≤ 4) : ∀ (suf pre : List S23) (c : Int) (acc : List Int), l = pre ++ suf → Rises c suf → acc.length ≤ 100 + 6 * pre.length → Ev (fun k => rowkey_lay.l0 k acc l (l.length : Int) (pre.length : Int)) (acc ++ tg suf) := by
  intro suf
  induction suf with
  | nil =>
    intro pre c acc e _ _
    rw [List.append_nil] at e
    subst e
    refine Ev.step (f := fun _ => some (acc ++ tg [])) (fun k => ?_) (Ev.now _)
    simp only [rowkey_lay.l0]
    rw [if_neg (Int.lt_irrefl _), tg, List.append_nil]
  | cons o suf ih =>
    intro pre c acc e hr ha
    have hll : l.length = pre.length + (suf.length + 1) := by rw [e, List.length_append, List.length_cons]
    have hrd : rd_T23 l (pre.length : Int) = o := by rw [e]; exact rdT_pre pre o suf
    have hnext := ih (pre ++ [o]) o.f0 ((acc ++ be o.f0 3) ++ be o.f1 3) (by rw [e, List.append_assoc]; rfl) hr.2.2 (by simp only [List.length_append, be_len, List.length_singleton]; omega)
    have e1 : wrap64 ((pre.length : Int) + 1) = ((pre ++ [o]).length : Int) := by rw [List.length_append, List.length_singleton]; unfold wrap64; omega
    have hv := hr.2.1
    refine Ev.step (f := fun k => (octet_Put.f k acc (IntKind.u64.wrap o.f0) 3).bind fun t143 => ((octet_Put.f k t143 (IntKind.u64.wrap o.f1) 3).bind fun t146 => (rowkey_lay.l0 k t146 l (l.length : Int) ((pre ++ [o]).length : Int)))) (fun k => ?_) ?_
    · simp only [rowkey_lay.l0]
      rw [if_pos (by omega), if_pos (by omega), if_pos (by omega), hrd, e1]
    · rw [u64w (show 0 ≤ o.f0 by omega) (by omega), u64w (show 0 ≤ o.f1 by omega) (by omega)]
      refine Ev.bind (put_ev _ _ 3 (by decide) (by omega)) ?_
      refine Ev.bind (put_ev _ _ 3 (by decide) (by rw [List.length_append, be_len]; omega)) ?_
      rw [show acc ++ tg (o :: suf) = ((acc ++ be o.f0 3) ++ be o.f1 3) ++ tg suf by rw [tg]; simp only [List.append_assoc]]
      exact hnext
theorem lay_tells {m b : Int} {l : List S23} (h : MayR m b l) (s : Int) : Ev (fun k => rowkey_lay.f k s m b l) (key s m b l) := by
  have h1 := h.m
  have h2 := h.b
  have h3 := h.n
  unfold rowkey_lay.f
  refine Ev.bind (Prefix_tells s (by omega) (by omega)) ?_
  simp only [Option.bind_some]
  have hl : ((([s % 256] ++ be m 3) ++ be b 4).length + ([(l.length : Int) % 256] : List Int).length) = 9 := by simp [be_len]
  rw [hl]
  simp only [if_pos (show 9 < 140737488355328 by decide)]
  have := lay_loop l h.n.2 l [] 0 ((([s % 256] ++ be m 3) ++ be b 4) ++ [(l.length : Int) % 256]) rfl h.t (by rw [List.length_append, hl]; decide)
  rw [show key s m b l = ((([s % 256] ++ be m 3) ++ be b 4) ++ [(l.length : Int) % 256]) ++ tg l by unfold key; simp only [List.append_assoc]]
  exact this
def sumI : List Int → Int
  | [] => 0
  | x :: l => x + sumI l
theorem sumI_pos {l : List Int} (h : Byt l) : 0 ≤ sumI l := by
  induction l with
  | nil => exact Int.le_refl _
  | cons x l ih =>
    have := ih h.cons.2
    have := h.cons.1
    rw [sumI]; omega
theorem salt_loop (l : List Int) (hb : Byt l) (hl : l.length ≤ 1000) : ∀ (suf pre : List Int) (a : Int), l = pre ++ suf → 0 ≤ a → a ≤ 255 * pre.length → Ev (fun k => rowkey_Salt.l0 k a l (l.length : Int) (pre.length : Int)) (Int.tmod (a + sumI suf) 4) := by
  intro suf
  induction suf with
  | nil =>
    intro pre a e _ _
    rw [List.append_nil] at e
    subst e
    refine Ev.step (f := fun _ => some (Int.tmod (a + sumI []) 4)) (fun k => ?_) (Ev.now _)
    simp only [rowkey_Salt.l0]
    rw [if_neg (Int.lt_irrefl _), sumI, Int.add_zero]
  | cons o suf ih =>
    intro pre a e h0 h1
    have hll : l.length = pre.length + (suf.length + 1) := by rw [e, List.length_append, List.length_cons]
    have hrd : rd l (pre.length : Int) = o := by rw [e]; exact rdI_pre pre o suf
    have ho : 0 ≤ o ∧ o ≤ 255 := hb o (by rw [e]; simp)
    have hnext := ih (pre ++ [o]) (a + o) (by rw [e, List.append_assoc]; rfl) (by omega) (by rw [List.length_append, List.length_singleton]; omega)
    have e1 : wrap64 ((pre.length : Int) + 1) = ((pre ++ [o]).length : Int) := by rw [List.length_append, List.length_singleton]; unfold wrap64; omega
    have e2 : wrap64 (a + wrap64 o) = a + o := by unfold wrap64; omega
    rw [sumI, ← Int.add_assoc]
    refine Ev.step (fun k => ?_) hnext
    simp only [rowkey_Salt.l0]
    rw [if_pos (by omega), if_pos (by omega), if_pos (by omega), hrd, e1, e2]
def saltI (m b : Int) (l : List S23) : Int := sumI ((key 0 m b l).drop 1) % 4
theorem saltI_in (m b : Int) (l : List S23) : 0 ≤ saltI m b l ∧ saltI m b l ≤ 3 := by unfold saltI; omega
theorem Salt_tells {m b : Int} {l : List S23} (h : MayR m b l) : Ev (fun k => rowkey_Salt.f k m b l) (saltI m b l) := by
  have h3 := h.n
  have hk := key_len 0 m b l
  have hb : Byt ((key 0 m b l).drop 1) := fun x hx => key_byt 0 m b l x (List.mem_of_mem_drop hx)
  unfold rowkey_Salt.f
  refine Ev.bind (Right_tells h) ?_
  simp only [if_true]
  refine Ev.bind (lay_tells h 0) ?_
  simp only [Option.bind_some, if_pos (show 1 ≤ ((key 0 m b l).length : Int) by omega)]
  have := salt_loop ((key 0 m b l).drop 1) hb (by rw [List.length_drop]; omega) ((key 0 m b l).drop 1) [] 0 rfl (Int.le_refl _) (by simp)
  rw [Int.zero_add, Int.tmod_eq_emod_of_nonneg (sumI_pos hb)] at this
  exact this
theorem Encode_tells {m b : Int} {l : List S23} (h : MayR m b l) : Ev (fun k => rowkey_Encode.f k m b l) (key (saltI m b l) m b l, 0) := by
  unfold rowkey_Encode.f
  refine Ev.bind (Right_tells h) ?_
  simp only [if_true]
  refine Ev.bind (Salt_tells h) ?_
  exact Ev.bind (lay_tells h _) (Ev.now _)
theorem same_loop (l : List S23) (h4 : l.length ≤ 1000) : ∀ (suf pre : List S23), l = pre ++ suf → Ev (fun k => api_IDTag.l0 k l l (l.length : Int) (pre.length : Int)) true := by
  intro suf
  induction suf with
  | nil =>
    intro pre e
    rw [List.append_nil] at e
    subst e
    refine Ev.step (f := fun _ => some true) (fun k => ?_) (Ev.now _)
    simp only [api_IDTag.l0]
    rw [if_neg (Int.lt_irrefl _)]
  | cons o suf ih =>
    intro pre e
    have hll : l.length = pre.length + (suf.length + 1) := by rw [e, List.length_append, List.length_cons]
    have hnext := ih (pre ++ [o]) (by rw [e, List.append_assoc]; rfl)
    have e1 : wrap64 ((pre.length : Int) + 1) = ((pre ++ [o]).length : Int) := by rw [List.length_append, List.length_singleton]; unfold wrap64; omega
    refine Ev.step (fun k => ?_) hnext
    simp only [api_IDTag.l0]
    rw [if_pos (by omega), if_pos (by omega), if_pos (by omega), if_pos (by omega), e1, if_neg (by simp)]
theorem Same_tells (m b : Int) (l : List S23) (h4 : l.length ≤ 1000) : Ev (fun k => rowkey_Same.f k m b l m b l) true := by
  unfold rowkey_Same.f api_IDTag.f
  simp only [if_true]
  exact Ev.bind (same_loop l h4 l [] rfl) (Ev.now _)
/-! ### rows as they are drawn -/
def fin (l : List S23) : List S23 := if l.length = 0 then [⟨1, 1⟩] else l
theorem made_loop (l2 : List Int) (hw : ∀ x ∈ l2, (Lit.int .i64 x).wf = true) : ∀ (d i : Nat) (acc : List S23) (c : Int), d = min l2.length 4 - i → acc.length = i → i ≤ 4 → 0 ≤ c → c ≤ 2097152 * i →
    ∃ t, t.length = d ∧ Rises c t ∧ ∀ m b, Ev (fun k => marigraphlaw14_made.l0 k l2 c (i : Int) m b acc) (m, b, fin (acc ++ t)) := by
  intro d
  induction d with
  | zero =>
    intro i acc c hd ha hi hc0 hc1
    refine ⟨[], rfl, trivial, fun m b => ?_⟩
    rw [List.append_nil]
    refine Ev.step (f := fun k => marigraphlaw14_made.j1 k l2 c (i : Int) false m b acc) (fun k => ?_) ?_
    · simp only [marigraphlaw14_made.l0]
      by_cases hl : (i : Int) < (l2.length : Int)
      · rw [if_pos hl, decide_eq_false (by omega)]
      · rw [if_neg hl]
    · refine Ev.step (f := fun _ => some (m, b, fin acc)) (fun k => ?_) (Ev.now _)
      simp only [marigraphlaw14_made.j1]
      rw [if_neg (by decide)]
      unfold fin
      by_cases h0 : acc.length = 0
      · rw [if_pos (by omega), if_pos h0]
      · rw [if_neg (by omega), if_neg h0]
  | succ d ih =>
    intro i acc c hd ha hi hc0 hc1
    have hlt : i < l2.length := by omega
    have hwf := i64_of (hw _ (rd_mem hlt))
    have q0 : d = min l2.length 4 - (i + 1) := by clear hwf ih; omega
    have q1 : i + 1 ≤ 4 := by clear hwf ih; omega
    obtain ⟨t, ht, t1, t2, _⟩ := within_w (n := rd l2 (i : Int)) (lo := 1) (hi := 2097152) (by decide) (by decide) (by decide) hwf
    obtain ⟨v, hv, v1, v2, _⟩ := within_w (n := rd l2 (i : Int)) (lo := 1) (hi := 16777215) (by decide) (by decide) (by decide) hwf
    have e1 : wrap64 (c + t) = c + t := by unfold wrap64; omega
    have e2 : wrap64 ((i : Int) + 1) = ((i + 1 : Nat) : Int) := by unfold wrap64; omega
    have q2 : 0 ≤ c + t := Int.add_nonneg hc0 (Int.le_trans (by decide) t1)
    have q3 : c + t ≤ 2097152 * ((i + 1 : Nat) : Int) := by
      rw [Int.natCast_add, Int.mul_add]
      exact Int.add_le_add hc1 t2
    have q4 : 1 ≤ c + t := Int.add_le_add hc0 t1
    have q5 : c + t ≤ 16777215 := Int.le_trans q3 (Int.le_trans (Int.mul_le_mul_of_nonneg_left (Int.ofNat_le.2 q1) (by decide)) (by decide))
    have q6 : c < c + t := Int.lt_add_of_pos_right c (Int.lt_of_lt_of_le (by decide) t1)
    have q7 : acc.length < 8796093022208 := by rw [ha]; exact Nat.lt_of_le_of_lt hi (by decide)
    obtain ⟨r, hr1, hr2, hr3⟩ := ih (i + 1) (acc ++ [⟨c + t, v⟩]) (c + t) q0 (by rw [List.length_append, ha]; rfl) q1 q2 q3
    refine ⟨⟨c + t, v⟩ :: r, by rw [List.length_cons, hr1], ⟨q6, ⟨q4, q5, v1, v2⟩, hr2⟩, fun m b => ?_⟩
    rw [show acc ++ ⟨c + t, v⟩ :: r = (acc ++ [⟨c + t, v⟩]) ++ r by rw [List.append_assoc]; rfl]
    refine Ev.step (f := fun k => marigraphlaw14_made.j1 k l2 c (i : Int) true m b acc) (fun k => ?_) ?_
    · simp only [marigraphlaw14_made.l0]
      rw [if_pos (Int.ofNat_lt.2 hlt), decide_eq_true (by clear hr3 e1 e2 hr1 hr2; omega)]
    · refine Ev.step (f := fun k => (marigraphbook_Within.f k (rd l2 (i : Int)) 1 2097152).bind fun t204 => ((marigraphbook_Within.f k (rd l2 (i : Int)) 1 16777215).bind fun t206 => (if acc.length < 8796093022208 then (marigraphlaw14_made.l0 k l2 (wrap64 (c + t204)) (wrap64 ((i : Int) + 1)) m b (acc ++ [(⟨wrap64 (c + t204), t206⟩ : S23)])) else (none)))) (fun k => ?_) ?_
      · simp only [marigraphlaw14_made.j1]
        rw [if_pos trivial, if_pos (Int.natCast_nonneg i), if_pos (Int.ofNat_lt.2 hlt)]
      · refine Ev.bind ht (Ev.bind hv ?_)
        simp only [e1, e2, if_pos q7]
        exact hr3 m b
theorem made_tells {a0 : Int} {l2 : List Int} (h0 : (Lit.int .i64 a0).wf = true) (hw : ∀ x ∈ l2, (Lit.int .i64 x).wf = true) : ∃ m t, ∀ a1, (Lit.int .i64 a1).wf = true → ∃ b, MayR m b t ∧ Ev (fun k => marigraphlaw14_made.f k a0 a1 l2) (m, b, t) := by
  obtain ⟨m, hm, m1, m2, _⟩ := within_w (n := a0) (lo := 1) (hi := 16777215) (by decide) (by decide) (by decide) (i64_of h0)
  obtain ⟨t, t1, t2, t3⟩ := made_loop l2 hw _ 0 [] 0 rfl rfl (by decide) (Int.le_refl _) (by decide)
  refine ⟨m, fin t, fun a1 h1 => ?_⟩
  obtain ⟨h, hh, h2, h3, _⟩ := within_w (n := a1) (lo := 0) (hi := 1193046) (by decide) (by decide) (by decide) (i64_of h1)
  have q1 : 0 ≤ h * 3600 ∧ h * 3600 ≤ 4294967295 := by clear hh t1 t2 t3 hm; omega
  refine ⟨h * 3600, ⟨⟨m1, m2⟩, ⟨q1.1, q1.2, Int.mul_emod_left h 3600⟩, ?_, ?_⟩, ?_⟩
  · unfold fin
    split
    · decide
    · omega
  · unfold fin
    split
    · exact ⟨by decide, by decide, trivial⟩
    · exact t2
  · unfold marigraphlaw14_made.f
    refine Ev.bind hm (Ev.bind hh ?_)
    have hw3 : wrap64 (h * 3600) = h * 3600 := by
      clear t1 t2 t3 hm hh
      unfold wrap64
      omega
    simp only [hw3]
    have := t3 m (h * 3600)
    rw [List.nil_append] at this
    exact this
theorem known_ev : Ev (fun k => marigraphlaw14_known.f k) true := Ev.of (fun k => marigraphlaw14_known.mono k) (k := 60) (by decide +kernel)
theorem rput_loop (n : Int) (s : Nat) : ∀ (acc : List Int), s ≤ 8 → acc.length + s ≤ 140737488355328 → Ev (fun k => marigraphref2_Put.l0 k n acc ((s : Int) - 1)) (acc ++ be n s) := by
  induction s with
  | zero =>
    intro acc _ _
    refine Ev.step (f := fun _ => some (acc ++ be n 0)) (fun k => ?_) (Ev.now _)
    simp only [marigraphref2_Put.l0]
    rw [if_neg (by omega)]
    simp [be]
  | succ s ih =>
    intro acc hs hl
    have e : ((s + 1 : Nat) : Int) - 1 = (s : Int) := by omega
    have ew : IntKind.u64.wrap (wrap64 (8 * (s : Int))) = ((8 * s : Nat) : Int) := by rw [wrap_8 s (by omega), IntKind.wrap_u64]; omega
    have e2 : wrap64 ((s : Int) - 1) = (s : Int) - 1 := by unfold wrap64; omega
    have e3 : shr .u64 n ((8 * s : Nat) : Int) = n / 2 ^ (8 * s) := by
      unfold shr
      have hb : IntKind.u64.bits = 64 := rfl
      rw [Int.toNat_natCast, hb, Nat.min_eq_left (by omega)]
    have hi := ih (acc ++ [n / 2 ^ (8 * s) % 256]) (by omega) (by rw [List.length_append, List.length_singleton]; omega)
    rw [List.append_assoc] at hi
    rw [e]
    refine Ev.step (fun k => ?_) hi
    simp only [marigraphref2_Put.l0]
    rw [ew, if_pos (by omega), if_pos (by omega), if_pos (by omega), e2, e3]
theorem rput_tells (l : List Int) (n : Int) (s : Nat) (hs : s ≤ 8) (hl : l.length + 8 ≤ 140737488355328) : Ev (fun k => marigraphref2_Put.f k l n (s : Int)) (l ++ be n s) := by
  have e : mx (mn (s : Int) 8) 0 = (s : Int) := by unfold mx mn; split <;> split <;> omega
  unfold marigraphref2_Put.f
  simp only [Option.bind_some, List.length_nil, Nat.zero_add, List.nil_append, e, if_pos (show l.length < 140737488355328 by omega)]
  exact rput_loop n s l hs (by omega)
/-! ### both tell alike which rows may be -/
theorem num_in {a : Int} (h : 1 ≤ a ∧ a ≤ 16777215) : rowkey_number.f a = some true ∧ marigraphref14_id.f a = some true := by
  unfold rowkey_number.f marigraphref14_id.f
  rw [if_pos h.1, decide_eq_true h.2]
  exact ⟨rfl, rfl⟩
theorem num_out {a : Int} (h : ¬ (1 ≤ a ∧ a ≤ 16777215)) : rowkey_number.f a = some false ∧ marigraphref14_id.f a = some false := by
  unfold rowkey_number.f marigraphref14_id.f
  by_cases h1 : a ≥ 1
  · rw [if_pos h1, decide_eq_false (by omega)]
    exact ⟨rfl, rfl⟩
  · rw [if_neg h1]
    exact ⟨rfl, rfl⟩
theorem right_both (m b : Int) (l : List S23) (h4 : l.length ≤ 4) : ∀ (suf pre : List S23) (c : Int), l = pre ++ suf → (pre ≠ [] → (rd_T23 l ((pre.length : Int) - 1)).f0 = c) → (pre = [] → c ≤ 0) →
    ∃ r, Ev (fun k => rowkey_Right.l0 k l (l.length : Int) (pre.length : Int) m b l) r ∧ Ev (fun k => marigraphref14_Right.l0 k (pre.length : Int) m b l) r ∧ (r = true → Rises c suf) := by
  intro suf
  induction suf with
  | nil =>
    intro pre c e _ _
    rw [List.append_nil] at e
    subst e
    refine ⟨true, Ev.step (f := fun _ => some true) (fun k => ?_) (Ev.now _), Ev.step (f := fun _ => some true) (fun k => ?_) (Ev.now _), fun _ => trivial⟩
    · simp only [rowkey_Right.l0]
      rw [if_neg (Int.lt_irrefl _)]
    · simp only [marigraphref14_Right.l0]
      rw [if_neg (Int.lt_irrefl _)]
  | cons o suf ih =>
    intro pre c e hp hn
    have hll : l.length = pre.length + (suf.length + 1) := by rw [e, List.length_append, List.length_cons]
    have hrd : rd_T23 l (pre.length : Int) = o := by rw [e]; exact rdT_pre pre o suf
    have e1 : wrap64 ((pre.length : Int) + 1) = ((pre ++ [o]).length : Int) := by rw [List.length_append, List.length_singleton]; unfold wrap64; omega
    obtain ⟨r, i1, i2, i3⟩ := ih (pre ++ [o]) o.f0 (by rw [e, List.append_assoc]; rfl) (fun _ => by rw [List.length_append, List.length_singleton, show ((pre.length + 1 : Nat) : Int) - 1 = (pre.length : Int) by omega, hrd]) (fun h => by simp at h)
    by_cases v0 : 1 ≤ o.f0 ∧ o.f0 ≤ 16777215
    · by_cases v1 : 1 ≤ o.f1 ∧ o.f1 ≤ 16777215
      · by_cases h0 : pre.length = 0
        · refine ⟨r, Ev.step (fun k => ?_) i1, Ev.step (fun k => ?_) i2, fun hr => ⟨by have := hn (List.eq_nil_of_length_eq_zero h0); omega, ⟨v0.1, v0.2, v1.1, v1.2⟩, i3 hr⟩⟩
          · simp only [rowkey_Right.l0]
            rw [if_pos (by omega), if_pos (by omega), if_pos (by omega), hrd, (num_in v0).1, (num_in v1).1, e1]
            simp only [Option.bind_some, if_true]
            rw [if_neg (by omega)]
          · simp only [marigraphref14_Right.l0]
            rw [if_pos (by omega), if_pos (by omega), hrd, (num_in v0).2, (num_in v1).2, e1]
            simp only [Option.bind_some, if_true]
            rw [if_neg (by omega)]
        · have hw : wrap64 ((pre.length : Int) - 1) = (pre.length : Int) - 1 := by unfold wrap64; omega
          have hne : pre ≠ [] := fun e0 => h0 (by rw [e0]; rfl)
          by_cases hc : c ≥ o.f0
          · refine ⟨false, Ev.step (f := fun _ => some false) (fun k => ?_) (Ev.now _), Ev.step (f := fun _ => some false) (fun k => ?_) (Ev.now _), fun h => by cases h⟩
            · simp only [rowkey_Right.l0]
              rw [if_pos (by omega), if_pos (by omega), if_pos (by omega), hrd, (num_in v0).1, (num_in v1).1]
              simp only [Option.bind_some, if_true]
              rw [if_pos (by omega), hw, if_pos (by omega), if_pos (by omega), hp hne, if_pos hc]
            · simp only [marigraphref14_Right.l0]
              rw [if_pos (by omega), if_pos (by omega), hrd, (num_in v0).2, (num_in v1).2]
              simp only [Option.bind_some, if_true]
              rw [if_pos (by omega), hw, if_pos (by omega), if_pos (by omega), hp hne, if_pos hc]
          · refine ⟨r, Ev.step (fun k => ?_) i1, Ev.step (fun k => ?_) i2, fun hr => ⟨by omega, ⟨v0.1, v0.2, v1.1, v1.2⟩, i3 hr⟩⟩
            · simp only [rowkey_Right.l0]
              rw [if_pos (by omega), if_pos (by omega), if_pos (by omega), hrd, (num_in v0).1, (num_in v1).1, e1]
              simp only [Option.bind_some, if_true]
              rw [if_pos (by omega), hw, if_pos (by omega), if_pos (by omega), hp hne, if_neg hc]
            · simp only [marigraphref14_Right.l0]
              rw [if_pos (by omega), if_pos (by omega), hrd, (num_in v0).2, (num_in v1).2, e1]
              simp only [Option.bind_some, if_true]
              rw [if_pos (by omega), hw, if_pos (by omega), if_pos (by omega), hp hne, if_neg hc]
      · refine ⟨false, Ev.step (f := fun _ => some false) (fun k => ?_) (Ev.now _), Ev.step (f := fun _ => some false) (fun k => ?_) (Ev.now _), fun h => by cases h⟩
        · simp only [rowkey_Right.l0]
          rw [if_pos (by omega), if_pos (by omega), if_pos (by omega), hrd, (num_in v0).1, (num_out v1).1]
          simp only [Option.bind_some, if_true, Bool.false_eq_true, if_false]
        · simp only [marigraphref14_Right.l0]
          rw [if_pos (by omega), if_pos (by omega), hrd, (num_in v0).2, (num_out v1).2]
          simp only [Option.bind_some, if_true, Bool.false_eq_true, if_false]
    · refine ⟨false, Ev.step (f := fun _ => some false) (fun k => ?_) (Ev.now _), Ev.step (f := fun _ => some false) (fun k => ?_) (Ev.now _), fun h => by cases h⟩
      · simp only [rowkey_Right.l0]
        rw [if_pos (by omega), if_pos (by omega), if_pos (by omega), hrd, (num_out v0).1]
        simp only [Option.bind_some, Bool.false_eq_true, if_false]
      · simp only [marigraphref14_Right.l0]
        rw [if_pos (by omega), if_pos (by omega), hrd, (num_out v0).2]
        simp only [Option.bind_some, Bool.false_eq_true, if_false]
theorem Right_both (m b : Int) (l : List S23) : ∃ r, Ev (fun k => rowkey_Right.f k m b l) r ∧ Ev (fun k => marigraphref14_Right.f k m b l) r ∧ (r = true → MayR m b l) := by
  have no : Ev (fun k => rowkey_Right.j0 k true m b l) false ∧ Ev (fun k => marigraphref14_Right.j0 k true m b l) false :=
    ⟨Ev.step (f := fun _ => some false) (fun k => by simp only [rowkey_Right.j0, if_true]) (Ev.now _), Ev.step (f := fun _ => some false) (fun k => by simp only [marigraphref14_Right.j0, if_true]) (Ev.now _)⟩
  unfold rowkey_Right.f marigraphref14_Right.f
  by_cases v0 : 1 ≤ m ∧ m ≤ 16777215
  · simp only [(num_in v0).1, (num_in v0).2, Option.bind_some, if_true]
    by_cases c1 : b < 0
    · simp only [if_pos c1]
      exact ⟨false, no.1, no.2, fun h => by cases h⟩
    by_cases c2 : b > 4294967295
    · simp only [if_neg c1, if_pos c2]
      exact ⟨false, no.1, no.2, fun h => by cases h⟩
    by_cases c3 : Int.tmod b 3600 = 0
    · simp only [if_neg c1, if_neg c2, if_pos c3]
      by_cases c4 : (l.length : Int) < 1
      · simp only [if_pos c4]
        exact ⟨false, no.1, no.2, fun h => by cases h⟩
      by_cases c5 : (l.length : Int) > 4
      · simp only [if_neg c4, decide_eq_true c5]
        exact ⟨false, no.1, no.2, fun h => by cases h⟩
      simp only [if_neg c4, decide_eq_false c5]
      obtain ⟨r, i1, i2, i3⟩ := right_both m b l (by omega) l [] 0 rfl (fun h => absurd rfl h) (fun _ => Int.le_refl _)
      refine ⟨r, Ev.step (fun k => by simp only [rowkey_Right.j0, Bool.false_eq_true, if_false]; rfl) i1, Ev.step (fun k => by simp only [marigraphref14_Right.j0, Bool.false_eq_true, if_false]; rfl) i2, fun hr => ⟨v0, ⟨by omega, by omega, ?_⟩, by omega, i3 hr⟩⟩
      rw [← Int.tmod_eq_emod_of_nonneg (by omega)]
      exact c3
    · simp only [if_neg c1, if_neg c2, if_neg c3]
      exact ⟨false, no.1, no.2, fun h => by cases h⟩
  · simp only [(num_out v0).1, (num_out v0).2, Option.bind_some, Bool.false_eq_true, if_false]
    exact ⟨false, no.1, no.2, fun h => by cases h⟩
/-! ### the document's Encode and Same -/
theorem rput_ev (l : List Int) (n : Int) (s : Nat) (hs : s ≤ 8) (hl : l.length + 8 ≤ 140737488355328) : Ev (fun k => marigraphref2_Put.f k l n (s : Int)) (l ++ be n s) := rput_tells l n s hs hl
theorem renc_sum (l : List Int) (hb : Byt l) (hl : l.length ≤ 1000) : ∀ (suf pre : List Int) (a : Int), l = pre ++ suf → 0 ≤ a → a ≤ 255 * pre.length → Ev (fun k => marigraphref14_Encode.l1 k l a (pre.length : Int)) ([Int.tmod (a + sumI suf) 4 % 256] ++ l) := by
  intro suf
  induction suf with
  | nil =>
    intro pre a e _ _
    rw [List.append_nil] at e
    subst e
    refine Ev.step (f := fun _ => some ([Int.tmod (a + sumI []) 4 % 256] ++ l)) (fun k => ?_) (Ev.now _)
    simp only [marigraphref14_Encode.l1]
    rw [if_neg (Int.lt_irrefl _)]
    simp only [Option.bind_some]
    rw [if_pos (by simp; omega), sumI, Int.add_zero]
  | cons o suf ih =>
    intro pre a e h0 h1
    have hll : l.length = pre.length + (suf.length + 1) := by rw [e, List.length_append, List.length_cons]
    have hrd : rd l (pre.length : Int) = o := by rw [e]; exact rdI_pre pre o suf
    have ho : 0 ≤ o ∧ o ≤ 255 := hb o (by rw [e]; simp)
    have hnext := ih (pre ++ [o]) (a + o) (by rw [e, List.append_assoc]; rfl) (by omega) (by rw [List.length_append, List.length_singleton]; omega)
    have e1 : wrap64 ((pre.length : Int) + 1) = ((pre ++ [o]).length : Int) := by rw [List.length_append, List.length_singleton]; unfold wrap64; omega
    have e2 : wrap64 (a + wrap64 o) = a + o := by unfold wrap64; omega
    rw [sumI, ← Int.add_assoc]
    refine Ev.step (fun k => ?_) hnext
    simp only [marigraphref14_Encode.l1]
    rw [if_pos (by omega), if_pos (by omega), hrd, e1, e2]
theorem renc_loop (m b : Int) (l : List S23) (h4 : l.length ≤ 4) : ∀ (suf pre : List S23) (c : Int) (acc : List Int), l = pre ++ suf → Rises c suf → acc.length ≤ 100 + 6 * pre.length → Byt acc → Ev (fun k => marigraphref14_Encode.l0 k acc (pre.length : Int) m b l) ([Int.tmod (sumI (acc ++ tg suf)) 4 % 256] ++ (acc ++ tg suf)) := by
  intro suf
  induction suf with
  | nil =>
    intro pre c acc e _ ha hb
    rw [List.append_nil] at e
    subst e
    have h := renc_sum acc hb (by omega) acc [] 0 rfl (Int.le_refl _) (by simp)
    rw [Int.zero_add] at h
    rw [tg, List.append_nil]
    refine Ev.step (fun k => ?_) h
    simp only [marigraphref14_Encode.l0]
    rw [if_neg (Int.lt_irrefl _)]
    rfl
  | cons o suf ih =>
    intro pre c acc e hr ha hb
    have hll : l.length = pre.length + (suf.length + 1) := by rw [e, List.length_append, List.length_cons]
    have hrd : rd_T23 l (pre.length : Int) = o := by rw [e]; exact rdT_pre pre o suf
    have hnext := ih (pre ++ [o]) o.f0 ((acc ++ be o.f0 3) ++ be o.f1 3) (by rw [e, List.append_assoc]; rfl) hr.2.2 (by simp only [List.length_append, be_len, List.length_singleton]; omega) ((hb.append (be_byt _ _)).append (be_byt _ _))
    have e1 : wrap64 ((pre.length : Int) + 1) = ((pre ++ [o]).length : Int) := by rw [List.length_append, List.length_singleton]; unfold wrap64; omega
    have hv := hr.2.1
    rw [show acc ++ tg (o :: suf) = ((acc ++ be o.f0 3) ++ be o.f1 3) ++ tg suf by rw [tg]; simp only [List.append_assoc]]
    refine Ev.step (f := fun k => (marigraphref2_Put.f k acc (IntKind.u64.wrap o.f0) 3).bind fun t143 => ((marigraphref2_Put.f k t143 (IntKind.u64.wrap o.f1) 3).bind fun t146 => (marigraphref14_Encode.l0 k t146 ((pre ++ [o]).length : Int) m b l))) (fun k => ?_) ?_
    · simp only [marigraphref14_Encode.l0]
      rw [if_pos (by omega), if_pos (by omega), hrd, e1]
    · rw [u64w (show 0 ≤ o.f0 by omega) (by omega), u64w (show 0 ≤ o.f1 by omega) (by omega)]
      refine Ev.bind (rput_ev _ _ 3 (by decide) (by omega)) ?_
      exact Ev.bind (rput_ev _ _ 3 (by decide) (by rw [List.length_append, be_len]; omega)) hnext
theorem REncode_tells {m b : Int} {l : List S23} (h : MayR m b l) : Ev (fun k => marigraphref14_Encode.f k m b l) (key (saltI m b l) m b l) := by
  have h1 := h.m
  have h2 := h.b
  have h3 := h.n
  have hs := saltI_in m b l
  have hb := key_byt 0 m b l
  unfold marigraphref14_Encode.f
  rw [u64w (show 0 ≤ m by omega) (by omega), u64w h2.1 (by omega)]
  refine Ev.bind (rput_ev [] m 3 (by decide) (by simp)) (Ev.bind (rput_ev _ b 4 (by decide) (by simp [be_len])) ?_)
  have hl : (([] ++ be m 3) ++ be b 4).length = 7 := by simp [be_len]
  simp only [if_pos (show (([] ++ be m 3) ++ be b 4).length < 140737488355328 by omega)]
  have hk : key 0 m b l = [0 % 256] ++ ((((([] ++ be m 3) ++ be b 4) ++ [(l.length : Int) % 256])) ++ tg l) := by unfold key; simp only [List.append_assoc, List.nil_append]
  have ht : (key 0 m b l).drop 1 = ((([] ++ be m 3) ++ be b 4) ++ [(l.length : Int) % 256]) ++ tg l := by rw [hk]; rfl
  have hbt : Byt ((([] ++ be m 3) ++ be b 4) ++ [(l.length : Int) % 256]) := by
    rw [List.nil_append]
    exact ((be_byt _ _).append (be_byt _ _)).append (one_byt _)
  have hloop := renc_loop m b l h.n.2 l [] 0 ((([] ++ be m 3) ++ be b 4) ++ [(l.length : Int) % 256]) rfl h.t (by rw [List.length_append, hl, List.length_singleton]; omega) hbt
  have hbx : Byt ((key 0 m b l).drop 1) := fun x hx => hb x (List.mem_of_mem_drop hx)
  have hsum : Int.tmod (sumI (((([] ++ be m 3) ++ be b 4) ++ [(l.length : Int) % 256]) ++ tg l)) 4 = saltI m b l := by
    rw [← ht, Int.tmod_eq_emod_of_nonneg (sumI_pos hbx)]
    rfl
  rw [hsum] at hloop
  have hkey : key (saltI m b l) m b l = [saltI m b l % 256] ++ (((([] ++ be m 3) ++ be b 4) ++ [(l.length : Int) % 256]) ++ tg l) := by unfold key; simp only [List.append_assoc, List.nil_append]
  rw [hkey]
  exact hloop
theorem rsame_loop (m b : Int) (l : List S23) (h4 : l.length ≤ 1000) : ∀ (suf pre : List S23), l = pre ++ suf → Ev (fun k => marigraphref14_Same.l0 k (pre.length : Int) m b l m b l) true := by
  intro suf
  induction suf with
  | nil =>
    intro pre e
    rw [List.append_nil] at e
    subst e
    refine Ev.step (f := fun _ => some true) (fun k => ?_) (Ev.now _)
    simp only [marigraphref14_Same.l0]
    rw [if_neg (Int.lt_irrefl _)]
  | cons o suf ih =>
    intro pre e
    have hll : l.length = pre.length + (suf.length + 1) := by rw [e, List.length_append, List.length_cons]
    have hnext := ih (pre ++ [o]) (by rw [e, List.append_assoc]; rfl)
    have e1 : wrap64 ((pre.length : Int) + 1) = ((pre ++ [o]).length : Int) := by rw [List.length_append, List.length_singleton]; unfold wrap64; omega
    refine Ev.step (fun k => ?_) hnext
    simp only [marigraphref14_Same.l0]
    rw [if_pos (by omega), if_pos (by omega), if_pos (by omega), e1, if_neg (by simp)]
theorem RSame_tells (m b : Int) (l : List S23) (h4 : l.length ≤ 1000) : Ev (fun k => marigraphref14_Same.f k m b l m b l) true := by
  unfold marigraphref14_Same.f
  simp only [if_true]
  refine Ev.step (fun k => ?_) (rsame_loop m b l h4 l [] rfl)
  simp only [marigraphref14_Same.j0]
  rw [if_neg (by simp)]
  rfl
/-! ### encodes: of any row -/
theorem encodes_tells (m b : Int) (l : List S23) : Ev (fun k => marigraphlaw14_encodes.f k m b l) true := by
  obtain ⟨r, i1, i2, i3⟩ := Right_both m b l
  unfold marigraphlaw14_encodes.f
  cases r with
  | true =>
    have h := i3 rfl
    have hk := key_len (saltI m b l) m b l
    have hs := saltI_in m b l
    refine Ev.bind (Encode_tells h) (Ev.bind i1 (Ev.bind i2 (Ev.bind (Salt_tells h) ?_)))
    simp only [and_self, if_true]
    unfold encRight
    have hr0 : rd (key (saltI m b l) m b l) 0 = saltI m b l := by
      show saltI m b l % 256 = saltI m b l
      omega
    have hw : wrap64 (saltI m b l) = saltI m b l := by unfold wrap64; omega
    refine Ev.bind (REncode_tells h) ?_
    simp only [hr0, hw]
    refine Ev.bind (Prefix_tells (saltI m b l) (by have := h.m; omega) (by have := h.b; omega)) (Ev.bind (Same_tells m b l (by have := h.n; omega)) ?_)
    have ht : (key (saltI m b l) m b l).take 8 = ([saltI m b l % 256] ++ be m 3) ++ be b 4 := by
      have e : key (saltI m b l) m b l = (([saltI m b l % 256] ++ be m 3) ++ be b 4) ++ ([(l.length : Int) % 256] ++ tg l) := by unfold key; simp only [List.append_assoc]
      rw [e]
      exact List.take_left' (by simp [be_len])
    rw [ht]
    refine evNow fun k => if_pos (by refine ⟨?_, ?_, ?_, ?_, ?_, ?_⟩ <;> first | trivial | rfl | omega)
  | false =>
    refine Ev.bind (a := ([], 1)) ?_ (Ev.bind i1 (Ev.bind i2 (Ev.bind (a := 0) ?_ ?_)))
    · unfold rowkey_Encode.f
      refine Ev.bind i1 ?_
      exact evNow fun k => by simp
    · unfold rowkey_Salt.f
      refine Ev.bind i1 ?_
      exact evNow fun k => by simp
    · exact evNow fun k => by simp
/-! ### decodes: of any bytes -/
theorem num1_rd {l : List Int} (hb : Byt l) (h : 1 ≤ l.length) : ∃ n : Nat, n ≤ 255 ∧ wrap64 (getI 0 (l.take 1)) = (n : Int) := by
  cases l with
  | nil => simp at h
  | cons x l =>
    have hx := hb.cons.1
    refine ⟨x.toNat, by omega, ?_⟩
    rw [List.take_succ_cons, List.take_zero]
    have e : [x] = be x 1 := by simp [be]; omega
    rw [e, getI_be x 1 0 (Int.le_refl _) (by rw [show (2 : Int) ^ (8 * 1) = 256 from rfl]; omega), show (2 : Int) ^ (8 * 1) = 256 from rfl]
    unfold wrap64
    omega
theorem rNum_bad {s : Nat} (h : 1 ≤ s) : rNum s ([], true) = (0, ([], true)) := by
  unfold rNum
  rw [if_pos (by simp; omega)]
theorem rNum_less {s : Nat} {q : List Int} {f : Bool} (h : q.length < s) : rNum s (q, f) = (0, ([], true)) := by
  unfold rNum
  rw [if_pos h]
theorem rNum_has {s : Nat} {q : List Int} {f : Bool} (h : s ≤ q.length) : rNum s (q, f) = (num s q, (q.drop s, f)) := by
  unfold rNum num
  rw [if_neg (by simp; omega)]
theorem rfTags_bad : ∀ (n : Nat) (acc : List S23), (rfTags n ([], true) acc).2.2 = true
  | 0, _ => rfl
  | n + 1, acc => by
    rw [rfTags, rNum_bad (by decide)]
    simp only [rNum_bad (show 1 ≤ 3 by decide)]
    exact rfTags_bad n _
/-- The tags that both read. -/
def tagsOf : Nat → List Int → List S23
  | 0, _ => []
  | n + 1, q => ⟨num 3 q, num 3 (q.drop 3)⟩ :: tagsOf n (q.drop 6)
theorem tagsOf_len : ∀ (n : Nat) (q : List Int), (tagsOf n q).length = n
  | 0, _ => rfl
  | n + 1, q => by rw [tagsOf, List.length_cons, tagsOf_len n]
theorem drop33 (q : List Int) : (q.drop 3).drop 3 = q.drop 6 := by rw [List.drop_drop]
theorem rkTags_all : ∀ (n : Nat) (q : List Int) (acc : List S23), 6 * n ≤ q.length → rkTags n q acc = some (acc ++ tagsOf n q, q.drop (6 * n))
  | 0, q, acc, _ => by rw [rkTags, tagsOf, List.append_nil]; rfl
  | n + 1, q, acc, h => by
    rw [rkTags, if_neg (by omega), if_neg (by rw [List.length_drop]; omega), drop33, rkTags_all n _ _ (by rw [List.length_drop]; omega), tagsOf, List.append_assoc, List.drop_drop, show 6 + 6 * n = 6 * (n + 1) by omega]
    rfl
theorem rkTags_not : ∀ (n : Nat) (q : List Int) (acc : List S23), q.length < 6 * n → rkTags n q acc = none
  | 0, q, acc, h => by omega
  | n + 1, q, acc, h => by
    rw [rkTags]
    by_cases h1 : q.length < 3
    · rw [if_pos h1]
    · rw [if_neg h1]
      by_cases h2 : (q.drop 3).length < 3
      · rw [if_pos h2]
      · rw [if_neg h2, drop33]
        rw [List.length_drop] at h2
        exact rkTags_not n _ _ (by rw [List.length_drop]; omega)
theorem rfTags_all : ∀ (n : Nat) (q : List Int) (acc : List S23), 6 * n ≤ q.length → rfTags n (q, false) acc = (acc ++ tagsOf n q, (q.drop (6 * n), false))
  | 0, q, acc, _ => by rw [rfTags, tagsOf, List.append_nil]; rfl
  | n + 1, q, acc, h => by
    have e1 : rNum 3 (q, false) = (num 3 q, (q.drop 3, false)) := rNum_has (by omega)
    have e2 : rNum 3 (q.drop 3, false) = (num 3 (q.drop 3), (q.drop 6, false)) := by rw [rNum_has (by rw [List.length_drop]; omega), drop33]
    rw [rfTags, e1]
    simp only [e2]
    rw [rfTags_all n _ _ (by rw [List.length_drop]; omega), tagsOf, List.append_assoc, List.drop_drop, show 6 + 6 * n = 6 * (n + 1) by omega]
    rfl
theorem rfTags_not : ∀ (n : Nat) (q : List Int) (acc : List S23), q.length < 6 * n → (rfTags n (q, false) acc).2.2 = true
  | 0, q, acc, h => by omega
  | n + 1, q, acc, h => by
    rw [rfTags]
    by_cases h1 : q.length < 3
    · simp only [rNum_less h1, rNum_bad (show 1 ≤ 3 by decide)]
      exact rfTags_bad n _
    · have e1 : rNum 3 (q, false) = (num 3 q, (q.drop 3, false)) := rNum_has (by omega)
      simp only [e1]
      by_cases h2 : (q.drop 3).length < 3
      · simp only [rNum_less h2]
        exact rfTags_bad n _
      · rw [List.length_drop] at h2
        have e2 : rNum 3 (q.drop 3, false) = (num 3 (q.drop 3), (q.drop 6, false)) := by rw [rNum_has (by rw [List.length_drop]; omega), drop33]
        simp only [e2]
        exact rfTags_not n _ _ (by rw [List.length_drop]; omega)
theorem rsame_bad : Ev (fun k => marigraphref14_Same.f k 0 0 [] 0 0 []) true := RSame_tells 0 0 [] (by decide)
/-- Neither has read a row: both tell so. -/
theorem decodes_none {l : List Int} (h1 : Ev (fun k => rowkey_Decode.f k l) (0, 0, [], 0, 12)) (h2 : Ev (fun k => marigraphref14_Decode.f k l) rfBad) : Ev (fun k => marigraphlaw14_decodes.f k l) true := by
  unfold marigraphlaw14_decodes.f
  refine Ev.bind h1 (Ev.bind h2 ?_)
  unfold rfBad
  simp only [show (((12 : Int) == 0) == false) = true from rfl, if_true, Bool.false_eq_true, if_false]
  exact Ev.bind rsame_bad (Ev.now _)
theorem dec_bad {l : List Int} (hl : l.length ≤ 100000) (h : rkRead l = rkBad) : Ev (fun k => rowkey_Decode.f k l) (0, 0, [], 0, 12) := by
  unfold rowkey_Decode.f rowkey_read.f
  rw [if_pos (by omega), h]
  unfold rkBad
  exact evNow fun k => by simp
theorem decodes_tells {l : List Int} (hb : Byt l) (hl : l.length ≤ 100000) : Ev (fun k => marigraphlaw14_decodes.f k l) true := by
  have b3 : rNum 3 (([] : List Int), true) = (0, ([], true)) := rNum_bad (by decide)
  have b4 : rNum 4 (([] : List Int), true) = (0, ([], true)) := rNum_bad (by decide)
  have b1 : rNum 1 (([] : List Int), true) = (0, ([], true)) := rNum_bad (by decide)
  have bad : rNum 1 (rNum 4 (rNum 3 (rNum 1 (l, false)).2).2).2 = (0, ([], true)) → Ev (fun k => marigraphref14_Decode.f k l) rfBad := fun h => by
    unfold marigraphref14_Decode.f
    rw [h]
    refine evNow fun k => ?_
    rw [if_neg (by decide), if_pos (by decide), if_pos (by exact rfTags_bad _ _)]
  by_cases h0 : l.length < 1
  · refine decodes_none (dec_bad hl (by unfold rkRead; rw [if_pos h0])) (bad ?_)
    rw [rNum_less h0]
    simp only [b3, b4, b1]
  have e0 : rNum 1 (l, false) = (num 1 l, (l.drop 1, false)) := rNum_has (by omega)
  by_cases h1 : (l.drop 1).length < 3
  · refine decodes_none (dec_bad hl (by unfold rkRead; rw [if_neg h0, if_pos h1])) (bad ?_)
    rw [e0]
    simp only [rNum_less h1, b4, b1]
  have e1 : rNum 3 (l.drop 1, false) = (num 3 (l.drop 1), ((l.drop 1).drop 3, false)) := rNum_has (by omega)
  by_cases h2 : ((l.drop 1).drop 3).length < 4
  · refine decodes_none (dec_bad hl (by unfold rkRead; rw [if_neg h0, if_neg h1, if_pos h2])) (bad ?_)
    rw [e0]
    simp only [e1, rNum_less h2, b1]
  have e2 : rNum 4 ((l.drop 1).drop 3, false) = (num 4 ((l.drop 1).drop 3), (((l.drop 1).drop 3).drop 4, false)) := rNum_has (by omega)
  by_cases h3 : (((l.drop 1).drop 3).drop 4).length < 1
  · refine decodes_none (dec_bad hl (by unfold rkRead; rw [if_neg h0, if_neg h1, if_neg h2, if_pos h3])) (bad ?_)
    rw [e0]
    simp only [e1, e2, rNum_less h3]
  have e3 : rNum 1 (((l.drop 1).drop 3).drop 4, false) = (num 1 (((l.drop 1).drop 3).drop 4), ((((l.drop 1).drop 3).drop 4).drop 1, false)) := rNum_has (by omega)
  have hnone : rkTags (num 1 (((l.drop 1).drop 3).drop 4)).toNat ((((l.drop 1).drop 3).drop 4).drop 1) [] = none → rkRead l = rkBad := fun h => by
    unfold rkRead
    rw [if_neg h0, if_neg h1, if_neg h2, if_neg h3, h]
  have hsome : ∀ t q, rkTags (num 1 (((l.drop 1).drop 3).drop 4)).toNat ((((l.drop 1).drop 3).drop 4).drop 1) [] = some (t, q) → rkRead l = (num 3 (l.drop 1), num 4 ((l.drop 1).drop 3), t, (q.length : Int), true) := fun t q h => by
    unfold rkRead
    rw [if_neg h0, if_neg h1, if_neg h2, if_neg h3, h]
  have hbq : Byt (((l.drop 1).drop 3).drop 4) := fun x hx => hb x (List.mem_of_mem_drop (List.mem_of_mem_drop (List.mem_of_mem_drop hx)))
  obtain ⟨n, hn, en⟩ := num1_rd hbq (by omega)
  change num 1 (((l.drop 1).drop 3).drop 4) = (n : Int) at en
  have hlen : ((((l.drop 1).drop 3).drop 4).drop 1).length = l.length - 9 := by simp only [List.length_drop]; omega
  have hl9 : 9 ≤ l.length := by simp only [List.length_drop] at h1 h2 h3; omega
  generalize num 3 (l.drop 1) = m at e1 hsome
  generalize num 4 ((l.drop 1).drop 3) = b at e2 hsome
  generalize ((((l.drop 1).drop 3).drop 4).drop 1) = q at e3 hsome hnone hlen
  rw [en] at e3 hsome hnone
  rw [Int.toNat_natCast] at hsome hnone
  have href : rNum 1 (rNum 4 (rNum 3 (rNum 1 (l, false)).2).2).2 = ((n : Int), (q, false)) := by rw [e0]; simp only [e1, e2, e3]
  have href1 : (rNum 3 (rNum 1 (l, false)).2).1 = m := by rw [e0]; simp only [e1]
  have href2 : (rNum 4 (rNum 3 (rNum 1 (l, false)).2).2).1 = b := by rw [e0]; simp only [e1, e2]
  obtain ⟨r, i1, i2, i3⟩ := Right_both m b (tagsOf n q)
  have refuse : r = false → 6 * n ≤ q.length → Ev (fun k => rowkey_Decode.f k l) (0, 0, [], 0, 12) := fun hr h => by
    have hread := hsome _ _ (rkTags_all n q [] h)
    rw [List.nil_append] at hread
    unfold rowkey_Decode.f rowkey_read.f
    rw [if_pos (by omega), hread]
    simp only [Option.bind_some, if_true]
    refine Ev.bind i1 ?_
    subst hr
    exact evNow fun k => by simp
  by_cases h4 : (n : Int) > 4
  · have hb2 : Ev (fun k => marigraphref14_Decode.f k l) rfBad := by
      unfold marigraphref14_Decode.f
      rw [href]
      exact evNow fun k => by rw [if_pos h4]
    by_cases h6 : 6 * n ≤ q.length
    · have hr : r = false := by
        cases r with
        | false => rfl
        | true => have := (i3 rfl).n.2; rw [tagsOf_len] at this; omega
      exact decodes_none (refuse hr h6) hb2
    · exact decodes_none (dec_bad hl (hnone (rkTags_not n q [] (by omega)))) hb2
  by_cases h6 : 6 * n ≤ q.length
  · have hdec : ∀ x, (if r = true then x = (m, b, tagsOf n q, 9 + 6 * (n : Int), true) else x = rfBad) → Ev (fun k => marigraphref14_Decode.f k l) x := fun x hx => by
      unfold marigraphref14_Decode.f
      rw [href, href1, href2]
      simp only [Int.toNat_natCast, rfTags_all n q [] h6, List.nil_append, if_neg h4, if_pos (Int.natCast_nonneg n), Bool.false_eq_true, if_false]
      refine Ev.bind i2 ?_
      cases r with
      | true => rw [if_pos rfl] at hx; subst hx; exact evNow fun k => by simp
      | false => rw [if_neg (by decide)] at hx; subst hx; exact evNow fun k => by simp
    cases r with
    | false => exact decodes_none (refuse rfl h6) (hdec rfBad (by rw [if_neg (by decide)]))
    | true =>
      have h2' := hdec (m, b, tagsOf n q, 9 + 6 * (n : Int), true) (by rw [if_pos rfl])
      have h1' : Ev (fun k => rowkey_Decode.f k l) (m, b, tagsOf n q, 9 + 6 * (n : Int), 0) := by
        have hread := hsome _ _ (rkTags_all n q [] h6)
        rw [List.nil_append] at hread
        unfold rowkey_Decode.f rowkey_read.f
        rw [if_pos (by omega), hread]
        simp only [Option.bind_some, if_true]
        refine Ev.bind i1 ?_
        have e : wrap64 ((l.length : Int) - ((q.drop (6 * n)).length : Int)) = 9 + 6 * (n : Int) := by rw [List.length_drop]; unfold wrap64; omega
        simp only [if_true, e]
        exact Ev.now _
      unfold marigraphlaw14_decodes.f
      refine Ev.bind h1' (Ev.bind h2' ?_)
      simp only [show (((0 : Int) == 0) == true) = true from rfl, if_true]
      exact Ev.bind (RSame_tells m b _ (by rw [tagsOf_len]; omega)) (Ev.now _)
  · have hb2 : Ev (fun k => marigraphref14_Decode.f k l) rfBad := by
      unfold marigraphref14_Decode.f
      rw [href]
      refine evNow fun k => ?_
      rw [if_neg h4, if_pos (Int.natCast_nonneg n), Int.toNat_natCast, if_pos (rfTags_not n q [] (by omega))]
    exact decodes_none (dec_bad hl (hnone (rkTags_not n q [] (by omega)))) hb2
theorem xor8 (x y : Int) : 0 ≤ Go.bits .xor .u8 x y ∧ Go.bits .xor .u8 x y ≤ 255 := by
  unfold Go.bits
  generalize (_ : BitVec _) = z
  rw [IntKind.wrap_u8]
  omega
theorem set_byt {l : List Int} (h : Byt l) (i : Nat) {v : Int} (hv : 0 ≤ v ∧ v ≤ 255) : Byt (l.set i v) := by
  intro x hx
  rcases List.mem_or_eq_of_mem_set hx with h1 | h1
  · exact h x h1
  · rw [h1]; exact hv
theorem cutI_byt {l : List Int} (h : Byt l) (n : Nat) : Byt (cutI l n) := by
  unfold cutI
  split
  · exact fun x hx => h x (List.mem_of_mem_take hx)
  · exact h
theorem RowkeyTells (m hour : Int) (l : List Int) (r0 r1 : Int) (t : List S23) (bs : List Int) (at_ turn : Int) (h0 : (Lit.int .i64 m).wf = true) (h1 : (Lit.int .i64 hour).wf = true) (hl : ∀ x ∈ l, (Lit.int .i64 x).wf = true) (hb : ∀ x ∈ bs, (Lit.int .u8 x).wf = true) (ha : (Lit.int .i64 at_).wf = true) :
    ∃ (k : Nat) (m1 b1 : Int) (t1 : List S23) (x : List Int) (j : Nat), marigraphlaw14_made.f k m hour l = some (m1, b1, t1) ∧ marigraphlaw14_encodes.f k m1 b1 t1 = some true ∧ marigraphlaw14_encodes.f k r0 r1 (t.take 6) = some true ∧ marigraphref14_Encode.f k m1 b1 t1 = some x ∧ marigraphbook_Within.f k at_ 0 ((x.length : Int) - 1) = some (j : Int) ∧ j < x.length ∧ x.length < 1000 ∧
      marigraphlaw14_decodes.f k x = some true ∧ marigraphlaw14_decodes.f k (x.set j (Go.bits .xor .u8 (rd x (j : Int)) turn)) = some true ∧ marigraphlaw14_decodes.f k (x.set j (Go.bits .xor .u8 (rd x (j : Int)) turn) ++ cutI bs 10) = some true ∧ marigraphlaw14_decodes.f k (cutI bs 60) = some true ∧ marigraphlaw14_known.f k = some true := by
  obtain ⟨m1, t1, hm⟩ := made_tells h0 hl
  obtain ⟨b1, hr, ⟨K1, g1⟩⟩ := hm hour h1
  obtain ⟨K2, g2⟩ := encodes_tells m1 b1 t1
  obtain ⟨K3, g3⟩ := encodes_tells r0 r1 (t.take 6)
  obtain ⟨K4, g4⟩ := REncode_tells hr
  have hx := key_byt (saltI m1 b1 t1) m1 b1 t1
  have hxl := key_len (saltI m1 b1 t1) m1 b1 t1
  have hn := hr.n
  generalize key (saltI m1 b1 t1) m1 b1 t1 = x at *
  obtain ⟨r, ⟨K5, g5⟩, r1', r2', _⟩ := within_w (n := at_) (lo := 0) (hi := (x.length : Int) - 1) (by decide) (by omega) (by omega) (i64_of ha)
  obtain ⟨j, rfl⟩ : ∃ j : Nat, r = (j : Int) := ⟨r.toNat, by omega⟩
  have hbs := Byt.of_wf hb
  have hy := set_byt hx j (xor8 (rd x (j : Int)) turn)
  have c10 := rkt_cut_le bs 10
  have c60 := rkt_cut_le bs 60
  obtain ⟨K6, g6⟩ := decodes_tells hx (by omega)
  obtain ⟨K7, g7⟩ := decodes_tells hy (by rw [List.length_set]; omega)
  obtain ⟨K8, g8⟩ := decodes_tells (hy.append (cutI_byt hbs 10)) (by rw [List.length_append, List.length_set]; omega)
  obtain ⟨K9, g9⟩ := decodes_tells (cutI_byt hbs 60) (by omega)
  obtain ⟨K10, g10⟩ := known_ev
  refine ⟨K1 + K2 + K3 + K4 + K5 + K6 + K7 + K8 + K9 + K10, m1, b1, t1, x, j, g1 _ (by omega), g2 _ (by omega), g3 _ (by omega), g4 _ (by omega), g5 _ (by omega), by omega, by omega, g6 _ (by omega), g7 _ (by omega), g8 _ (by omega), g9 _ (by omega), g10 _ (by omega)⟩

end Go.Proofs.Ytbgghcifpephgaa.Pure

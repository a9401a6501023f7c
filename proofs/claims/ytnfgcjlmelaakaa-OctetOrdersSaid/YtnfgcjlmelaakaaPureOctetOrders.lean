/- Numbers laid in eight bytes stand in order as the numbers do, and what begins with a text stands ahead of its Next; for all inputs. -/
import Derived.Test.YtnfgcjlmelaakaaPOctetOrdersx2
namespace Go.Proofs.Ytnfgcjlmelaakaa.Pure
open Go.RowKit Go.Proofs.Ytnfgcjlmelaakaa.POctetOrders Go.Proofs.YtnfgcjlmelaakaaW.PrintWords Go.Proofs.YtnfgcjlmelaakaaW.PrintLast
set_option linter.unusedVariables false
set_option linter.unusedSimpArgs false

/-! ### bytes as whole numbers: in range, in order -/
def Byt (l : List Int) : Prop := ∀ x ∈ l, 0 ≤ x ∧ x ≤ 255
theorem Byt.of_wf {l : List Int} (h : ∀ x ∈ l, (Lit.int .u8 x).wf = true) : Byt l := by
  intro x hx
  have := h x hx
  have h1 : IntKind.u8.min = 0 := rfl
  have h2 : IntKind.u8.max = 255 := rfl
  simp only [Lit.wf, Bool.and_eq_true, decide_eq_true_eq] at this
  omega
theorem Byt.cons {x : Int} {l : List Int} (h : Byt (x :: l)) : (0 ≤ x ∧ x ≤ 255) ∧ Byt l := ⟨h x (by simp), fun y hy => h y (by simp [hy])⟩
theorem Byt.append {a b : List Int} (ha : Byt a) (hb : Byt b) : Byt (a ++ b) := by
  intro x hx
  rcases List.mem_append.1 hx with h | h
  · exact ha x h
  · exact hb x h
theorem Byt.left {a b : List Int} (h : Byt (a ++ b)) : Byt a := fun x hx => h x (by simp [hx])
theorem Byt.right {a b : List Int} (h : Byt (a ++ b)) : Byt b := fun x hx => h x (by simp [hx])
theorem Byt.cut {a : List Int} (h : Byt a) (n : Nat) : Byt (cutI a n) := by
  unfold cutI
  split
  · exact fun x hx => h x (List.mem_of_mem_take hx)
  · exact h
theorem cut_len (a : List Int) (n : Nat) : (cutI a n).length ≤ n := by
  unfold cutI
  split
  · rw [List.length_take]; omega
  · omega
theorem u8_lt {x y : Int} (hx : 0 ≤ x ∧ x ≤ 255) (hy : 0 ≤ y ∧ y ≤ 255) : (UInt8.ofNat x.toNat < UInt8.ofNat y.toNat) ↔ x < y := by
  rw [UInt8.lt_iff_toNat_lt, UInt8.toNat_ofNat', UInt8.toNat_ofNat']
  omega
def lexI : List Int → List Int → Int
  | [], [] => 0
  | [], _ :: _ => -1
  | _ :: _, [] => 1
  | a :: p, b :: q => if a < b then -1 else if b < a then 1 else lexI p q
theorem cmp_lexI : ∀ {a b : List Int}, Byt a → Byt b → Lib.compareBytes (Lib.bytesOf a) (Lib.bytesOf b) = lexI a b
  | [], [], _, _ => rfl
  | [], _ :: _, _, _ => rfl
  | _ :: _, [], _, _ => rfl
  | x :: a, y :: b, ha, hb => by
    have ih := cmp_lexI ha.cons.2 hb.cons.2
    have h1 := u8_lt ha.cons.1 hb.cons.1
    have h2 := u8_lt hb.cons.1 ha.cons.1
    unfold Lib.bytesOf at ih ⊢
    rw [List.map_cons, List.map_cons, Lib.compareBytes, lexI, ih]
    simp only [h1, h2]
theorem lexI_pre (p a b : List Int) : lexI (p ++ a) (p ++ b) = lexI a b := by
  induction p with
  | nil => rfl
  | cons x p ih =>
    show (if x < x then _ else _) = _
    rw [if_neg (Int.lt_irrefl x), if_neg (Int.lt_irrefl x)]
    exact ih
theorem lexI_self (a : List Int) : lexI a a = 0 := by
  have := lexI_pre a [] []
  simpa [lexI] using this
theorem lexI_more (a b : List Int) : ¬ lexI (a ++ b) a < 0 := by
  have h := lexI_pre a b []
  rw [List.append_nil] at h
  rw [h]
  cases b with
  | nil => decide
  | cons x b => show ¬ (1 : Int) < 0; decide
/-! ### Put -/
def be (n : Int) : Nat → List Int
  | 0 => []
  | s + 1 => (n / 2 ^ (8 * s)) % 256 :: be n s
theorem be_len (n : Int) (s : Nat) : (be n s).length = s := by induction s with | zero => rfl | succ s ih => simp [be, ih]
theorem be_byt (n : Int) (s : Nat) : Byt (be n s) := by
  induction s with
  | zero => intro x hx; cases hx
  | succ s ih =>
    intro x hx
    rcases List.mem_cons.1 hx with rfl | hx
    · omega
    · exact ih x hx
theorem wrap_8 (s : Nat) (h : s ≤ 8) : wrap64 (8 * (s : Int)) = ((8 * s : Nat) : Int) := by unfold wrap64; omega
theorem put_loop (n : Int) (s : Nat) : ∀ (k : Nat) (acc : List Int), s ≤ 8 → s < k → acc.length + s ≤ 140737488355328 → octet_Put.l0 k n acc ((s : Int) - 1) = some (acc ++ be n s) := by
  induction s with
  | zero =>
    intro k acc _ hk _
    obtain ⟨k, rfl⟩ : ∃ m, k = m + 1 := ⟨k - 1, by omega⟩
    simp only [octet_Put.l0]
    rw [if_neg (by omega)]
    simp [be]
  | succ s ih =>
    intro k acc hs hk hl
    obtain ⟨k, rfl⟩ : ∃ m, k = m + 1 := ⟨k - 1, by omega⟩
    have e : ((s + 1 : Nat) : Int) - 1 = (s : Int) := by omega
    rw [e]
    simp only [octet_Put.l0]
    rw [wrap_8 s (by omega), if_pos (by omega), if_pos (by omega), if_pos (by omega)]
    have e2 : wrap64 ((s : Int) - 1) = (s : Int) - 1 := by unfold wrap64; omega
    have e3 : shr .u64 n ((8 * s : Nat) : Int) = n / 2 ^ (8 * s) := by
      unfold shr
      have hb : IntKind.u64.bits = 64 := rfl
      rw [Int.toNat_natCast, hb, Nat.min_eq_left (by omega)]
    rw [e2, e3, ih k _ (by omega) (by omega) (by rw [List.length_append, List.length_singleton]; omega)]
    simp [be]
theorem put_tells (l : List Int) (n : Int) (s : Nat) (k : Nat) (hs : s ≤ 8) (hk : s < k) (hl : l.length + 8 ≤ 140737488355328) : octet_Put.f k l n (s : Int) = some (l ++ be n s) := by
  unfold octet_Put.f slices_Clone_byte_byte.f
  rw [if_pos (by omega)]
  simp only [Option.bind_some]
  have e : mx (mn (s : Int) 8) 0 = (s : Int) := by unfold mx mn; split <;> split <;> omega
  rw [e]
  exact put_loop n s k l hs hk (by omega)
/-! ### Less, Next, Shared -/
theorem less_tells {a b : List Int} (ha : Byt a) (hb : Byt b) : octet_Less.f a b = some (decide (lexI a b < 0)) := by
  unfold octet_Less.f bytes_Compare.f
  simp only [Option.bind_some]
  rw [cmp_lexI ha hb]
theorem emod_256 (m P : Int) (hP : 0 < P) : m % (P * 256) = m % P + P * (m / P % 256) := by
  have h1 := Int.emod_add_mul_ediv m P
  have h2 := Int.emod_add_mul_ediv (m / P) 256
  have h3 := Int.emod_nonneg m (Int.ne_of_gt hP)
  have h4 := Int.emod_lt_of_pos m hP
  generalize hq : m / P = q at *
  have h5 : P * q = P * (q % 256) + P * 256 * (q / 256) := by rw [Int.mul_assoc, ← Int.mul_add, h2]
  have h6 : 0 ≤ P * (q % 256) := Int.mul_nonneg (by omega) (by omega)
  have h7 : P * (q % 256) ≤ P * 255 := Int.mul_le_mul_of_nonneg_left (by omega) (by omega)
  have e : m = (m % P + P * (q % 256)) + P * 256 * (q / 256) := by omega
  calc m % (P * 256) = ((m % P + P * (q % 256)) + P * 256 * (q / 256)) % (P * 256) := by rw [← e]
    _ = (m % P + P * (q % 256)) % (P * 256) := Int.add_mul_emod_self_left _ _ _
    _ = m % P + P * (q % 256) := Int.emod_eq_of_lt (by omega) (by omega)
theorem be_less (m n : Int) (s : Nat) : lexI (be m s) (be n s) < 0 ↔ m % 2 ^ (8 * s) < n % 2 ^ (8 * s) := by
  induction s with
  | zero => simp [be, lexI]
  | succ s ih =>
    have hp : (0 : Int) < 2 ^ (8 * s) := Int.pow_pos (by decide)
    have e : (2 : Int) ^ (8 * (s + 1)) = 2 ^ (8 * s) * 256 := by rw [Nat.mul_add, Int.pow_add]; rfl
    rw [e, emod_256 m _ hp, emod_256 n _ hp]
    have h1 := Int.emod_nonneg m (Int.ne_of_gt hp)
    have h2 := Int.emod_lt_of_pos m hp
    have h3 := Int.emod_nonneg n (Int.ne_of_gt hp)
    have h4 := Int.emod_lt_of_pos n hp
    simp only [be, lexI]
    generalize hP : (2 : Int) ^ (8 * s) = P at *
    generalize m / P % 256 = x at *
    generalize n / P % 256 = y at *
    generalize m % P = u at *
    generalize n % P = v at *
    by_cases hlt : x < y
    · have h5 : P * (x + 1) ≤ P * y := Int.mul_le_mul_of_nonneg_left (by omega) (by omega)
      rw [Int.mul_add] at h5
      simp only [hlt, if_true]
      constructor
      · intro _; omega
      · intro _; decide
    · by_cases hgt : y < x
      · have h5 : P * (y + 1) ≤ P * x := Int.mul_le_mul_of_nonneg_left (by omega) (by omega)
        rw [Int.mul_add] at h5
        simp only [hlt, hgt, if_true, if_false]
        constructor
        · intro h; exact absurd h (by decide)
        · intro _; omega
      · obtain rfl : x = y := by omega
        simp only [hlt, if_false, ih]
        omega
theorem next_loop (a : List Int) (ha : Byt a) (hl : a.length ≤ 1000) (i : Nat) : ∀ k : Nat, i ≤ a.length → i < k → (∀ j, i ≤ j → j < a.length → rd a (j : Int) = 255) →
    ∃ r ok, octet_Next.l0 k a (i : Int) = some (r, ok) ∧ (ok = true → ∃ p c t, a = p ++ c :: t ∧ r = p ++ [c + 1] ∧ c < 255 ∧ 0 ≤ c) ∧ (ok = false → r = []) := by
  induction i with
  | zero =>
    intro k _ hk _
    obtain ⟨k, rfl⟩ : ∃ m, k = m + 1 := ⟨k - 1, by omega⟩
    refine ⟨[], false, ?_, by simp, by simp⟩
    simp only [octet_Next.l0]
    rw [if_neg (by omega), if_pos (by omega)]
  | succ i ih =>
    intro k hi hk hall
    obtain ⟨k, rfl⟩ : ∃ m, k = m + 1 := ⟨k - 1, by omega⟩
    have e : ((i + 1 : Nat) : Int) - 1 = (i : Int) := by omega
    have ew : wrap64 (((i + 1 : Nat) : Int) - 1) = (i : Int) := by rw [e]; unfold wrap64; omega
    simp only [octet_Next.l0, ew]
    rw [if_pos (by omega), if_pos (by omega), if_pos (by omega)]
    have hb : a[i]? = some (rd a (i : Int)) := by
      have hlt : i < a.length := by omega
      simp [rd, List.getD_eq_getElem?_getD, List.getElem?_eq_getElem hlt]
    by_cases h255 : rd a (i : Int) = 255
    · rw [if_pos h255]
      exact ih k (by omega) (by omega) (fun j h1 h2 => by
        rcases Nat.lt_or_ge i j with h | h
        · exact hall j (by omega) h2
        · obtain rfl : j = i := by omega
          exact h255)
    · rw [if_neg h255, if_neg (by omega), if_pos (by omega), if_pos (by omega)]
      have hr := ha _ (List.mem_of_getElem? hb)
      have hsplit : a = a.take i ++ rd a (i : Int) :: a.drop (i + 1) := by
        have hlt : i < a.length := by omega
        have h1 : a[i] = rd a (i : Int) := by have := List.getElem?_eq_getElem hlt; rw [hb] at this; exact (Option.some.inj this).symm
        rw [← h1, List.getElem_cons_drop, List.take_append_drop]
      have ht : a.take (i + 1) = a.take i ++ [rd a (i : Int)] := by
        rw [List.take_add_one, hb]; rfl
      have hlen : (a.take i).length = i := by rw [List.length_take]; omega
      unfold slices_Clone_byte_byte.f
      rw [Int.toNat_natCast, if_pos (by rw [List.length_take]; omega)]
      simp only [Option.bind_some]
      rw [if_pos (by rw [List.length_take]; omega)]
      refine ⟨_, true, rfl, fun _ => ⟨a.take i, rd a (i : Int), a.drop (i + 1), hsplit, ?_, by omega, hr.1⟩, by simp⟩
      rw [ht, Int.toNat_natCast]
      have e1 : rd (a.take i ++ [rd a (i : Int)]) (i : Int) = rd a (i : Int) := by
        generalize rd a (i : Int) = q
        simp [rd, List.getD_eq_getElem?_getD, List.getElem?_append_right, hlen]
      rw [e1]
      have e2 : (rd a (i : Int) + 1) % 256 = rd a (i : Int) + 1 := by omega
      rw [e2, List.set_append_right _ _ (by omega), hlen, Nat.sub_self]
      rfl
theorem next_tells (a : List Int) (ha : Byt a) (hl : a.length ≤ 1000) (k : Nat) (hk : a.length < k) :
    ∃ r ok, octet_Next.f k a = some (r, ok) ∧ (ok = true → ∃ p c t, a = p ++ c :: t ∧ r = p ++ [c + 1] ∧ c < 255 ∧ 0 ≤ c) ∧ (ok = false → r = []) := by
  unfold octet_Next.f
  exact next_loop a ha hl a.length k (Nat.le_refl _) hk (fun j h1 h2 => by omega)
theorem shared_loop (a b : List Int) (hl : a.length ≤ 1000) (d : Nat) : ∀ (k j : Nat), j + d = a.length → d < k → octet_Shared.l0 k a (a ++ b) (j : Int) = some (a.length : Int) := by
  induction d with
  | zero =>
    intro k j hj hk
    obtain ⟨k, rfl⟩ : ∃ m, k = m + 1 := ⟨k - 1, by omega⟩
    simp only [octet_Shared.l0]
    rw [if_neg (by omega)]
    congr 1
    omega
  | succ d ih =>
    intro k j hj hk
    obtain ⟨k, rfl⟩ : ∃ m, k = m + 1 := ⟨k - 1, by omega⟩
    simp only [octet_Shared.l0]
    have e : rd a (j : Int) = rd (a ++ b) (j : Int) := by
      simp [rd, List.getD_eq_getElem?_getD, List.getElem?_append_left (show j < a.length by omega)]
    have e2 : wrap64 ((j : Int) + 1) = ((j + 1 : Nat) : Int) := by unfold wrap64; omega
    rw [if_pos (by omega), if_pos (by rw [List.length_append]; omega), if_pos (by omega), if_pos e, e2]
    exact ih k (j + 1) (by omega) (by omega)
theorem known_tells (k : Nat) (hk : 20 ≤ k) : marigraphlaw2_known.f k = some true := at_rounds marigraphlaw2_known.mono hk (by decide +kernel)
theorem u64_of {a : Int} (h : (Lit.int .u64 a).wf = true) : 0 ≤ a ∧ a < 18446744073709551616 := by
  have h1 : IntKind.u64.min = 0 := rfl
  have h2 : IntKind.u64.max = 18446744073709551615 := rfl
  simp only [Lit.wf, Bool.and_eq_true, decide_eq_true_eq] at h
  omega
theorem OctetOrders : marigraphlaw2_OctetOrders.Pure := by
  intro m n a more hm hn _ _ ha _ _ hmore
  have hm := u64_of hm
  have hn := u64_of hn
  have ha := (Byt.of_wf ha).cut 30
  have hmore := (Byt.of_wf hmore).cut 20
  have la := cut_len a 30
  have lm := cut_len more 20
  refine ⟨100, ?_⟩
  unfold marigraphlaw2_OctetOrders.f
  generalize cutI a 30 = x at *
  generalize cutI more 20 = y at *
  have e8 : ((8 : Nat) : Int) = 8 := rfl
  have p1 := put_tells [] m 8 100 (by omega) (by omega) (by simp)
  have p2 := put_tells [] n 8 100 (by omega) (by omega) (by simp)
  rw [e8, List.nil_append] at p1 p2
  rw [p1]
  simp only [Option.bind_some]
  rw [p2]
  simp only [Option.bind_some]
  rw [less_tells (be_byt m 8) (be_byt n 8)]
  simp only [Option.bind_some]
  have hlt : decide (lexI (be m 8) (be n 8) < 0) = decide (m < n) := by
    have := be_less m n 8
    rw [show (2 : Int) ^ (8 * 8) = 18446744073709551616 from rfl, Int.emod_eq_of_lt hm.1 hm.2, Int.emod_eq_of_lt hn.1 hn.2] at this
    simp only [this]
  rw [hlt, if_neg (by simp)]
  simp only [List.nil_append, List.length_nil, Nat.zero_add]
  rw [if_pos (by omega), if_pos (by omega)]
  have hxy : Byt (x ++ y) := ha.append hmore
  obtain ⟨r, ok, hnx, hok, _⟩ := next_tells x ha (by omega) 100 (by omega)
  have hsh := shared_loop x y (by omega) x.length 100 0 (by omega) (by omega)
  have e0 : ((0 : Nat) : Int) = 0 := rfl
  rw [e0] at hsh
  rw [hnx]
  simp only [Option.bind_some]
  unfold octet_Shared.f
  rw [hsh]
  simp only [Option.bind_some, if_true]
  have hback : decide (lexI (x ++ y) x < 0) = false := decide_eq_false (lexI_more x y)
  rw [less_tells hxy ha, hback]
  simp only [Option.bind_some]
  rw [known_tells 100 (by omega)]
  simp only [Option.bind_some]
  cases ok with
  | false => rfl
  | true =>
    obtain ⟨p, c, t, hx, hr, hc, hc0⟩ := hok rfl
    have hp : Byt p := by rw [hx] at ha; exact ha.left
    have hrb : Byt r := by
      rw [hr]
      refine hp.append ?_
      intro z hz
      obtain rfl : z = c + 1 := by simpa using hz
      omega
    have l1 : lexI (x ++ y) r < 0 := by
      rw [hx, hr, List.append_assoc, lexI_pre]
      show (if c < c + 1 then (-1 : Int) else _) < 0
      rw [if_pos (by omega)]
      decide
    have l2 : lexI x r < 0 := by
      rw [hx, hr, lexI_pre]
      show (if c < c + 1 then (-1 : Int) else _) < 0
      rw [if_pos (by omega)]
      decide
    rw [less_tells hxy hrb, less_tells ha hrb, decide_eq_true l1, decide_eq_true l2]
    rfl

end Go.Proofs.Ytnfgcjlmelaakaa.Pure

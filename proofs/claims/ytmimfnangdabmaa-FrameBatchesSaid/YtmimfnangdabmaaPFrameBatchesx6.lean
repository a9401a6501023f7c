/- The walk of the Go functions that a law reaches, told as plain functions; a program of this session has written it. No condition beyond the statement's own. -/
import Derived.Test.YtmimfnangdabmaaPFrameBatchesx1
import Derived.Test.YtmimfnangdabmaaPFrameBatchesx0
namespace Go.Proofs.Ytmimfnangdabmaa.PFrameBatches
open Go.RowKit Go.Proofs.YtmimfnangdabmaaW.PrintWords Go.Proofs.YtmimfnangdabmaaW.PrintLast Go.Proofs.YtmimfnangdabmaaW.PrintMore
attribute [local go_sem] max2_int min2_int max_two min_two max_three min_three max_four min_four   -- for this text's walks alone
set_option linter.unusedVariables false
set_option linter.unusedSimpArgs false

/-- A step of a region that yields in every world; one whose guard is off; one that reads what is held. -/
theorem pK {P : Program} {ops : Array Oper} {Q : Exit → Act → World → Prop} {md : Region.Mode} {S : World → Prop} {ds : List Nat} {oi : Oper} {v : Value} {fuel : Nat} {l : Array Bool} {a a' : Act} {w : World} (i : Nat) (N : Option Tmp) (l' : Array Bool) (h : wpAnyLast P md ops Q S ds fuel l' a' w)
    (hi : ops[i]? = some oi := by rfl) (hN : oi.dst = N := by rfl) (hc : anyB md ops l l' i = true := by kernel_rfl) (hQ : ∀ c a w, Q (.panic c) (a.put oi.dst v) w → Q (.panic c) a w := by exact fun _ _ _ h => h)
    (hy : Region.wanted oi (yielded ops a.tmps) = true := by rfl) (hy' : ∀ w, (execOp a.eval oi).run P w = .ok (.value v) w := by intro w'; go_simp; with_reducible rfl)
    (ha : a.put N v = a' := by simp only [Act.put, List.setIfInBounds_toArray, List.set_cons_zero, List.set_cons_succ, i64_w, i32_w]; rfl) : wpAnyLast P md ops Q S ds (fuel + 1) l a w :=
  pure_ l' hi hN hc hQ (Or.inl ⟨hy, hy'⟩) ha h
theorem uK {P : Program} {ops : Array Oper} {Q : Exit → Act → World → Prop} {md : Region.Mode} {S : World → Prop} {ds : List Nat} {oi : Oper} {fuel : Nat} {l : Array Bool} {a a' : Act} {w : World} (i : Nat) (N : Option Tmp) (l' : Array Bool) (h : wpAnyLast P md ops Q S ds fuel l' a' w)
    (hi : ops[i]? = some oi := by rfl) (hN : oi.dst = N := by rfl) (hc : anyB md ops l l' i = true := by kernel_rfl) (hQ : ∀ c a w, Q (.panic c) (a.put oi.dst undef) w → Q (.panic c) a w := by exact fun _ _ _ h => h)
    (hy : Region.wanted oi (yielded ops a.tmps) = false := by rfl)
    (ha : a.put N undef = a' := by simp only [Act.put, List.setIfInBounds_toArray, List.set_cons_zero, List.set_cons_succ, i64_w, i32_w]; rfl) : wpAnyLast P md ops Q S ds (fuel + 1) l a w :=
  pure_ l' hi hN hc hQ (Or.inr ⟨hy, rfl⟩) ha h
theorem tK {P : Program} {ops : Array Oper} {Q : Exit → Act → World → Prop} {md : Region.Mode} {S : World → Prop} {ds : List Nat} {oi : Oper} {v : Value} {fuel : Nat} {l : Array Bool} {a a' : Act} {w : World} (i : Nat) (N : Option Tmp) (l' : Array Bool) (hi : ops[i]? = some oi) (hN : oi.dst = N) (hS : S w) (hy' : ∀ w, S w → (execOp a.eval oi).run P w = .ok (.value v) w) (h : wpAnyLast P md ops Q S ds fuel l' a' w)
    (hc : takeB md ops ds l l' i = true := by kernel_rfl) (hQ : ∀ c a w, Q (.panic c) (a.put oi.dst v) w → Q (.panic c) a w := by exact fun _ _ _ h => h)
    (hy : Region.wanted oi (yielded ops a.tmps) = true := by rfl)
    (ha : a.put N v = a' := by simp only [Act.put, List.setIfInBounds_toArray, List.set_cons_zero, List.set_cons_succ, i64_w, i32_w]; rfl) : wpAnyLast P md ops Q S ds (fuel + 1) l a w :=
  take_ l' hi hN hc hQ (Or.inl ⟨hy, hy'⟩) hS ha h
theorem nK {P : Program} {ops : Array Oper} {Q : Exit → Act → World → Prop} {md : Region.Mode} {S : World → Prop} {ds : List Nat} {fuel : Nat} {l : Array Bool} {a a' : Act} {v : Value} {w : World} (N : Option Tmp) (h : wpAnyLast P md ops Q S ds fuel l a' w)
    (ha : a.put N v = a' := by simp only [Act.put, List.setIfInBounds_toArray, List.set_cons_zero, List.set_cons_succ, i64_w, i32_w]; rfl) : wpAnyLast P md ops Q S ds fuel l (a.put N v) w := norm_ ha h
theorem blk3 {w : World} {g : Nat} {t : TypeId} {x y z : Value} (h : w.heap[g]? = some (.cells #[x, y, z] t (0, 0))) : w.cell? ⟨g, 0, none⟩ = some x ∧ w.cell? ⟨g, 1, none⟩ = some y ∧ w.cell? ⟨g, 2, none⟩ = some z ∧ w.frozen? ⟨g, 0, none⟩ = false ∧ w.frozen? ⟨g, 1, none⟩ = false ∧ w.frozen? ⟨g, 2, none⟩ = false :=
  ⟨(blk_cell h 0).trans rfl, (blk_cell h 1).trans rfl, (blk_cell h 2).trans rfl, blk_frozen h 0, blk_frozen h 1, blk_frozen h 2⟩
/-! ### marigraphref8_Same: function 23 -/
def marigraphref8_Same.l0 : Nat → List (S49) → List (S49) → Int → Option (Bool)
 | 0, _, _, _ => none
 | k + 1, x0, x1, x5 => if x5 < (x0.length : Int) then (if 0 ≤ x5 then (if x5 < (x1.length : Int) then (if (strOfNums ((rd_T49 x0 x5).f0)).toList = (strOfNums ((rd_T49 x1 x5).f0)).toList then (if (((rd_T49 x0 x5).f2) != ((rd_T49 x1 x5).f2)) = true then (some false) else (if ((rd_T49 x0 x5).f2 = true) then (marigraphref8_Same.l0 k x0 x1 (wrap64 (x5 + 1))) else (if (strOfNums ((rd_T49 x0 x5).f1)).toList = (strOfNums ((rd_T49 x1 x5).f1)).toList then (marigraphref8_Same.l0 k x0 x1 (wrap64 (x5 + 1))) else (some false)))) else (some false)) else (none)) else (none)) else (some true)
def marigraphref8_Same.f (k : Nat) (l0 : List (S49)) (l1 : List (S49)) : Option (Bool) := if (l0.length : Int) = (l1.length : Int) then (marigraphref8_Same.l0 k l0 l1 0) else (some false)
theorem marigraphref8_Same.mono_l : ∀ k, (∀ y0 y1 y2, LeO (marigraphref8_Same.l0 k y0 y1 y2) (marigraphref8_Same.l0 (k + 1) y0 y1 y2))
 | 0 => fun _ _ _ r h => by simp [marigraphref8_Same.l0] at h
 | k + 1 => by
  have ih0 := marigraphref8_Same.mono_l k
  ·intro y0 y1 y2
   unfold marigraphref8_Same.l0
   repeat' first
   | (with_reducible exact ih0 _ _ _)
   | (with_reducible exact LeO.refl _)
   | (with_reducible exact LeO.none _)
   | (with_reducible refine LeO.ite ?_ ?_)
   | (with_reducible refine LeO.bind ?_ (fun _ => ?_))
   | exact ih0 _ _ _
   | exact LeO.none _
   | refine LeO.ite ?_ ?_
   | refine LeO.bind ?_ (fun _ => ?_)
theorem marigraphref8_Same.mono : ∀ a0 a1 k, LeO (marigraphref8_Same.f k a0 a1) (marigraphref8_Same.f (k + 1) a0 a1) := by
 intro a0 a1 k
 have ih0 := marigraphref8_Same.mono_l k
 unfold marigraphref8_Same.f
 repeat' first
   | (with_reducible exact ih0 _ _ _)
   | (with_reducible exact LeO.refl _)
   | (with_reducible exact LeO.none _)
   | (with_reducible refine LeO.ite ?_ ?_)
   | (with_reducible refine LeO.bind ?_ (fun _ => ?_))
   | exact ih0 _ _ _
   | exact LeO.none _
   | refine LeO.ite ?_ ?_
   | refine LeO.bind ?_ (fun _ => ?_)
set_option maxHeartbeats 8000000 in
set_option maxRecDepth 100000 in
theorem marigraphref8_Same.calls (k : Nat) (A0 : Option Addr) (c0 : Nat) (l0 : List (S49)) (A1 : Option Addr) (c1 : Nat) (l1 : List (S49)) (r : Bool) (w : World) (hr0 : Kd.C k49 w A0 l0.length l0) (hc0 : l0.length ≤ c0) (hr1 : Kd.C k49 w A1 l1.length l1) (hc1 : l1.length ≤ c1) (h : marigraphref8_Same.f k l0 l1 = some r) :
  Calls Try.prog 23 #[.slice A0 l0.length c0, .slice A1 l1.length c1] w fun e w' => e = .returned (.bool r) ∧ Drawn0 w w' := by
 have HR0 := Aside0.mk hr0
 have HC0 := Aside0.mk hc0
 clear hr0 hc0
 have HR1 := Aside0.mk hr1
 have HC1 := Aside0.mk hc1
 clear hr1 hc1
 have H : (if (l0.length : Int) = (l1.length : Int) then (marigraphref8_Same.l0 k l0 l1 0) else (some false)) = some r := h
 clear h
 by_cases c3 : (l0.length : Int) = (l1.length : Int)
 ·rw [if_pos c3] at H
  have c3b0 : ((l0.length : Int) == (l1.length : Int)) = true := beq_iff_eq.mpr c3
  have c3b1 : ((l0.length : Int) != (l1.length : Int)) = false := bne_eq_false_iff_eq.mpr c3
  have c3b2 : (l0.length == l1.length) = true := by first | simpa using c3 | (simp at c3 ⊢; omega)
  clear c3
  have H' := Aside0.mk H
  clear H
  go_enter Try.func23, Try.ntmps23
  go_wp2
  repeat (go_quiet (fail); try go_wp2)
  go_loopg [5] k (fun kq v5 w' => ∃ (x5_1 : Int), v5 = .int .i64 x5_1 ∧ Aside0 (marigraphref8_Same.l0 kq l0 l1 x5_1 = some r) ∧ Aside0 (kq ≤ k) ∧ Drawn0 w w')
  case atStart => exact ⟨(0), (by first | rfl | (simp; done) | (simp [*]; done)), H', ⟨Nat.le_refl _⟩, by repeat (first | exact Drawn0.refl _ | apply Drawn0.step)⟩
  case round =>
   clear H'
   try clear c1
   try clear c2
   try clear p2
   try clear c3
   try clear c3b0
   try clear c3b1
   try clear c3b2
   obtain ⟨x5_1, rfl, HA, HK1, ⟨m1, rfl⟩⟩ := hrel
   cases gk with
   | zero => exact absurd HA.out (by simp [marigraphref8_Same.l0])
   | succ k1 =>
    have H := HA.out
    clear HA
    simp only [marigraphref8_Same.l0] at H
    by_cases c4 : x5_1 < (l0.length : Int)
    ·rw [if_pos c4] at H
     have c4b0 : decide (x5_1 < (l0.length : Int)) = true := decide_eq_true c4
     clear c4
     by_cases c5 : 0 ≤ x5_1
     ·rw [if_pos c5] at H
      have c5b0 : decide (0 ≤ x5_1) = true := decide_eq_true c5
      clear c5
      by_cases c6 : x5_1 < (l1.length : Int)
      ·rw [if_pos c6] at H
       have c6b0 : decide (x5_1 < (l1.length : Int)) = true := decide_eq_true c6
       clear c6
       by_cases c7 : (strOfNums ((rd_T49 l0 x5_1).f0)).toList = (strOfNums ((rd_T49 l1 x5_1).f0)).toList
       ·rw [if_pos c7] at H
        have c7b0 : ((strOfNums ((rd_T49 l0 x5_1).f0)).toList == (strOfNums ((rd_T49 l1 x5_1).f0)).toList) = true := beq_iff_eq.mpr c7
        have c7b1 : ((strOfNums ((rd_T49 l0 x5_1).f0)).toList != (strOfNums ((rd_T49 l1 x5_1).f0)).toList) = false := bne_eq_false_iff_eq.mpr c7
        clear c7
        by_cases c8 : (((rd_T49 l0 x5_1).f2) != ((rd_T49 l1 x5_1).f2)) = true
        ·rw [if_pos c8] at H
         have c8b0 : (((rd_T49 l0 x5_1).f2) != ((rd_T49 l1 x5_1).f2)) = true := c8
         (try (have c8b1 : decide (((rd_T49 l0 x5_1).f2) = ((rd_T49 l1 x5_1).f2)) = false := by simpa using c8))
         (try (have c8b2 : (((rd_T49 l0 x5_1).f2) == ((rd_T49 l1 x5_1).f2)) = false := by simpa using c8))
         (try (have c8b3 : ¬ (((rd_T49 l0 x5_1).f2) = ((rd_T49 l1 x5_1).f2)) := by simpa using c8))
         clear c8
         obtain rfl := Option.some.inj H
         have p244 : 0 ≤ (x5_1 : Int) := of_decide_eq_true (by first | (with_reducible assumption) | assumption)
         have q244 : x5_1 < (l0.length : Int) := of_decide_eq_true (by first | (with_reducible assumption) | assumption)
         obtain ⟨ad244, A244_0, c244_0, A244_1, c244_1, e244, hx244_0, hx244_1, hx244_2, hl244_0, hi244_0, hl244_1, hi244_1⟩ := at_T49 HR0.out x5_1 p244 q244
         cases e244
         have HR244_0 := Aside0.mk hi244_0
         have HC244_0 := Aside0.mk hl244_0
         clear hi244_0 hl244_0
         have HR244_1 := Aside0.mk hi244_1
         have HC244_1 := Aside0.mk hl244_1
         clear hi244_1 hl244_1
         replace p244 := eq_true p244
         replace q244 := eq_true q244
         have hcv9 := Kd.C_string (P := Try.prog) (A := A244_0) (c := c244_0) Try.underlying23 Try.underlying5 Try.underlying9 HR244_0.out
         have p245 : 0 ≤ (x5_1 : Int) := of_decide_eq_true (by first | (with_reducible assumption) | assumption)
         have q245 : x5_1 < (l1.length : Int) := of_decide_eq_true (by first | (with_reducible assumption) | assumption)
         obtain ⟨ad245, A245_0, c245_0, A245_1, c245_1, e245, hx245_0, hx245_1, hx245_2, hl245_0, hi245_0, hl245_1, hi245_1⟩ := at_T49 HR1.out x5_1 p245 q245
         cases e245
         have HR245_0 := Aside0.mk hi245_0
         have HC245_0 := Aside0.mk hl245_0
         clear hi245_0 hl245_0
         have HR245_1 := Aside0.mk hi245_1
         have HC245_1 := Aside0.mk hl245_1
         clear hi245_1 hl245_1
         replace p245 := eq_true p245
         replace q245 := eq_true q245
         have hcv10 := Kd.C_string (P := Try.prog) (A := A245_0) (c := c245_0) Try.underlying23 Try.underlying5 Try.underlying9 HR245_0.out
         have p246 : 0 ≤ (x5_1 : Int) := of_decide_eq_true (by first | (with_reducible assumption) | assumption)
         have q246 : x5_1 < (l0.length : Int) := of_decide_eq_true (by first | (with_reducible assumption) | assumption)
         obtain ⟨ad246, A246_0, c246_0, A246_1, c246_1, e246, hx246_0, hx246_1, hx246_2, hl246_0, hi246_0, hl246_1, hi246_1⟩ := at_T49 HR0.out x5_1 p246 q246
         obtain rfl : ad244 = ad246 := (by injection e246)
         have HR246_0 := Aside0.mk hi246_0
         have HC246_0 := Aside0.mk hl246_0
         clear hi246_0 hl246_0
         have HR246_1 := Aside0.mk hi246_1
         have HC246_1 := Aside0.mk hl246_1
         clear hi246_1 hl246_1
         replace p246 := eq_true p246
         replace q246 := eq_true q246
         have ea_ := Option.some.inj (hx244_0.symm.trans hx246_0)
         injection ea_ with ea_ en_ ec_
         subst ea_
         subst ec_
         clear en_
         have ea_ := Option.some.inj (hx244_1.symm.trans hx246_1)
         injection ea_ with ea_ en_ ec_
         subst ea_
         subst ec_
         clear en_
         have p247 : 0 ≤ (x5_1 : Int) := of_decide_eq_true (by first | (with_reducible assumption) | assumption)
         have q247 : x5_1 < (l1.length : Int) := of_decide_eq_true (by first | (with_reducible assumption) | assumption)
         obtain ⟨ad247, A247_0, c247_0, A247_1, c247_1, e247, hx247_0, hx247_1, hx247_2, hl247_0, hi247_0, hl247_1, hi247_1⟩ := at_T49 HR1.out x5_1 p247 q247
         obtain rfl : ad245 = ad247 := (by injection e247)
         have HR247_0 := Aside0.mk hi247_0
         have HC247_0 := Aside0.mk hl247_0
         clear hi247_0 hl247_0
         have HR247_1 := Aside0.mk hi247_1
         have HC247_1 := Aside0.mk hl247_1
         clear hi247_1 hl247_1
         replace p247 := eq_true p247
         replace q247 := eq_true q247
         have ea_ := Option.some.inj (hx245_0.symm.trans hx247_0)
         injection ea_ with ea_ en_ ec_
         subst ea_
         subst ec_
         clear en_
         have ea_ := Option.some.inj (hx245_1.symm.trans hx247_1)
         injection ea_ with ea_ en_ ec_
         subst ea_
         subst ec_
         clear en_
         go_wp2
         refine start_ (n := 49) (S := fun w' => w'.cell? (ad244.add (x5_1.toNat * 3)) = some (.slice A244_0 (rd_T49 l0 x5_1).f0.length c244_0) ∧ w'.cell? ⟨(ad244.add (x5_1.toNat * 3)).block, (ad244.add (x5_1.toNat * 3)).off + 1, none⟩ = some (.slice A244_1 (rd_T49 l0 x5_1).f1.length c244_1) ∧ w'.cell? ⟨(ad244.add (x5_1.toNat * 3)).block, (ad244.add (x5_1.toNat * 3)).off + 2, none⟩ = some (.bool (rd_T49 l0 x5_1).f2) ∧ w'.cell? (ad245.add (x5_1.toNat * 3)) = some (.slice A245_0 (rd_T49 l1 x5_1).f0.length c245_0) ∧ w'.cell? ⟨(ad245.add (x5_1.toNat * 3)).block, (ad245.add (x5_1.toNat * 3)).off + 1, none⟩ = some (.slice A245_1 (rd_T49 l1 x5_1).f1.length c245_1) ∧ w'.cell? ⟨(ad245.add (x5_1.toNat * 3)).block, (ad245.add (x5_1.toNat * 3)).off + 2, none⟩ = some (.bool (rd_T49 l1 x5_1).f2) ∧ Kd.C (Kd.int .u8) w' A244_0 (rd_T49 l0 x5_1).f0.length (rd_T49 l0 x5_1).f0 ∧ Kd.C (Kd.int .u8) w' A245_0 (rd_T49 l1 x5_1).f0.length (rd_T49 l1 x5_1).f0 ∧ Kd.C (Kd.int .u8) w' A244_1 (rd_T49 l0 x5_1).f1.length (rd_T49 l0 x5_1).f1 ∧ Kd.C (Kd.int .u8) w' A245_1 (rd_T49 l1 x5_1).f1.length (rd_T49 l1 x5_1).f1) (ds := []) (bA 49 0) (by kernel_rfl) rfl rfl ⟨hx244_0, hx244_1, hx244_2, hx245_0, hx245_1, hx245_2, (by first | exact Kd.C_drewN HR244_0.out _ | exact Kd.C_drew (Kd.C_drewN HR244_0.out _) | exact Kd.C_drew HR244_0.out | exact HR244_0.out), (by first | exact Kd.C_drewN HR245_0.out _ | exact Kd.C_drew (Kd.C_drewN HR245_0.out _) | exact Kd.C_drew HR245_0.out | exact HR245_0.out), (by first | exact Kd.C_drewN HR244_1.out _ | exact Kd.C_drew (Kd.C_drewN HR244_1.out _) | exact Kd.C_drew HR244_1.out | exact HR244_1.out), (by first | exact Kd.C_drewN HR245_1.out _ | exact Kd.C_drew (Kd.C_drewN HR245_1.out _) | exact Kd.C_drew HR245_1.out | exact HR245_1.out)⟩ (fun hHeld => ?_)
         refine norm_ (by rfl) ?_
         refine pK 0 (some 17) (bA 49 1) ?_
         refine pK 1 (some 18) (bA 49 3) ?_
         refine pK 2 (some 19) (bA 49 7) ?_
         refine pK 3 (some 20) (bA 49 15) ?_
         refine tK 4 (some 21) (bA 49 31) rfl rfl hHeld (by rintro w' ⟨s0, s1, s2, s3, s4, s5, s6, s7, s8, s9⟩; go_simp; with_reducible rfl) ?_
         refine tK 5 (some 22) (bA 49 63) rfl rfl hHeld (by rintro w' ⟨s0, s1, s2, s3, s4, s5, s6, s7, s8, s9⟩; have e_ := Kd.C_string (P := Try.prog) (c := c244_0) Try.underlying23 Try.underlying5 Try.underlying9 s6; go_simp; with_reducible rfl) ?_
         refine pK 6 (some 23) (bA 49 127) ?_
         refine pK 7 (some 24) (bA 49 255) ?_
         refine pK 8 (some 25) (bA 49 511) ?_
         refine pK 9 (some 26) (bA 49 1023) ?_
         refine tK 10 (some 27) (bA 49 2047) rfl rfl hHeld (by rintro w' ⟨s0, s1, s2, s3, s4, s5, s6, s7, s8, s9⟩; go_simp; with_reducible rfl) ?_
         refine tK 11 (some 28) (bA 49 4095) rfl rfl hHeld (by rintro w' ⟨s0, s1, s2, s3, s4, s5, s6, s7, s8, s9⟩; have e_ := Kd.C_string (P := Try.prog) (c := c245_0) Try.underlying23 Try.underlying5 Try.underlying9 s7; go_simp; with_reducible rfl) ?_
         refine pK 12 (some 29) (bA 49 8191) ?_
         refine pK 13 (some 30) (bA 49 16383) ?_
         refine pK 14 (some 31) (bA 49 32767) ?_
         refine pK 15 (some 32) (bA 49 65535) ?_
         refine pK 16 (some 33) (bA 49 131071) ?_
         refine pK 17 (some 34) (bA 49 262143) ?_
         refine tK 18 (some 35) (bA 49 524287) rfl rfl hHeld (by rintro w' ⟨s0, s1, s2, s3, s4, s5, s6, s7, s8, s9⟩; go_simp; with_reducible rfl) ?_
         refine pK 19 (some 36) (bA 49 1048575) ?_
         refine pK 20 (some 37) (bA 49 2097151) ?_
         refine pK 21 (some 38) (bA 49 4194303) ?_
         refine pK 22 (some 39) (bA 49 8388607) ?_
         refine tK 23 (some 40) (bA 49 16777215) rfl rfl hHeld (by rintro w' ⟨s0, s1, s2, s3, s4, s5, s6, s7, s8, s9⟩; go_simp; with_reducible rfl) ?_
         refine pK 24 (some 41) (bA 49 33554431) ?_
         refine pK 25 (some 42) (bA 49 67108863) ?_
         refine pK 26 (some 43) (bA 49 134217727) ?_
         refine uK 27 (some 44) (bA 49 268435455) ?_
         refine uK 28 (some 45) (bA 49 536870911) ?_
         refine uK 29 (some 46) (bA 49 1073741823) ?_
         refine uK 30 (some 47) (bA 49 2147483647) ?_
         refine uK 31 (some 48) (bA 49 4294967295) ?_
         refine uK 32 (some 49) (bA 49 8589934591) ?_
         refine uK 33 (some 50) (bA 49 17179869183) ?_
         refine uK 34 (some 51) (bA 49 34359738367) ?_
         refine uK 35 (some 52) (bA 49 68719476735) ?_
         refine uK 36 (some 53) (bA 49 137438953471) ?_
         refine uK 37 (some 54) (bA 49 274877906943) ?_
         refine uK 38 (some 55) (bA 49 549755813887) ?_
         refine uK 39 (some 56) (bA 49 1099511627775) ?_
         refine uK 40 (some 57) (bA 49 2199023255551) ?_
         refine uK 41 (some 58) (bA 49 4398046511103) ?_
         refine uK 42 (some 59) (bA 49 8796093022207) ?_
         refine uK 43 (some 60) (bA 49 17592186044415) ?_
         refine uK 44 (some 61) (bA 49 35184372088831) ?_
         refine uK 45 (some 62) (bA 49 70368744177663) ?_
         refine uK 46 (some 63) (bA 49 140737488355327) ?_
         refine uK 47 (some 64) (bA 49 281474976710655) ?_
         refine pK 48 (some 65) (bA 49 562949953421311) ?_
         refine done_ (by kernel_rfl) ?_
         clear hHeld
         go_wp2
         go_ret
         exact ⟨by first | rfl | (simp; done) | (simp [*]; done), by repeat (first | exact Drawn0.refl _ | apply Drawn0.step)⟩
        ·rw [if_neg c8] at H
         have c8b0 : (((rd_T49 l0 x5_1).f2) != ((rd_T49 l1 x5_1).f2)) = false := by simpa using c8
         (try (have c8b1 : decide (((rd_T49 l0 x5_1).f2) = ((rd_T49 l1 x5_1).f2)) = true := by simpa using c8))
         (try (have c8b2 : (((rd_T49 l0 x5_1).f2) == ((rd_T49 l1 x5_1).f2)) = true := by simpa using c8))
         clear c8
         obtain ⟨bq11, hbq11⟩ : ∃ b_ : Bool, b_ = ((rd_T49 l0 x5_1).f2) := ⟨_, rfl⟩
         replace H : (if (bq11 = true) then (marigraphref8_Same.l0 k1 l0 l1 (wrap64 (x5_1 + 1))) else (if (strOfNums ((rd_T49 l0 x5_1).f1)).toList = (strOfNums ((rd_T49 l1 x5_1).f1)).toList then (marigraphref8_Same.l0 k1 l0 l1 (wrap64 (x5_1 + 1))) else (some false))) = some r := by rw [← hbq11] at H; exact H
         have Nbq11 := Aside0.mk hbq11
         clear hbq11
         by_cases c12 : (bq11 = true)
         ·subst c12
          have H1 : (marigraphref8_Same.l0 k1 l0 l1 (wrap64 (x5_1 + 1))) = some r := by rw [if_pos rfl] at H; exact H
          clear H
          have H := H1
          clear H1
          have H' := Aside0.mk H
          clear H
          have p244 : 0 ≤ (x5_1 : Int) := of_decide_eq_true (by first | (with_reducible assumption) | assumption)
          have q244 : x5_1 < (l0.length : Int) := of_decide_eq_true (by first | (with_reducible assumption) | assumption)
          obtain ⟨ad244, A244_0, c244_0, A244_1, c244_1, e244, hx244_0, hx244_1, hx244_2, hl244_0, hi244_0, hl244_1, hi244_1⟩ := at_T49 HR0.out x5_1 p244 q244
          (try rw [← Nbq11.out] at hx244_2)
          cases e244
          have HR244_0 := Aside0.mk hi244_0
          have HC244_0 := Aside0.mk hl244_0
          clear hi244_0 hl244_0
          have HR244_1 := Aside0.mk hi244_1
          have HC244_1 := Aside0.mk hl244_1
          clear hi244_1 hl244_1
          replace p244 := eq_true p244
          replace q244 := eq_true q244
          have hcv13 := Kd.C_string (P := Try.prog) (A := A244_0) (c := c244_0) Try.underlying23 Try.underlying5 Try.underlying9 HR244_0.out
          have p245 : 0 ≤ (x5_1 : Int) := of_decide_eq_true (by first | (with_reducible assumption) | assumption)
          have q245 : x5_1 < (l1.length : Int) := of_decide_eq_true (by first | (with_reducible assumption) | assumption)
          obtain ⟨ad245, A245_0, c245_0, A245_1, c245_1, e245, hx245_0, hx245_1, hx245_2, hl245_0, hi245_0, hl245_1, hi245_1⟩ := at_T49 HR1.out x5_1 p245 q245
          (try rw [← Nbq11.out] at hx245_2)
          cases e245
          have HR245_0 := Aside0.mk hi245_0
          have HC245_0 := Aside0.mk hl245_0
          clear hi245_0 hl245_0
          have HR245_1 := Aside0.mk hi245_1
          have HC245_1 := Aside0.mk hl245_1
          clear hi245_1 hl245_1
          replace p245 := eq_true p245
          replace q245 := eq_true q245
          have hcv14 := Kd.C_string (P := Try.prog) (A := A245_0) (c := c245_0) Try.underlying23 Try.underlying5 Try.underlying9 HR245_0.out
          have p246 : 0 ≤ (x5_1 : Int) := of_decide_eq_true (by first | (with_reducible assumption) | assumption)
          have q246 : x5_1 < (l0.length : Int) := of_decide_eq_true (by first | (with_reducible assumption) | assumption)
          obtain ⟨ad246, A246_0, c246_0, A246_1, c246_1, e246, hx246_0, hx246_1, hx246_2, hl246_0, hi246_0, hl246_1, hi246_1⟩ := at_T49 HR0.out x5_1 p246 q246
          (try rw [← Nbq11.out] at hx246_2)
          obtain rfl : ad244 = ad246 := (by injection e246)
          have HR246_0 := Aside0.mk hi246_0
          have HC246_0 := Aside0.mk hl246_0
          clear hi246_0 hl246_0
          have HR246_1 := Aside0.mk hi246_1
          have HC246_1 := Aside0.mk hl246_1
          clear hi246_1 hl246_1
          replace p246 := eq_true p246
          replace q246 := eq_true q246
          have ea_ := Option.some.inj (hx244_0.symm.trans hx246_0)
          injection ea_ with ea_ en_ ec_
          subst ea_
          subst ec_
          clear en_
          have ea_ := Option.some.inj (hx244_1.symm.trans hx246_1)
          injection ea_ with ea_ en_ ec_
          subst ea_
          subst ec_
          clear en_
          have p247 : 0 ≤ (x5_1 : Int) := of_decide_eq_true (by first | (with_reducible assumption) | assumption)
          have q247 : x5_1 < (l1.length : Int) := of_decide_eq_true (by first | (with_reducible assumption) | assumption)
          obtain ⟨ad247, A247_0, c247_0, A247_1, c247_1, e247, hx247_0, hx247_1, hx247_2, hl247_0, hi247_0, hl247_1, hi247_1⟩ := at_T49 HR1.out x5_1 p247 q247
          (try rw [← Nbq11.out] at hx247_2)
          obtain rfl : ad245 = ad247 := (by injection e247)
          have HR247_0 := Aside0.mk hi247_0
          have HC247_0 := Aside0.mk hl247_0
          clear hi247_0 hl247_0
          have HR247_1 := Aside0.mk hi247_1
          have HC247_1 := Aside0.mk hl247_1
          clear hi247_1 hl247_1
          replace p247 := eq_true p247
          replace q247 := eq_true q247
          have ea_ := Option.some.inj (hx245_0.symm.trans hx247_0)
          injection ea_ with ea_ en_ ec_
          subst ea_
          subst ec_
          clear en_
          have ea_ := Option.some.inj (hx245_1.symm.trans hx247_1)
          injection ea_ with ea_ en_ ec_
          subst ea_
          subst ec_
          clear en_
          have p248 : 0 ≤ (x5_1 : Int) := of_decide_eq_true (by first | (with_reducible assumption) | assumption)
          have q248 : x5_1 < (l0.length : Int) := of_decide_eq_true (by first | (with_reducible assumption) | assumption)
          obtain ⟨ad248, A248_0, c248_0, A248_1, c248_1, e248, hx248_0, hx248_1, hx248_2, hl248_0, hi248_0, hl248_1, hi248_1⟩ := at_T49 HR0.out x5_1 p248 q248
          (try rw [← Nbq11.out] at hx248_2)
          obtain rfl : ad244 = ad248 := (by injection e248)
          have HR248_0 := Aside0.mk hi248_0
          have HC248_0 := Aside0.mk hl248_0
          clear hi248_0 hl248_0
          have HR248_1 := Aside0.mk hi248_1
          have HC248_1 := Aside0.mk hl248_1
          clear hi248_1 hl248_1
          replace p248 := eq_true p248
          replace q248 := eq_true q248
          have ea_ := Option.some.inj (hx244_0.symm.trans hx248_0)
          injection ea_ with ea_ en_ ec_
          subst ea_
          subst ec_
          clear en_
          have ea_ := Option.some.inj (hx244_1.symm.trans hx248_1)
          injection ea_ with ea_ en_ ec_
          subst ea_
          subst ec_
          clear en_
          go_wp2
          have c8z := c8b0
          rw [← Nbq11.out] at c8z
          have hz_ : (rd_T49 l1 x5_1).f2 = true := by simpa using c8z
          clear c8z
          have hxz_ := hx245_2
          rw [hz_] at hxz_
          clear hz_
          refine start_ (n := 49) (S := fun w' => w'.cell? (ad244.add (x5_1.toNat * 3)) = some (.slice A244_0 (rd_T49 l0 x5_1).f0.length c244_0) ∧ w'.cell? ⟨(ad244.add (x5_1.toNat * 3)).block, (ad244.add (x5_1.toNat * 3)).off + 1, none⟩ = some (.slice A244_1 (rd_T49 l0 x5_1).f1.length c244_1) ∧ w'.cell? ⟨(ad244.add (x5_1.toNat * 3)).block, (ad244.add (x5_1.toNat * 3)).off + 2, none⟩ = some (.bool true) ∧ w'.cell? (ad245.add (x5_1.toNat * 3)) = some (.slice A245_0 (rd_T49 l1 x5_1).f0.length c245_0) ∧ w'.cell? ⟨(ad245.add (x5_1.toNat * 3)).block, (ad245.add (x5_1.toNat * 3)).off + 1, none⟩ = some (.slice A245_1 (rd_T49 l1 x5_1).f1.length c245_1) ∧ w'.cell? ⟨(ad245.add (x5_1.toNat * 3)).block, (ad245.add (x5_1.toNat * 3)).off + 2, none⟩ = some (.bool true) ∧ Kd.C (Kd.int .u8) w' A244_0 (rd_T49 l0 x5_1).f0.length (rd_T49 l0 x5_1).f0 ∧ Kd.C (Kd.int .u8) w' A245_0 (rd_T49 l1 x5_1).f0.length (rd_T49 l1 x5_1).f0 ∧ Kd.C (Kd.int .u8) w' A244_1 (rd_T49 l0 x5_1).f1.length (rd_T49 l0 x5_1).f1 ∧ Kd.C (Kd.int .u8) w' A245_1 (rd_T49 l1 x5_1).f1.length (rd_T49 l1 x5_1).f1) (ds := []) (bA 49 0) (by kernel_rfl) rfl rfl ⟨hx244_0, hx244_1, hx244_2, hx245_0, hx245_1, hxz_, (by first | exact Kd.C_drewN HR244_0.out _ | exact Kd.C_drew (Kd.C_drewN HR244_0.out _) | exact Kd.C_drew HR244_0.out | exact HR244_0.out), (by first | exact Kd.C_drewN HR245_0.out _ | exact Kd.C_drew (Kd.C_drewN HR245_0.out _) | exact Kd.C_drew HR245_0.out | exact HR245_0.out), (by first | exact Kd.C_drewN HR244_1.out _ | exact Kd.C_drew (Kd.C_drewN HR244_1.out _) | exact Kd.C_drew HR244_1.out | exact HR244_1.out), (by first | exact Kd.C_drewN HR245_1.out _ | exact Kd.C_drew (Kd.C_drewN HR245_1.out _) | exact Kd.C_drew HR245_1.out | exact HR245_1.out)⟩ (fun hHeld => ?_)
          refine norm_ (by rfl) ?_
          refine pK 0 (some 17) (bA 49 1) ?_
          refine pK 1 (some 18) (bA 49 3) ?_
          refine pK 2 (some 19) (bA 49 7) ?_
          refine pK 3 (some 20) (bA 49 15) ?_
          refine tK 4 (some 21) (bA 49 31) rfl rfl hHeld (by rintro w' ⟨s0, s1, s2, s3, s4, s5, s6, s7, s8, s9⟩; go_simp; with_reducible rfl) ?_
          refine tK 5 (some 22) (bA 49 63) rfl rfl hHeld (by rintro w' ⟨s0, s1, s2, s3, s4, s5, s6, s7, s8, s9⟩; have e_ := Kd.C_string (P := Try.prog) (c := c244_0) Try.underlying23 Try.underlying5 Try.underlying9 s6; go_simp; with_reducible rfl) ?_
          refine pK 6 (some 23) (bA 49 127) ?_
          refine pK 7 (some 24) (bA 49 255) ?_
          refine pK 8 (some 25) (bA 49 511) ?_
          refine pK 9 (some 26) (bA 49 1023) ?_
          refine tK 10 (some 27) (bA 49 2047) rfl rfl hHeld (by rintro w' ⟨s0, s1, s2, s3, s4, s5, s6, s7, s8, s9⟩; go_simp; with_reducible rfl) ?_
          refine tK 11 (some 28) (bA 49 4095) rfl rfl hHeld (by rintro w' ⟨s0, s1, s2, s3, s4, s5, s6, s7, s8, s9⟩; have e_ := Kd.C_string (P := Try.prog) (c := c245_0) Try.underlying23 Try.underlying5 Try.underlying9 s7; go_simp; with_reducible rfl) ?_
          refine pK 12 (some 29) (bA 49 8191) ?_
          refine pK 13 (some 30) (bA 49 16383) ?_
          refine pK 14 (some 31) (bA 49 32767) ?_
          refine pK 15 (some 32) (bA 49 65535) ?_
          refine pK 16 (some 33) (bA 49 131071) ?_
          refine pK 17 (some 34) (bA 49 262143) ?_
          refine tK 18 (some 35) (bA 49 524287) rfl rfl hHeld (by rintro w' ⟨s0, s1, s2, s3, s4, s5, s6, s7, s8, s9⟩; go_simp; with_reducible rfl) ?_
          refine pK 19 (some 36) (bA 49 1048575) ?_
          refine pK 20 (some 37) (bA 49 2097151) ?_
          refine pK 21 (some 38) (bA 49 4194303) ?_
          refine pK 22 (some 39) (bA 49 8388607) ?_
          refine tK 23 (some 40) (bA 49 16777215) rfl rfl hHeld (by rintro w' ⟨s0, s1, s2, s3, s4, s5, s6, s7, s8, s9⟩; go_simp; with_reducible rfl) ?_
          refine pK 24 (some 41) (bA 49 33554431) ?_
          refine pK 25 (some 42) (bA 49 67108863) ?_
          refine pK 26 (some 43) (bA 49 134217727) ?_
          refine pK 27 (some 44) (bA 49 268435455) ?_
          refine pK 28 (some 45) (bA 49 536870911) ?_
          refine pK 29 (some 46) (bA 49 1073741823) ?_
          refine pK 30 (some 47) (bA 49 2147483647) ?_
          refine tK 31 (some 48) (bA 49 4294967295) rfl rfl hHeld (by rintro w' ⟨s0, s1, s2, s3, s4, s5, s6, s7, s8, s9⟩; go_simp; with_reducible rfl) ?_
          refine pK 32 (some 49) (bA 49 8589934591) ?_
          refine pK 33 (some 50) (bA 49 17179869183) ?_
          refine uK 34 (some 51) (bA 49 34359738367) ?_
          refine uK 35 (some 52) (bA 49 68719476735) ?_
          refine uK 36 (some 53) (bA 49 137438953471) ?_
          refine uK 37 (some 54) (bA 49 274877906943) ?_
          refine uK 38 (some 55) (bA 49 549755813887) ?_
          refine uK 39 (some 56) (bA 49 1099511627775) ?_
          refine uK 40 (some 57) (bA 49 2199023255551) ?_
          refine uK 41 (some 58) (bA 49 4398046511103) ?_
          refine uK 42 (some 59) (bA 49 8796093022207) ?_
          refine uK 43 (some 60) (bA 49 17592186044415) ?_
          refine uK 44 (some 61) (bA 49 35184372088831) ?_
          refine uK 45 (some 62) (bA 49 70368744177663) ?_
          refine uK 46 (some 63) (bA 49 140737488355327) ?_
          refine pK 47 (some 64) (bA 49 281474976710655) ?_
          refine pK 48 (some 65) (bA 49 562949953421311) ?_
          refine done_ (by kernel_rfl) ?_
          clear hHeld
          go_wp2
          go_roundg k1
          case measure => have := HK1.out; omega
          case rel => exact ⟨(wrap64 (x5_1 + 1)), (by first | rfl | (simp; done) | (simp [*]; done)), H', ⟨by have := HK1.out; omega⟩, by repeat (first | exact Drawn0.refl _ | apply Drawn0.step)⟩
         ·replace c12 := Bool.eq_false_iff.mpr c12
          subst c12
          have H1 : (if (strOfNums ((rd_T49 l0 x5_1).f1)).toList = (strOfNums ((rd_T49 l1 x5_1).f1)).toList then (marigraphref8_Same.l0 k1 l0 l1 (wrap64 (x5_1 + 1))) else (some false)) = some r := by rw [if_neg (show ¬ (false = true) by decide)] at H; exact H
          clear H
          have H := H1
          clear H1
          by_cases c15 : (strOfNums ((rd_T49 l0 x5_1).f1)).toList = (strOfNums ((rd_T49 l1 x5_1).f1)).toList
          ·rw [if_pos c15] at H
           have c15b0 : ((strOfNums ((rd_T49 l0 x5_1).f1)).toList == (strOfNums ((rd_T49 l1 x5_1).f1)).toList) = true := beq_iff_eq.mpr c15
           have c15b1 : ((strOfNums ((rd_T49 l0 x5_1).f1)).toList != (strOfNums ((rd_T49 l1 x5_1).f1)).toList) = false := bne_eq_false_iff_eq.mpr c15
           clear c15
           have H' := Aside0.mk H
           clear H
           have p244 : 0 ≤ (x5_1 : Int) := of_decide_eq_true (by first | (with_reducible assumption) | assumption)
           have q244 : x5_1 < (l0.length : Int) := of_decide_eq_true (by first | (with_reducible assumption) | assumption)
           obtain ⟨ad244, A244_0, c244_0, A244_1, c244_1, e244, hx244_0, hx244_1, hx244_2, hl244_0, hi244_0, hl244_1, hi244_1⟩ := at_T49 HR0.out x5_1 p244 q244
           (try rw [← Nbq11.out] at hx244_2)
           cases e244
           have HR244_0 := Aside0.mk hi244_0
           have HC244_0 := Aside0.mk hl244_0
           clear hi244_0 hl244_0
           have HR244_1 := Aside0.mk hi244_1
           have HC244_1 := Aside0.mk hl244_1
           clear hi244_1 hl244_1
           replace p244 := eq_true p244
           replace q244 := eq_true q244
           have hcv16 := Kd.C_string (P := Try.prog) (A := A244_0) (c := c244_0) Try.underlying23 Try.underlying5 Try.underlying9 HR244_0.out
           have p245 : 0 ≤ (x5_1 : Int) := of_decide_eq_true (by first | (with_reducible assumption) | assumption)
           have q245 : x5_1 < (l1.length : Int) := of_decide_eq_true (by first | (with_reducible assumption) | assumption)
           obtain ⟨ad245, A245_0, c245_0, A245_1, c245_1, e245, hx245_0, hx245_1, hx245_2, hl245_0, hi245_0, hl245_1, hi245_1⟩ := at_T49 HR1.out x5_1 p245 q245
           (try rw [← Nbq11.out] at hx245_2)
           cases e245
           have HR245_0 := Aside0.mk hi245_0
           have HC245_0 := Aside0.mk hl245_0
           clear hi245_0 hl245_0
           have HR245_1 := Aside0.mk hi245_1
           have HC245_1 := Aside0.mk hl245_1
           clear hi245_1 hl245_1
           replace p245 := eq_true p245
           replace q245 := eq_true q245
           have hcv17 := Kd.C_string (P := Try.prog) (A := A245_0) (c := c245_0) Try.underlying23 Try.underlying5 Try.underlying9 HR245_0.out
           have p246 : 0 ≤ (x5_1 : Int) := of_decide_eq_true (by first | (with_reducible assumption) | assumption)
           have q246 : x5_1 < (l0.length : Int) := of_decide_eq_true (by first | (with_reducible assumption) | assumption)
           obtain ⟨ad246, A246_0, c246_0, A246_1, c246_1, e246, hx246_0, hx246_1, hx246_2, hl246_0, hi246_0, hl246_1, hi246_1⟩ := at_T49 HR0.out x5_1 p246 q246
           (try rw [← Nbq11.out] at hx246_2)
           obtain rfl : ad244 = ad246 := (by injection e246)
           have HR246_0 := Aside0.mk hi246_0
           have HC246_0 := Aside0.mk hl246_0
           clear hi246_0 hl246_0
           have HR246_1 := Aside0.mk hi246_1
           have HC246_1 := Aside0.mk hl246_1
           clear hi246_1 hl246_1
           replace p246 := eq_true p246
           replace q246 := eq_true q246
           have ea_ := Option.some.inj (hx244_0.symm.trans hx246_0)
           injection ea_ with ea_ en_ ec_
           subst ea_
           subst ec_
           clear en_
           have ea_ := Option.some.inj (hx244_1.symm.trans hx246_1)
           injection ea_ with ea_ en_ ec_
           subst ea_
           subst ec_
           clear en_
           have p247 : 0 ≤ (x5_1 : Int) := of_decide_eq_true (by first | (with_reducible assumption) | assumption)
           have q247 : x5_1 < (l1.length : Int) := of_decide_eq_true (by first | (with_reducible assumption) | assumption)
           obtain ⟨ad247, A247_0, c247_0, A247_1, c247_1, e247, hx247_0, hx247_1, hx247_2, hl247_0, hi247_0, hl247_1, hi247_1⟩ := at_T49 HR1.out x5_1 p247 q247
           (try rw [← Nbq11.out] at hx247_2)
           obtain rfl : ad245 = ad247 := (by injection e247)
           have HR247_0 := Aside0.mk hi247_0
           have HC247_0 := Aside0.mk hl247_0
           clear hi247_0 hl247_0
           have HR247_1 := Aside0.mk hi247_1
           have HC247_1 := Aside0.mk hl247_1
           clear hi247_1 hl247_1
           replace p247 := eq_true p247
           replace q247 := eq_true q247
           have ea_ := Option.some.inj (hx245_0.symm.trans hx247_0)
           injection ea_ with ea_ en_ ec_
           subst ea_
           subst ec_
           clear en_
           have ea_ := Option.some.inj (hx245_1.symm.trans hx247_1)
           injection ea_ with ea_ en_ ec_
           subst ea_
           subst ec_
           clear en_
           have p248 : 0 ≤ (x5_1 : Int) := of_decide_eq_true (by first | (with_reducible assumption) | assumption)
           have q248 : x5_1 < (l0.length : Int) := of_decide_eq_true (by first | (with_reducible assumption) | assumption)
           obtain ⟨ad248, A248_0, c248_0, A248_1, c248_1, e248, hx248_0, hx248_1, hx248_2, hl248_0, hi248_0, hl248_1, hi248_1⟩ := at_T49 HR0.out x5_1 p248 q248
           (try rw [← Nbq11.out] at hx248_2)
           obtain rfl : ad244 = ad248 := (by injection e248)
           have HR248_0 := Aside0.mk hi248_0
           have HC248_0 := Aside0.mk hl248_0
           clear hi248_0 hl248_0
           have HR248_1 := Aside0.mk hi248_1
           have HC248_1 := Aside0.mk hl248_1
           clear hi248_1 hl248_1
           replace p248 := eq_true p248
           replace q248 := eq_true q248
           have ea_ := Option.some.inj (hx244_0.symm.trans hx248_0)
           injection ea_ with ea_ en_ ec_
           subst ea_
           subst ec_
           clear en_
           have ea_ := Option.some.inj (hx244_1.symm.trans hx248_1)
           injection ea_ with ea_ en_ ec_
           subst ea_
           subst ec_
           clear en_
           have p249 : 0 ≤ (x5_1 : Int) := of_decide_eq_true (by first | (with_reducible assumption) | assumption)
           have q249 : x5_1 < (l0.length : Int) := of_decide_eq_true (by first | (with_reducible assumption) | assumption)
           obtain ⟨ad249, A249_0, c249_0, A249_1, c249_1, e249, hx249_0, hx249_1, hx249_2, hl249_0, hi249_0, hl249_1, hi249_1⟩ := at_T49 HR0.out x5_1 p249 q249
           (try rw [← Nbq11.out] at hx249_2)
           obtain rfl : ad244 = ad249 := (by injection e249)
           have HR249_0 := Aside0.mk hi249_0
           have HC249_0 := Aside0.mk hl249_0
           clear hi249_0 hl249_0
           have HR249_1 := Aside0.mk hi249_1
           have HC249_1 := Aside0.mk hl249_1
           clear hi249_1 hl249_1
           replace p249 := eq_true p249
           replace q249 := eq_true q249
           have ea_ := Option.some.inj (hx244_0.symm.trans hx249_0)
           injection ea_ with ea_ en_ ec_
           subst ea_
           subst ec_
           clear en_
           have ea_ := Option.some.inj (hx244_1.symm.trans hx249_1)
           injection ea_ with ea_ en_ ec_
           subst ea_
           subst ec_
           clear en_
           have hcv18 := Kd.C_string (P := Try.prog) (A := A244_1) (c := c244_1) Try.underlying23 Try.underlying5 Try.underlying9 HR249_1.out
           have p250 : 0 ≤ (x5_1 : Int) := of_decide_eq_true (by first | (with_reducible assumption) | assumption)
           have q250 : x5_1 < (l1.length : Int) := of_decide_eq_true (by first | (with_reducible assumption) | assumption)
           obtain ⟨ad250, A250_0, c250_0, A250_1, c250_1, e250, hx250_0, hx250_1, hx250_2, hl250_0, hi250_0, hl250_1, hi250_1⟩ := at_T49 HR1.out x5_1 p250 q250
           (try rw [← Nbq11.out] at hx250_2)
           obtain rfl : ad245 = ad250 := (by injection e250)
           have HR250_0 := Aside0.mk hi250_0
           have HC250_0 := Aside0.mk hl250_0
           clear hi250_0 hl250_0
           have HR250_1 := Aside0.mk hi250_1
           have HC250_1 := Aside0.mk hl250_1
           clear hi250_1 hl250_1
           replace p250 := eq_true p250
           replace q250 := eq_true q250
           have ea_ := Option.some.inj (hx245_0.symm.trans hx250_0)
           injection ea_ with ea_ en_ ec_
           subst ea_
           subst ec_
           clear en_
           have ea_ := Option.some.inj (hx245_1.symm.trans hx250_1)
           injection ea_ with ea_ en_ ec_
           subst ea_
           subst ec_
           clear en_
           have hcv19 := Kd.C_string (P := Try.prog) (A := A245_1) (c := c245_1) Try.underlying23 Try.underlying5 Try.underlying9 HR250_1.out
           go_wp2
           have c8z := c8b0
           rw [← Nbq11.out] at c8z
           have hz_ : (rd_T49 l1 x5_1).f2 = false := by simpa using c8z
           clear c8z
           have hxz_ := hx245_2
           rw [hz_] at hxz_
           clear hz_
           refine start_ (n := 49) (S := fun w' => w'.cell? (ad244.add (x5_1.toNat * 3)) = some (.slice A244_0 (rd_T49 l0 x5_1).f0.length c244_0) ∧ w'.cell? ⟨(ad244.add (x5_1.toNat * 3)).block, (ad244.add (x5_1.toNat * 3)).off + 1, none⟩ = some (.slice A244_1 (rd_T49 l0 x5_1).f1.length c244_1) ∧ w'.cell? ⟨(ad244.add (x5_1.toNat * 3)).block, (ad244.add (x5_1.toNat * 3)).off + 2, none⟩ = some (.bool false) ∧ w'.cell? (ad245.add (x5_1.toNat * 3)) = some (.slice A245_0 (rd_T49 l1 x5_1).f0.length c245_0) ∧ w'.cell? ⟨(ad245.add (x5_1.toNat * 3)).block, (ad245.add (x5_1.toNat * 3)).off + 1, none⟩ = some (.slice A245_1 (rd_T49 l1 x5_1).f1.length c245_1) ∧ w'.cell? ⟨(ad245.add (x5_1.toNat * 3)).block, (ad245.add (x5_1.toNat * 3)).off + 2, none⟩ = some (.bool false) ∧ Kd.C (Kd.int .u8) w' A244_0 (rd_T49 l0 x5_1).f0.length (rd_T49 l0 x5_1).f0 ∧ Kd.C (Kd.int .u8) w' A245_0 (rd_T49 l1 x5_1).f0.length (rd_T49 l1 x5_1).f0 ∧ Kd.C (Kd.int .u8) w' A244_1 (rd_T49 l0 x5_1).f1.length (rd_T49 l0 x5_1).f1 ∧ Kd.C (Kd.int .u8) w' A245_1 (rd_T49 l1 x5_1).f1.length (rd_T49 l1 x5_1).f1) (ds := []) (bA 49 0) (by kernel_rfl) rfl rfl ⟨hx244_0, hx244_1, hx244_2, hx245_0, hx245_1, hxz_, (by first | exact Kd.C_drewN HR244_0.out _ | exact Kd.C_drew (Kd.C_drewN HR244_0.out _) | exact Kd.C_drew HR244_0.out | exact HR244_0.out), (by first | exact Kd.C_drewN HR245_0.out _ | exact Kd.C_drew (Kd.C_drewN HR245_0.out _) | exact Kd.C_drew HR245_0.out | exact HR245_0.out), (by first | exact Kd.C_drewN HR244_1.out _ | exact Kd.C_drew (Kd.C_drewN HR244_1.out _) | exact Kd.C_drew HR244_1.out | exact HR244_1.out), (by first | exact Kd.C_drewN HR245_1.out _ | exact Kd.C_drew (Kd.C_drewN HR245_1.out _) | exact Kd.C_drew HR245_1.out | exact HR245_1.out)⟩ (fun hHeld => ?_)
           refine norm_ (by rfl) ?_
           refine pK 0 (some 17) (bA 49 1) ?_
           refine pK 1 (some 18) (bA 49 3) ?_
           refine pK 2 (some 19) (bA 49 7) ?_
           refine pK 3 (some 20) (bA 49 15) ?_
           refine tK 4 (some 21) (bA 49 31) rfl rfl hHeld (by rintro w' ⟨s0, s1, s2, s3, s4, s5, s6, s7, s8, s9⟩; go_simp; with_reducible rfl) ?_
           refine tK 5 (some 22) (bA 49 63) rfl rfl hHeld (by rintro w' ⟨s0, s1, s2, s3, s4, s5, s6, s7, s8, s9⟩; have e_ := Kd.C_string (P := Try.prog) (c := c244_0) Try.underlying23 Try.underlying5 Try.underlying9 s6; go_simp; with_reducible rfl) ?_
           refine pK 6 (some 23) (bA 49 127) ?_
           refine pK 7 (some 24) (bA 49 255) ?_
           refine pK 8 (some 25) (bA 49 511) ?_
           refine pK 9 (some 26) (bA 49 1023) ?_
           refine tK 10 (some 27) (bA 49 2047) rfl rfl hHeld (by rintro w' ⟨s0, s1, s2, s3, s4, s5, s6, s7, s8, s9⟩; go_simp; with_reducible rfl) ?_
           refine tK 11 (some 28) (bA 49 4095) rfl rfl hHeld (by rintro w' ⟨s0, s1, s2, s3, s4, s5, s6, s7, s8, s9⟩; have e_ := Kd.C_string (P := Try.prog) (c := c245_0) Try.underlying23 Try.underlying5 Try.underlying9 s7; go_simp; with_reducible rfl) ?_
           refine pK 12 (some 29) (bA 49 8191) ?_
           refine pK 13 (some 30) (bA 49 16383) ?_
           refine pK 14 (some 31) (bA 49 32767) ?_
           refine pK 15 (some 32) (bA 49 65535) ?_
           refine pK 16 (some 33) (bA 49 131071) ?_
           refine pK 17 (some 34) (bA 49 262143) ?_
           refine tK 18 (some 35) (bA 49 524287) rfl rfl hHeld (by rintro w' ⟨s0, s1, s2, s3, s4, s5, s6, s7, s8, s9⟩; go_simp; with_reducible rfl) ?_
           refine pK 19 (some 36) (bA 49 1048575) ?_
           refine pK 20 (some 37) (bA 49 2097151) ?_
           refine pK 21 (some 38) (bA 49 4194303) ?_
           refine pK 22 (some 39) (bA 49 8388607) ?_
           refine tK 23 (some 40) (bA 49 16777215) rfl rfl hHeld (by rintro w' ⟨s0, s1, s2, s3, s4, s5, s6, s7, s8, s9⟩; go_simp; with_reducible rfl) ?_
           refine pK 24 (some 41) (bA 49 33554431) ?_
           refine pK 25 (some 42) (bA 49 67108863) ?_
           refine pK 26 (some 43) (bA 49 134217727) ?_
           refine pK 27 (some 44) (bA 49 268435455) ?_
           refine pK 28 (some 45) (bA 49 536870911) ?_
           refine pK 29 (some 46) (bA 49 1073741823) ?_
           refine pK 30 (some 47) (bA 49 2147483647) ?_
           refine tK 31 (some 48) (bA 49 4294967295) rfl rfl hHeld (by rintro w' ⟨s0, s1, s2, s3, s4, s5, s6, s7, s8, s9⟩; go_simp; with_reducible rfl) ?_
           refine pK 32 (some 49) (bA 49 8589934591) ?_
           refine pK 33 (some 50) (bA 49 17179869183) ?_
           refine pK 34 (some 51) (bA 49 34359738367) ?_
           refine pK 35 (some 52) (bA 49 68719476735) ?_
           refine pK 36 (some 53) (bA 49 137438953471) ?_
           refine pK 37 (some 54) (bA 49 274877906943) ?_
           refine tK 38 (some 55) (bA 49 549755813887) rfl rfl hHeld (by rintro w' ⟨s0, s1, s2, s3, s4, s5, s6, s7, s8, s9⟩; go_simp; with_reducible rfl) ?_
           refine tK 39 (some 56) (bA 49 1099511627775) rfl rfl hHeld (by rintro w' ⟨s0, s1, s2, s3, s4, s5, s6, s7, s8, s9⟩; have e_ := Kd.C_string (P := Try.prog) (c := c244_1) Try.underlying23 Try.underlying5 Try.underlying9 s8; go_simp; with_reducible rfl) ?_
           refine pK 40 (some 57) (bA 49 2199023255551) ?_
           refine pK 41 (some 58) (bA 49 4398046511103) ?_
           refine pK 42 (some 59) (bA 49 8796093022207) ?_
           refine pK 43 (some 60) (bA 49 17592186044415) ?_
           refine tK 44 (some 61) (bA 49 35184372088831) rfl rfl hHeld (by rintro w' ⟨s0, s1, s2, s3, s4, s5, s6, s7, s8, s9⟩; go_simp; with_reducible rfl) ?_
           refine tK 45 (some 62) (bA 49 70368744177663) rfl rfl hHeld (by rintro w' ⟨s0, s1, s2, s3, s4, s5, s6, s7, s8, s9⟩; have e_ := Kd.C_string (P := Try.prog) (c := c245_1) Try.underlying23 Try.underlying5 Try.underlying9 s9; go_simp; with_reducible rfl) ?_
           refine pK 46 (some 63) (bA 49 140737488355327) ?_
           refine pK 47 (some 64) (bA 49 281474976710655) ?_
           refine pK 48 (some 65) (bA 49 562949953421311) ?_
           refine done_ (by kernel_rfl) ?_
           clear hHeld
           go_wp2
           go_roundg k1
           case measure => have := HK1.out; omega
           case rel => exact ⟨(wrap64 (x5_1 + 1)), (by first | rfl | (simp; done) | (simp [*]; done)), H', ⟨by have := HK1.out; omega⟩, by repeat (first | exact Drawn0.refl _ | apply Drawn0.step)⟩
          ·rw [if_neg c15] at H
           have c15b0 : ((strOfNums ((rd_T49 l0 x5_1).f1)).toList == (strOfNums ((rd_T49 l1 x5_1).f1)).toList) = false := beq_eq_false_iff_ne.mpr c15
           have c15b1 : ((strOfNums ((rd_T49 l0 x5_1).f1)).toList != (strOfNums ((rd_T49 l1 x5_1).f1)).toList) = true := bne_iff_ne.mpr c15
           obtain rfl := Option.some.inj H
           have p244 : 0 ≤ (x5_1 : Int) := of_decide_eq_true (by first | (with_reducible assumption) | assumption)
           have q244 : x5_1 < (l0.length : Int) := of_decide_eq_true (by first | (with_reducible assumption) | assumption)
           obtain ⟨ad244, A244_0, c244_0, A244_1, c244_1, e244, hx244_0, hx244_1, hx244_2, hl244_0, hi244_0, hl244_1, hi244_1⟩ := at_T49 HR0.out x5_1 p244 q244
           (try rw [← Nbq11.out] at hx244_2)
           cases e244
           have HR244_0 := Aside0.mk hi244_0
           have HC244_0 := Aside0.mk hl244_0
           clear hi244_0 hl244_0
           have HR244_1 := Aside0.mk hi244_1
           have HC244_1 := Aside0.mk hl244_1
           clear hi244_1 hl244_1
           replace p244 := eq_true p244
           replace q244 := eq_true q244
           have hcv20 := Kd.C_string (P := Try.prog) (A := A244_0) (c := c244_0) Try.underlying23 Try.underlying5 Try.underlying9 HR244_0.out
           have p245 : 0 ≤ (x5_1 : Int) := of_decide_eq_true (by first | (with_reducible assumption) | assumption)
           have q245 : x5_1 < (l1.length : Int) := of_decide_eq_true (by first | (with_reducible assumption) | assumption)
           obtain ⟨ad245, A245_0, c245_0, A245_1, c245_1, e245, hx245_0, hx245_1, hx245_2, hl245_0, hi245_0, hl245_1, hi245_1⟩ := at_T49 HR1.out x5_1 p245 q245
           (try rw [← Nbq11.out] at hx245_2)
           cases e245
           have HR245_0 := Aside0.mk hi245_0
           have HC245_0 := Aside0.mk hl245_0
           clear hi245_0 hl245_0
           have HR245_1 := Aside0.mk hi245_1
           have HC245_1 := Aside0.mk hl245_1
           clear hi245_1 hl245_1
           replace p245 := eq_true p245
           replace q245 := eq_true q245
           have hcv21 := Kd.C_string (P := Try.prog) (A := A245_0) (c := c245_0) Try.underlying23 Try.underlying5 Try.underlying9 HR245_0.out
           have p246 : 0 ≤ (x5_1 : Int) := of_decide_eq_true (by first | (with_reducible assumption) | assumption)
           have q246 : x5_1 < (l0.length : Int) := of_decide_eq_true (by first | (with_reducible assumption) | assumption)
           obtain ⟨ad246, A246_0, c246_0, A246_1, c246_1, e246, hx246_0, hx246_1, hx246_2, hl246_0, hi246_0, hl246_1, hi246_1⟩ := at_T49 HR0.out x5_1 p246 q246
           (try rw [← Nbq11.out] at hx246_2)
           obtain rfl : ad244 = ad246 := (by injection e246)
           have HR246_0 := Aside0.mk hi246_0
           have HC246_0 := Aside0.mk hl246_0
           clear hi246_0 hl246_0
           have HR246_1 := Aside0.mk hi246_1
           have HC246_1 := Aside0.mk hl246_1
           clear hi246_1 hl246_1
           replace p246 := eq_true p246
           replace q246 := eq_true q246
           have ea_ := Option.some.inj (hx244_0.symm.trans hx246_0)
           injection ea_ with ea_ en_ ec_
           subst ea_
           subst ec_
           clear en_
           have ea_ := Option.some.inj (hx244_1.symm.trans hx246_1)
           injection ea_ with ea_ en_ ec_
           subst ea_
           subst ec_
           clear en_
           have p247 : 0 ≤ (x5_1 : Int) := of_decide_eq_true (by first | (with_reducible assumption) | assumption)
           have q247 : x5_1 < (l1.length : Int) := of_decide_eq_true (by first | (with_reducible assumption) | assumption)
           obtain ⟨ad247, A247_0, c247_0, A247_1, c247_1, e247, hx247_0, hx247_1, hx247_2, hl247_0, hi247_0, hl247_1, hi247_1⟩ := at_T49 HR1.out x5_1 p247 q247
           (try rw [← Nbq11.out] at hx247_2)
           obtain rfl : ad245 = ad247 := (by injection e247)
           have HR247_0 := Aside0.mk hi247_0
           have HC247_0 := Aside0.mk hl247_0
           clear hi247_0 hl247_0
           have HR247_1 := Aside0.mk hi247_1
           have HC247_1 := Aside0.mk hl247_1
           clear hi247_1 hl247_1
           replace p247 := eq_true p247
           replace q247 := eq_true q247
           have ea_ := Option.some.inj (hx245_0.symm.trans hx247_0)
           injection ea_ with ea_ en_ ec_
           subst ea_
           subst ec_
           clear en_
           have ea_ := Option.some.inj (hx245_1.symm.trans hx247_1)
           injection ea_ with ea_ en_ ec_
           subst ea_
           subst ec_
           clear en_
           have p248 : 0 ≤ (x5_1 : Int) := of_decide_eq_true (by first | (with_reducible assumption) | assumption)
           have q248 : x5_1 < (l0.length : Int) := of_decide_eq_true (by first | (with_reducible assumption) | assumption)
           obtain ⟨ad248, A248_0, c248_0, A248_1, c248_1, e248, hx248_0, hx248_1, hx248_2, hl248_0, hi248_0, hl248_1, hi248_1⟩ := at_T49 HR0.out x5_1 p248 q248
           (try rw [← Nbq11.out] at hx248_2)
           obtain rfl : ad244 = ad248 := (by injection e248)
           have HR248_0 := Aside0.mk hi248_0
           have HC248_0 := Aside0.mk hl248_0
           clear hi248_0 hl248_0
           have HR248_1 := Aside0.mk hi248_1
           have HC248_1 := Aside0.mk hl248_1
           clear hi248_1 hl248_1
           replace p248 := eq_true p248
           replace q248 := eq_true q248
           have ea_ := Option.some.inj (hx244_0.symm.trans hx248_0)
           injection ea_ with ea_ en_ ec_
           subst ea_
           subst ec_
           clear en_
           have ea_ := Option.some.inj (hx244_1.symm.trans hx248_1)
           injection ea_ with ea_ en_ ec_
           subst ea_
           subst ec_
           clear en_
           have p249 : 0 ≤ (x5_1 : Int) := of_decide_eq_true (by first | (with_reducible assumption) | assumption)
           have q249 : x5_1 < (l0.length : Int) := of_decide_eq_true (by first | (with_reducible assumption) | assumption)
           obtain ⟨ad249, A249_0, c249_0, A249_1, c249_1, e249, hx249_0, hx249_1, hx249_2, hl249_0, hi249_0, hl249_1, hi249_1⟩ := at_T49 HR0.out x5_1 p249 q249
           (try rw [← Nbq11.out] at hx249_2)
           obtain rfl : ad244 = ad249 := (by injection e249)
           have HR249_0 := Aside0.mk hi249_0
           have HC249_0 := Aside0.mk hl249_0
           clear hi249_0 hl249_0
           have HR249_1 := Aside0.mk hi249_1
           have HC249_1 := Aside0.mk hl249_1
           clear hi249_1 hl249_1
           replace p249 := eq_true p249
           replace q249 := eq_true q249
           have ea_ := Option.some.inj (hx244_0.symm.trans hx249_0)
           injection ea_ with ea_ en_ ec_
           subst ea_
           subst ec_
           clear en_
           have ea_ := Option.some.inj (hx244_1.symm.trans hx249_1)
           injection ea_ with ea_ en_ ec_
           subst ea_
           subst ec_
           clear en_
           have hcv22 := Kd.C_string (P := Try.prog) (A := A244_1) (c := c244_1) Try.underlying23 Try.underlying5 Try.underlying9 HR249_1.out
           have p250 : 0 ≤ (x5_1 : Int) := of_decide_eq_true (by first | (with_reducible assumption) | assumption)
           have q250 : x5_1 < (l1.length : Int) := of_decide_eq_true (by first | (with_reducible assumption) | assumption)
           obtain ⟨ad250, A250_0, c250_0, A250_1, c250_1, e250, hx250_0, hx250_1, hx250_2, hl250_0, hi250_0, hl250_1, hi250_1⟩ := at_T49 HR1.out x5_1 p250 q250
           (try rw [← Nbq11.out] at hx250_2)
           obtain rfl : ad245 = ad250 := (by injection e250)
           have HR250_0 := Aside0.mk hi250_0
           have HC250_0 := Aside0.mk hl250_0
           clear hi250_0 hl250_0
           have HR250_1 := Aside0.mk hi250_1
           have HC250_1 := Aside0.mk hl250_1
           clear hi250_1 hl250_1
           replace p250 := eq_true p250
           replace q250 := eq_true q250
           have ea_ := Option.some.inj (hx245_0.symm.trans hx250_0)
           injection ea_ with ea_ en_ ec_
           subst ea_
           subst ec_
           clear en_
           have ea_ := Option.some.inj (hx245_1.symm.trans hx250_1)
           injection ea_ with ea_ en_ ec_
           subst ea_
           subst ec_
           clear en_
           have hcv23 := Kd.C_string (P := Try.prog) (A := A245_1) (c := c245_1) Try.underlying23 Try.underlying5 Try.underlying9 HR250_1.out
           go_wp2
           have c8z := c8b0
           rw [← Nbq11.out] at c8z
           have hz_ : (rd_T49 l1 x5_1).f2 = false := by simpa using c8z
           clear c8z
           have hxz_ := hx245_2
           rw [hz_] at hxz_
           clear hz_
           refine start_ (n := 49) (S := fun w' => w'.cell? (ad244.add (x5_1.toNat * 3)) = some (.slice A244_0 (rd_T49 l0 x5_1).f0.length c244_0) ∧ w'.cell? ⟨(ad244.add (x5_1.toNat * 3)).block, (ad244.add (x5_1.toNat * 3)).off + 1, none⟩ = some (.slice A244_1 (rd_T49 l0 x5_1).f1.length c244_1) ∧ w'.cell? ⟨(ad244.add (x5_1.toNat * 3)).block, (ad244.add (x5_1.toNat * 3)).off + 2, none⟩ = some (.bool false) ∧ w'.cell? (ad245.add (x5_1.toNat * 3)) = some (.slice A245_0 (rd_T49 l1 x5_1).f0.length c245_0) ∧ w'.cell? ⟨(ad245.add (x5_1.toNat * 3)).block, (ad245.add (x5_1.toNat * 3)).off + 1, none⟩ = some (.slice A245_1 (rd_T49 l1 x5_1).f1.length c245_1) ∧ w'.cell? ⟨(ad245.add (x5_1.toNat * 3)).block, (ad245.add (x5_1.toNat * 3)).off + 2, none⟩ = some (.bool false) ∧ Kd.C (Kd.int .u8) w' A244_0 (rd_T49 l0 x5_1).f0.length (rd_T49 l0 x5_1).f0 ∧ Kd.C (Kd.int .u8) w' A245_0 (rd_T49 l1 x5_1).f0.length (rd_T49 l1 x5_1).f0 ∧ Kd.C (Kd.int .u8) w' A244_1 (rd_T49 l0 x5_1).f1.length (rd_T49 l0 x5_1).f1 ∧ Kd.C (Kd.int .u8) w' A245_1 (rd_T49 l1 x5_1).f1.length (rd_T49 l1 x5_1).f1) (ds := []) (bA 49 0) (by kernel_rfl) rfl rfl ⟨hx244_0, hx244_1, hx244_2, hx245_0, hx245_1, hxz_, (by first | exact Kd.C_drewN HR244_0.out _ | exact Kd.C_drew (Kd.C_drewN HR244_0.out _) | exact Kd.C_drew HR244_0.out | exact HR244_0.out), (by first | exact Kd.C_drewN HR245_0.out _ | exact Kd.C_drew (Kd.C_drewN HR245_0.out _) | exact Kd.C_drew HR245_0.out | exact HR245_0.out), (by first | exact Kd.C_drewN HR244_1.out _ | exact Kd.C_drew (Kd.C_drewN HR244_1.out _) | exact Kd.C_drew HR244_1.out | exact HR244_1.out), (by first | exact Kd.C_drewN HR245_1.out _ | exact Kd.C_drew (Kd.C_drewN HR245_1.out _) | exact Kd.C_drew HR245_1.out | exact HR245_1.out)⟩ (fun hHeld => ?_)
           refine norm_ (by rfl) ?_
           refine pK 0 (some 17) (bA 49 1) ?_
           refine pK 1 (some 18) (bA 49 3) ?_
           refine pK 2 (some 19) (bA 49 7) ?_
           refine pK 3 (some 20) (bA 49 15) ?_
           refine tK 4 (some 21) (bA 49 31) rfl rfl hHeld (by rintro w' ⟨s0, s1, s2, s3, s4, s5, s6, s7, s8, s9⟩; go_simp; with_reducible rfl) ?_
           refine tK 5 (some 22) (bA 49 63) rfl rfl hHeld (by rintro w' ⟨s0, s1, s2, s3, s4, s5, s6, s7, s8, s9⟩; have e_ := Kd.C_string (P := Try.prog) (c := c244_0) Try.underlying23 Try.underlying5 Try.underlying9 s6; go_simp; with_reducible rfl) ?_
           refine pK 6 (some 23) (bA 49 127) ?_
           refine pK 7 (some 24) (bA 49 255) ?_
           refine pK 8 (some 25) (bA 49 511) ?_
           refine pK 9 (some 26) (bA 49 1023) ?_
           refine tK 10 (some 27) (bA 49 2047) rfl rfl hHeld (by rintro w' ⟨s0, s1, s2, s3, s4, s5, s6, s7, s8, s9⟩; go_simp; with_reducible rfl) ?_
           refine tK 11 (some 28) (bA 49 4095) rfl rfl hHeld (by rintro w' ⟨s0, s1, s2, s3, s4, s5, s6, s7, s8, s9⟩; have e_ := Kd.C_string (P := Try.prog) (c := c245_0) Try.underlying23 Try.underlying5 Try.underlying9 s7; go_simp; with_reducible rfl) ?_
           refine pK 12 (some 29) (bA 49 8191) ?_
           refine pK 13 (some 30) (bA 49 16383) ?_
           refine pK 14 (some 31) (bA 49 32767) ?_
           refine pK 15 (some 32) (bA 49 65535) ?_
           refine pK 16 (some 33) (bA 49 131071) ?_
           refine pK 17 (some 34) (bA 49 262143) ?_
           refine tK 18 (some 35) (bA 49 524287) rfl rfl hHeld (by rintro w' ⟨s0, s1, s2, s3, s4, s5, s6, s7, s8, s9⟩; go_simp; with_reducible rfl) ?_
           refine pK 19 (some 36) (bA 49 1048575) ?_
           refine pK 20 (some 37) (bA 49 2097151) ?_
           refine pK 21 (some 38) (bA 49 4194303) ?_
           refine pK 22 (some 39) (bA 49 8388607) ?_
           refine tK 23 (some 40) (bA 49 16777215) rfl rfl hHeld (by rintro w' ⟨s0, s1, s2, s3, s4, s5, s6, s7, s8, s9⟩; go_simp; with_reducible rfl) ?_
           refine pK 24 (some 41) (bA 49 33554431) ?_
           refine pK 25 (some 42) (bA 49 67108863) ?_
           refine pK 26 (some 43) (bA 49 134217727) ?_
           refine pK 27 (some 44) (bA 49 268435455) ?_
           refine pK 28 (some 45) (bA 49 536870911) ?_
           refine pK 29 (some 46) (bA 49 1073741823) ?_
           refine pK 30 (some 47) (bA 49 2147483647) ?_
           refine tK 31 (some 48) (bA 49 4294967295) rfl rfl hHeld (by rintro w' ⟨s0, s1, s2, s3, s4, s5, s6, s7, s8, s9⟩; go_simp; with_reducible rfl) ?_
           refine pK 32 (some 49) (bA 49 8589934591) ?_
           refine pK 33 (some 50) (bA 49 17179869183) ?_
           refine pK 34 (some 51) (bA 49 34359738367) ?_
           refine pK 35 (some 52) (bA 49 68719476735) ?_
           refine pK 36 (some 53) (bA 49 137438953471) ?_
           refine pK 37 (some 54) (bA 49 274877906943) ?_
           refine tK 38 (some 55) (bA 49 549755813887) rfl rfl hHeld (by rintro w' ⟨s0, s1, s2, s3, s4, s5, s6, s7, s8, s9⟩; go_simp; with_reducible rfl) ?_
           refine tK 39 (some 56) (bA 49 1099511627775) rfl rfl hHeld (by rintro w' ⟨s0, s1, s2, s3, s4, s5, s6, s7, s8, s9⟩; have e_ := Kd.C_string (P := Try.prog) (c := c244_1) Try.underlying23 Try.underlying5 Try.underlying9 s8; go_simp; with_reducible rfl) ?_
           refine pK 40 (some 57) (bA 49 2199023255551) ?_
           refine pK 41 (some 58) (bA 49 4398046511103) ?_
           refine pK 42 (some 59) (bA 49 8796093022207) ?_
           refine pK 43 (some 60) (bA 49 17592186044415) ?_
           refine tK 44 (some 61) (bA 49 35184372088831) rfl rfl hHeld (by rintro w' ⟨s0, s1, s2, s3, s4, s5, s6, s7, s8, s9⟩; go_simp; with_reducible rfl) ?_
           refine tK 45 (some 62) (bA 49 70368744177663) rfl rfl hHeld (by rintro w' ⟨s0, s1, s2, s3, s4, s5, s6, s7, s8, s9⟩; have e_ := Kd.C_string (P := Try.prog) (c := c245_1) Try.underlying23 Try.underlying5 Try.underlying9 s9; go_simp; with_reducible rfl) ?_
           refine pK 46 (some 63) (bA 49 140737488355327) ?_
           refine pK 47 (some 64) (bA 49 281474976710655) ?_
           refine pK 48 (some 65) (bA 49 562949953421311) ?_
           refine done_ (by kernel_rfl) ?_
           clear hHeld
           go_wp2
           go_ret
           exact ⟨by first | rfl | (simp; done) | (simp [*]; done), by repeat (first | exact Drawn0.refl _ | apply Drawn0.step)⟩
       ·rw [if_neg c7] at H
        have c7b0 : ((strOfNums ((rd_T49 l0 x5_1).f0)).toList == (strOfNums ((rd_T49 l1 x5_1).f0)).toList) = false := beq_eq_false_iff_ne.mpr c7
        have c7b1 : ((strOfNums ((rd_T49 l0 x5_1).f0)).toList != (strOfNums ((rd_T49 l1 x5_1).f0)).toList) = true := bne_iff_ne.mpr c7
        obtain rfl := Option.some.inj H
        have p244 : 0 ≤ (x5_1 : Int) := of_decide_eq_true (by first | (with_reducible assumption) | assumption)
        have q244 : x5_1 < (l0.length : Int) := of_decide_eq_true (by first | (with_reducible assumption) | assumption)
        obtain ⟨ad244, A244_0, c244_0, A244_1, c244_1, e244, hx244_0, hx244_1, hx244_2, hl244_0, hi244_0, hl244_1, hi244_1⟩ := at_T49 HR0.out x5_1 p244 q244
        cases e244
        have HR244_0 := Aside0.mk hi244_0
        have HC244_0 := Aside0.mk hl244_0
        clear hi244_0 hl244_0
        have HR244_1 := Aside0.mk hi244_1
        have HC244_1 := Aside0.mk hl244_1
        clear hi244_1 hl244_1
        replace p244 := eq_true p244
        replace q244 := eq_true q244
        have hcv24 := Kd.C_string (P := Try.prog) (A := A244_0) (c := c244_0) Try.underlying23 Try.underlying5 Try.underlying9 HR244_0.out
        have p245 : 0 ≤ (x5_1 : Int) := of_decide_eq_true (by first | (with_reducible assumption) | assumption)
        have q245 : x5_1 < (l1.length : Int) := of_decide_eq_true (by first | (with_reducible assumption) | assumption)
        obtain ⟨ad245, A245_0, c245_0, A245_1, c245_1, e245, hx245_0, hx245_1, hx245_2, hl245_0, hi245_0, hl245_1, hi245_1⟩ := at_T49 HR1.out x5_1 p245 q245
        cases e245
        have HR245_0 := Aside0.mk hi245_0
        have HC245_0 := Aside0.mk hl245_0
        clear hi245_0 hl245_0
        have HR245_1 := Aside0.mk hi245_1
        have HC245_1 := Aside0.mk hl245_1
        clear hi245_1 hl245_1
        replace p245 := eq_true p245
        replace q245 := eq_true q245
        have hcv25 := Kd.C_string (P := Try.prog) (A := A245_0) (c := c245_0) Try.underlying23 Try.underlying5 Try.underlying9 HR245_0.out
        go_wp2
        refine start_ (n := 49) (S := fun w' => w'.cell? (ad244.add (x5_1.toNat * 3)) = some (.slice A244_0 (rd_T49 l0 x5_1).f0.length c244_0) ∧ w'.cell? ⟨(ad244.add (x5_1.toNat * 3)).block, (ad244.add (x5_1.toNat * 3)).off + 1, none⟩ = some (.slice A244_1 (rd_T49 l0 x5_1).f1.length c244_1) ∧ w'.cell? ⟨(ad244.add (x5_1.toNat * 3)).block, (ad244.add (x5_1.toNat * 3)).off + 2, none⟩ = some (.bool (rd_T49 l0 x5_1).f2) ∧ w'.cell? (ad245.add (x5_1.toNat * 3)) = some (.slice A245_0 (rd_T49 l1 x5_1).f0.length c245_0) ∧ w'.cell? ⟨(ad245.add (x5_1.toNat * 3)).block, (ad245.add (x5_1.toNat * 3)).off + 1, none⟩ = some (.slice A245_1 (rd_T49 l1 x5_1).f1.length c245_1) ∧ w'.cell? ⟨(ad245.add (x5_1.toNat * 3)).block, (ad245.add (x5_1.toNat * 3)).off + 2, none⟩ = some (.bool (rd_T49 l1 x5_1).f2) ∧ Kd.C (Kd.int .u8) w' A244_0 (rd_T49 l0 x5_1).f0.length (rd_T49 l0 x5_1).f0 ∧ Kd.C (Kd.int .u8) w' A245_0 (rd_T49 l1 x5_1).f0.length (rd_T49 l1 x5_1).f0 ∧ Kd.C (Kd.int .u8) w' A244_1 (rd_T49 l0 x5_1).f1.length (rd_T49 l0 x5_1).f1 ∧ Kd.C (Kd.int .u8) w' A245_1 (rd_T49 l1 x5_1).f1.length (rd_T49 l1 x5_1).f1) (ds := []) (bA 49 0) (by kernel_rfl) rfl rfl ⟨hx244_0, hx244_1, hx244_2, hx245_0, hx245_1, hx245_2, (by first | exact Kd.C_drewN HR244_0.out _ | exact Kd.C_drew (Kd.C_drewN HR244_0.out _) | exact Kd.C_drew HR244_0.out | exact HR244_0.out), (by first | exact Kd.C_drewN HR245_0.out _ | exact Kd.C_drew (Kd.C_drewN HR245_0.out _) | exact Kd.C_drew HR245_0.out | exact HR245_0.out), (by first | exact Kd.C_drewN HR244_1.out _ | exact Kd.C_drew (Kd.C_drewN HR244_1.out _) | exact Kd.C_drew HR244_1.out | exact HR244_1.out), (by first | exact Kd.C_drewN HR245_1.out _ | exact Kd.C_drew (Kd.C_drewN HR245_1.out _) | exact Kd.C_drew HR245_1.out | exact HR245_1.out)⟩ (fun hHeld => ?_)
        refine norm_ (by rfl) ?_
        refine pK 0 (some 17) (bA 49 1) ?_
        refine pK 1 (some 18) (bA 49 3) ?_
        refine pK 2 (some 19) (bA 49 7) ?_
        refine pK 3 (some 20) (bA 49 15) ?_
        refine tK 4 (some 21) (bA 49 31) rfl rfl hHeld (by rintro w' ⟨s0, s1, s2, s3, s4, s5, s6, s7, s8, s9⟩; go_simp; with_reducible rfl) ?_
        refine tK 5 (some 22) (bA 49 63) rfl rfl hHeld (by rintro w' ⟨s0, s1, s2, s3, s4, s5, s6, s7, s8, s9⟩; have e_ := Kd.C_string (P := Try.prog) (c := c244_0) Try.underlying23 Try.underlying5 Try.underlying9 s6; go_simp; with_reducible rfl) ?_
        refine pK 6 (some 23) (bA 49 127) ?_
        refine pK 7 (some 24) (bA 49 255) ?_
        refine pK 8 (some 25) (bA 49 511) ?_
        refine pK 9 (some 26) (bA 49 1023) ?_
        refine tK 10 (some 27) (bA 49 2047) rfl rfl hHeld (by rintro w' ⟨s0, s1, s2, s3, s4, s5, s6, s7, s8, s9⟩; go_simp; with_reducible rfl) ?_
        refine tK 11 (some 28) (bA 49 4095) rfl rfl hHeld (by rintro w' ⟨s0, s1, s2, s3, s4, s5, s6, s7, s8, s9⟩; have e_ := Kd.C_string (P := Try.prog) (c := c245_0) Try.underlying23 Try.underlying5 Try.underlying9 s7; go_simp; with_reducible rfl) ?_
        refine pK 12 (some 29) (bA 49 8191) ?_
        refine pK 13 (some 30) (bA 49 16383) ?_
        refine uK 14 (some 31) (bA 49 32767) ?_
        refine uK 15 (some 32) (bA 49 65535) ?_
        refine uK 16 (some 33) (bA 49 131071) ?_
        refine uK 17 (some 34) (bA 49 262143) ?_
        refine uK 18 (some 35) (bA 49 524287) ?_
        refine uK 19 (some 36) (bA 49 1048575) ?_
        refine uK 20 (some 37) (bA 49 2097151) ?_
        refine uK 21 (some 38) (bA 49 4194303) ?_
        refine uK 22 (some 39) (bA 49 8388607) ?_
        refine uK 23 (some 40) (bA 49 16777215) ?_
        refine uK 24 (some 41) (bA 49 33554431) ?_
        refine pK 25 (some 42) (bA 49 67108863) ?_
        refine pK 26 (some 43) (bA 49 134217727) ?_
        refine uK 27 (some 44) (bA 49 268435455) ?_
        refine uK 28 (some 45) (bA 49 536870911) ?_
        refine uK 29 (some 46) (bA 49 1073741823) ?_
        refine uK 30 (some 47) (bA 49 2147483647) ?_
        refine uK 31 (some 48) (bA 49 4294967295) ?_
        refine uK 32 (some 49) (bA 49 8589934591) ?_
        refine uK 33 (some 50) (bA 49 17179869183) ?_
        refine uK 34 (some 51) (bA 49 34359738367) ?_
        refine uK 35 (some 52) (bA 49 68719476735) ?_
        refine uK 36 (some 53) (bA 49 137438953471) ?_
        refine uK 37 (some 54) (bA 49 274877906943) ?_
        refine uK 38 (some 55) (bA 49 549755813887) ?_
        refine uK 39 (some 56) (bA 49 1099511627775) ?_
        refine uK 40 (some 57) (bA 49 2199023255551) ?_
        refine uK 41 (some 58) (bA 49 4398046511103) ?_
        refine uK 42 (some 59) (bA 49 8796093022207) ?_
        refine uK 43 (some 60) (bA 49 17592186044415) ?_
        refine uK 44 (some 61) (bA 49 35184372088831) ?_
        refine uK 45 (some 62) (bA 49 70368744177663) ?_
        refine uK 46 (some 63) (bA 49 140737488355327) ?_
        refine uK 47 (some 64) (bA 49 281474976710655) ?_
        refine pK 48 (some 65) (bA 49 562949953421311) ?_
        refine done_ (by kernel_rfl) ?_
        clear hHeld
        go_wp2
        go_ret
        exact ⟨by first | rfl | (simp; done) | (simp [*]; done), by repeat (first | exact Drawn0.refl _ | apply Drawn0.step)⟩
      ·rw [if_neg c6] at H
       exact absurd H (by simp)
     ·rw [if_neg c5] at H
      exact absurd H (by simp)
    ·rw [if_neg c4] at H
     have c4b0 : decide (x5_1 < (l0.length : Int)) = false := decide_eq_false c4
     clear c4
     obtain rfl := Option.some.inj H
     go_wp2
     repeat (go_quiet (fail); try go_wp2)
     go_ret
     exact ⟨by first | rfl | (simp; done) | (simp [*]; done), by repeat (first | exact Drawn0.refl _ | apply Drawn0.step)⟩
 ·rw [if_neg c3] at H
  have c3b0 : ((l0.length : Int) == (l1.length : Int)) = false := beq_eq_false_iff_ne.mpr c3
  have c3b1 : ((l0.length : Int) != (l1.length : Int)) = true := bne_iff_ne.mpr c3
  have c3b2 : (l0.length == l1.length) = false := by first | simpa using c3 | (simp at c3 ⊢; omega)
  obtain rfl := Option.some.inj H
  go_enter Try.func23, Try.ntmps23
  go_wp2
  repeat (go_quiet (fail); try go_wp2)
  go_ret
  exact ⟨by first | rfl | (simp; done) | (simp [*]; done), by repeat (first | exact Drawn0.refl _ | apply Drawn0.step)⟩

-- NOT PRINTED: function 63 (frame_read_1)

/-! ### octet_Get: function 59 -/
def getI : Int → List Int → Int
  | a, [] => a
  | a, c :: cs => getI (Go.bits .or .u64 (IntKind.u64.wrap (a * 256)) (IntKind.u64.wrap c)) cs
theorem getI_snoc (a : Int) (l : List Int) (c : Int) : getI a (l ++ [c]) = Go.bits .or .u64 (IntKind.u64.wrap (getI a l * 256)) (IntKind.u64.wrap c) := by
  induction l generalizing a with
  | nil => rfl
  | cons x xs ih => exact ih _
theorem intOf_int (k : IntKind) (q : Int) : intOf (Value.int k q) = q := rfl
theorem getI_less (n j : Nat) (h : wrap64 ((j : Int) + 1) = ((j + 1 : Nat) : Int)) (hlt : j < n) :
    n - (intOf (Value.int IntKind.i64 (wrap64 ((j : Int) + 1)))).toNat < n - (intOf (Value.int IntKind.i64 (j : Int))).toNat := by
  rw [intOf_int, intOf_int, h, Int.toNat_natCast, Int.toNat_natCast]
  exact Nat.sub_lt_sub_left hlt (Nat.lt_succ_self j)
def octet_Get.f (l0 : List Int) (a1 : Int) : Option (Int × Bool) := if a1 < 0 then (some (0, false)) else (if a1 > 8 then (some (0, false)) else (if a1 > (l0.length : Int) then (some (0, false)) else (some (getI 0 (l0.take a1.toNat), true))))
set_option maxHeartbeats 8000000 in
set_option maxRecDepth 100000 in
theorem octet_Get.small (A0 : Option Addr) (c0 : Nat) (l0 : List Int) (a1 : Int) (w : World) (c1b : decide (a1 < 0) = true) :
    Calls Try.prog 59 #[.slice A0 l0.length c0, .int .i64 a1] w fun e w' => e = .returned (.tuple #[.int .u64 0, .bool false]) ∧ Drawn0 w w' := by
  go_enter Try.func59, Try.ntmps59
  go_wp2
  repeat (go_quiet (fail); try go_wp2)
  go_ret2
  exact ⟨rfl, by repeat (first | exact Drawn0.refl _ | apply Drawn0.step)⟩
set_option maxHeartbeats 8000000 in
set_option maxRecDepth 100000 in
theorem octet_Get.great (A0 : Option Addr) (c0 : Nat) (l0 : List Int) (a1 : Int) (w : World) (c1b : decide (a1 < 0) = false) (c2b : decide (8 < a1) = true) :
    Calls Try.prog 59 #[.slice A0 l0.length c0, .int .i64 a1] w fun e w' => e = .returned (.tuple #[.int .u64 0, .bool false]) ∧ Drawn0 w w' := by
  go_enter Try.func59, Try.ntmps59
  go_wp2
  repeat (go_quiet (fail); try go_wp2)
  go_ret2
  exact ⟨rfl, by repeat (first | exact Drawn0.refl _ | apply Drawn0.step)⟩
set_option maxHeartbeats 8000000 in
set_option maxRecDepth 100000 in
theorem octet_Get.short (A0 : Option Addr) (c0 : Nat) (l0 : List Int) (a1 : Int) (w : World) (c1b : decide (a1 < 0) = false) (c2b : decide (8 < a1) = false) (c3b : decide ((l0.length : Int) < a1) = true) :
    Calls Try.prog 59 #[.slice A0 l0.length c0, .int .i64 a1] w fun e w' => e = .returned (.tuple #[.int .u64 0, .bool false]) ∧ Drawn0 w w' := by
  go_enter Try.func59, Try.ntmps59
  go_wp2
  repeat (go_quiet (fail); try go_wp2)
  go_ret2
  exact ⟨rfl, by repeat (first | exact Drawn0.refl _ | apply Drawn0.step)⟩
set_option maxHeartbeats 8000000 in
set_option maxRecDepth 100000 in
theorem octet_Get.there (A0 : Option Addr) (c0 : Nat) (l0 : List Int) (n : Nat) (w : World) (HR0 : Aside0 (Kd.C (Kd.int .u8) w A0 l0.length l0)) (HC0 : Aside0 (l0.length ≤ c0)) (HN : Aside0 (n ≤ l0.length)) (hnc : Aside0 (n ≤ 8)) :
    Calls Try.prog 59 #[.slice A0 l0.length c0, .int .i64 (n : Int)] w fun e w' => e = .returned (.tuple #[.int .u64 (getI 0 (l0.take n)), .bool true]) ∧ Drawn0 w w' := by
  have hnl := HN.out
  have hn8 := hnc.out
  have c1b : decide ((n : Int) < 0) = false := decide_eq_false (by omega)
  have c2b : decide (8 < (n : Int)) = false := decide_eq_false (by omega)
  have c3b : decide ((l0.length : Int) < (n : Int)) = false := decide_eq_false (by omega)
  have c4b : decide (l0.length < n) = false := decide_eq_false (by omega)
  have c5b : decide (8 < n) = false := decide_eq_false (by omega)
  obtain ⟨i0, hi0, _, hsz, _⟩ := info_parts info5
  have hcut := cut_to (P := Try.prog) 23 5 .i64 Try.underlying23 hi0 A0 l0.length c0 (n : Int) (by omega) (by omega) HC0.out
  rw [Int.toNat_natCast] at hcut
  clear hi0 hsz hnl hn8
  go_enter Try.func59, Try.ntmps59
  go_wp2
  repeat (go_quiet (fail); try go_wp2)
  go_loop [6, 25] (fun v6 v25 => ∃ j : Nat, j ≤ n ∧ v6 = .int .u64 (getI 0 (l0.take j)) ∧ v25 = .int .i64 (j : Int)) (fun _ v25 => n - (intOf v25).toNat)
  case atStart => exact ⟨0, Nat.zero_le _, by simp [getI], rfl⟩
  case round =>
    obtain ⟨j, hj, rfl, rfl⟩ := hrel
    by_cases hlt : j < n
    · have hln := HN.out
      have hn8 := hnc.out
      have d1 : decide (j < n) = true := decide_eq_true hlt
      have d2 : decide ((j : Int) < (n : Int)) = true := decide_eq_true (by omega)
      obtain ⟨ad, he, hx⟩ := Kd.at_int HR0.out (j : Int) (by omega) (by omega)
      have hsn := getI_snoc 0 (l0.take j) (rd l0 (j : Int))
      have hts : l0.take (j + 1) = l0.take j ++ [rd l0 (j : Int)] := by
        rw [List.take_succ_eq_append_getElem (by omega)]
        simp [rd, List.getD_eq_getElem?_getD, List.getElem?_eq_getElem (show j < l0.length by omega)]
      rw [← hts] at hsn
      have HS := Aside0.mk hsn
      cases he
      have p1 : (0 ≤ (j : Int)) = True := eq_true (by omega)
      have p2 : ((j : Int) < (n : Int)) = True := eq_true (by omega)
      have p3 : (j < n) = True := eq_true hlt
      rw [Int.toNat_natCast] at hx
      have HW := Aside0.mk (show wrap64 ((j : Int) + 1) = ((j + 1 : Nat) : Int) from by unfold wrap64; omega)
      clear hsn hts hln hj hn8 hlt
      go_wp2
      repeat (go_quiet (fail); try go_wp2)
      go_round
      case rel => exact ⟨j + 1, by have := of_eq_true p3; omega, congrArg (Value.int .u64) HS.out.symm, congrArg (Value.int .i64) HW.out⟩
      case measure => exact getI_less n j HW.out (of_eq_true p3)
    · have d1 : decide (j < n) = false := decide_eq_false hlt
      have d2 : decide ((j : Int) < (n : Int)) = false := decide_eq_false (by omega)
      have hjn : j = n := by omega
      subst hjn
      clear hlt hj
      go_wp2
      repeat (go_quiet (fail); try go_wp2)
      go_ret2
      exact ⟨rfl, by repeat (first | exact Drawn0.refl _ | apply Drawn0.step)⟩
theorem octet_Get.calls (A0 : Option Addr) (c0 : Nat) (l0 : List Int) (a1 : Int) (r1 : Int) (r2 : Bool) (w : World) (hr0 : Kd.C (Kd.int .u8) w A0 l0.length l0) (hc0 : l0.length ≤ c0) (h : octet_Get.f l0 a1 = some (r1, r2)) :
    Calls Try.prog 59 #[.slice A0 l0.length c0, .int .i64 a1] w fun e w' => e = .returned (.tuple #[.int .u64 r1, .bool r2]) ∧ Drawn0 w w' := by
  unfold octet_Get.f at h
  by_cases c1 : a1 < 0
  · rw [if_pos c1] at h
    cases h
    exact octet_Get.small A0 c0 l0 a1 w (decide_eq_true c1)
  rw [if_neg c1] at h
  by_cases c2 : a1 > 8
  · rw [if_pos c2] at h
    cases h
    exact octet_Get.great A0 c0 l0 a1 w (decide_eq_false c1) (decide_eq_true c2)
  rw [if_neg c2] at h
  by_cases c3 : a1 > (l0.length : Int)
  · rw [if_pos c3] at h
    cases h
    exact octet_Get.short A0 c0 l0 a1 w (decide_eq_false c1) (decide_eq_false c2) (decide_eq_true c3)
  rw [if_neg c3] at h
  obtain ⟨n, rfl⟩ := Int.eq_ofNat_of_zero_le (show 0 ≤ a1 by omega)
  rw [Int.toNat_natCast] at h
  cases h
  exact octet_Get.there A0 c0 l0 n w ⟨hr0⟩ ⟨hc0⟩ ⟨by omega⟩ ⟨by omega⟩

-- NOT PRINTED: function 67 (frame_rest_take)

-- NOT PRINTED: function 64 (frame_rest_number)

-- NOT PRINTED: function 65 (frame_rest_entry)

end Go.Proofs.Ytmimfnangdabmaa.PFrameBatches

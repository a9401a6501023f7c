/- The walk of the Go functions that a law reaches, told as plain functions; a program of this session has written it. No condition beyond the statement's own. -/
import Derived.Test.YtmimfnangdabmaaPMergeTellsx1
import Derived.Test.YtmimfnangdabmaaPMergeTellsx0
namespace Go.Proofs.Ytmimfnangdabmaa.PMergeTells
open Go.RowKit Go.Proofs.YtmimfnangdabmaaW.PrintWords Go.Proofs.YtmimfnangdabmaaW.PrintLast Go.Proofs.YtmimfnangdabmaaW.PrintMore
attribute [local go_sem] max2_int min2_int max_two min_two max_three min_three max_four min_four   -- for this text's walks alone
set_option linter.unusedVariables false
set_option linter.unusedSimpArgs false

/-- A step of a region that yields in every world; one whose guard is off; one that reads what is held. -/
theorem pK {P : Program} {ops : Array Oper} {Q : Exit → Act → World → Prop} {md : Region.Mode} {S : World → Prop} {ds : List Nat} {oi : Oper} {v : Value} {fuel : Nat} {l : Array Bool} {a a' : Act} {w : World} (i : Nat) (N : Option Tmp) (l' : Array Bool) (h : wpAnyLast P md ops Q S ds fuel l' a' w)
    (hi : ops[i]? = some oi := by rfl) (hN : oi.dst = N := by rfl) (hc : anyB md ops l l' i = true := by kernel_rfl) (hQ : ∀ c a w, Q (.panic c) (a.put oi.dst v) w → Q (.panic c) a w := by exact fun _ _ _ h => h)
    (hy : Region.wanted oi (yielded ops a.tmps) = true := by rfl) (hy' : ∀ w, (execOp a.eval oi).run P w = .ok (.value v) w := by intro w'; go_simp; with_reducible rfl)
    (ha : a.put N v = a' := by simp only [Act.put, List.setIfInBounds_toArray, List.set_cons_zero, List.set_cons_succ, i64_w, i32_w]; rfl) : wpAnyLast P md ops Q S ds (fuel + 1) l a w :=
  pure_ l' hi hN hc hQ (Or.inl ⟨hy, hy'⟩) ha h
theorem uK {P : Program} {ops : Array Oper} {Q : Exit → Act → World → Prop} {md : Region.Mode} {S : World → Prop} {ds : List Nat} {oi : Oper} {fuel : Nat} {l : Array Bool} {a a' : Act} {w : World} (i : Nat) (N : Option Tmp) (l' : Array Bool) (h : wpAnyLast P md ops Q S ds fuel l' a' w)
    (hi : ops[i]? = some oi := by rfl) (hN : oi.dst = N := by rfl) (hc : anyB md ops l l' i = true := by kernel_rfl) (hQ : ∀ c a w, Q (.panic c) (a.put oi.dst undef) w → Q (.panic c) a w := by exact fun _ _ _ h => h)
    (hy : Region.wanted oi (yielded ops a.tmps) = false := by rfl)
    (ha : a.put N undef = a' := by simp only [Act.put, List.setIfInBounds_toArray, List.set_cons_zero, List.set_cons_succ, i64_w, i32_w]; rfl) : wpAnyLast P md ops Q S ds (fuel + 1) l a w :=
  pure_ l' hi hN hc hQ (Or.inr ⟨hy, rfl⟩) ha h
theorem tK {P : Program} {ops : Array Oper} {Q : Exit → Act → World → Prop} {md : Region.Mode} {S : World → Prop} {ds : List Nat} {oi : Oper} {v : Value} {fuel : Nat} {l : Array Bool} {a a' : Act} {w : World} (i : Nat) (N : Option Tmp) (l' : Array Bool) (hi : ops[i]? = some oi) (hN : oi.dst = N) (hS : S w) (hy' : ∀ w, S w → (execOp a.eval oi).run P w = .ok (.value v) w) (h : wpAnyLast P md ops Q S ds fuel l' a' w)
    (hc : takeB md ops ds l l' i = true := by kernel_rfl) (hQ : ∀ c a w, Q (.panic c) (a.put oi.dst v) w → Q (.panic c) a w := by exact fun _ _ _ h => h)
    (hy : Region.wanted oi (yielded ops a.tmps) = true := by rfl)
    (ha : a.put N v = a' := by simp only [Act.put, List.setIfInBounds_toArray, List.set_cons_zero, List.set_cons_succ, i64_w, i32_w]; rfl) : wpAnyLast P md ops Q S ds (fuel + 1) l a w :=
  take_ l' hi hN hc hQ (Or.inl ⟨hy, hy'⟩) hS ha h
theorem nK {P : Program} {ops : Array Oper} {Q : Exit → Act → World → Prop} {md : Region.Mode} {S : World → Prop} {ds : List Nat} {fuel : Nat} {l : Array Bool} {a a' : Act} {v : Value} {w : World} (N : Option Tmp) (h : wpAnyLast P md ops Q S ds fuel l a' w)
    (ha : a.put N v = a' := by simp only [Act.put, List.setIfInBounds_toArray, List.set_cons_zero, List.set_cons_succ, i64_w, i32_w]; rfl) : wpAnyLast P md ops Q S ds fuel l (a.put N v) w := norm_ ha h
theorem blk3 {w : World} {g : Nat} {t : TypeId} {x y z : Value} (h : w.heap[g]? = some (.cells #[x, y, z] t (0, 0))) : w.cell? ⟨g, 0, none⟩ = some x ∧ w.cell? ⟨g, 1, none⟩ = some y ∧ w.cell? ⟨g, 2, none⟩ = some z ∧ w.frozen? ⟨g, 0, none⟩ = false ∧ w.frozen? ⟨g, 1, none⟩ = false ∧ w.frozen? ⟨g, 2, none⟩ = false :=
  ⟨(blk_cell h 0).trans rfl, (blk_cell h 1).trans rfl, (blk_cell h 2).trans rfl, blk_frozen h 0, blk_frozen h 1, blk_frozen h 2⟩
/-! ### marigraphref8_Same: function 23 -/
def marigraphref8_Same.l0 : Nat → List (S49) → List (S49) → Int → Option (Bool)
 | 0, _, _, _ => none
 | k + 1, x0, x1, x5 => if x5 < (x0.length : Int) then (if 0 ≤ x5 then (if x5 < (x1.length : Int) then (if (strOfNums ((rd_T49 x0 x5).f0)).toList = (strOfNums ((rd_T49 x1 x5).f0)).toList then (if (((rd_T49 x0 x5).f2) != ((rd_T49 x1 x5).f2)) = true then (some false) else (if ((rd_T49 x0 x5).f2 = true) then (marigraphref8_Same.l0 k x0 x1 (wrap64 (x5 + 1))) else (if (strOfNums ((rd_T49 x0 x5).f1)).toList = (strOfNums ((rd_T49 x1 x5).f1)).toList then (marigraphref8_Same.l0 k x0 x1 (wrap64 (x5 + 1))) else (some false)))) else (some false)) else (none)) else (none)) else (some true)
def marigraphref8_Same.f (k : Nat) (l0 : List (S49)) (l1 : List (S49)) : Option (Bool) := if (l0.length : Int) = (l1.length : Int) then (marigraphref8_Same.l0 k l0 l1 0) else (some false)
theorem marigraphref8_Same.mono_l : ∀ k, (∀ y0 y1 y2, LeO (marigraphref8_Same.l0 k y0 y1 y2) (marigraphref8_Same.l0 (k + 1) y0 y1 y2))
 | 0 => fun _ _ _ r h => by simp [marigraphref8_Same.l0] at h
 | k + 1 => by
  have ih0 := marigraphref8_Same.mono_l k
  ·intro y0 y1 y2
   unfold marigraphref8_Same.l0
   repeat' first
   | (with_reducible exact ih0 _ _ _)
   | (with_reducible exact LeO.refl _)
   | (with_reducible exact LeO.none _)
   | (with_reducible refine LeO.ite ?_ ?_)
   | (with_reducible refine LeO.bind ?_ (fun _ => ?_))
   | exact ih0 _ _ _
   | exact LeO.none _
   | refine LeO.ite ?_ ?_
   | refine LeO.bind ?_ (fun _ => ?_)
theorem marigraphref8_Same.mono : ∀ a0 a1 k, LeO (marigraphref8_Same.f k a0 a1) (marigraphref8_Same.f (k + 1) a0 a1) := by
 intro a0 a1 k
 have ih0 := marigraphref8_Same.mono_l k
 unfold marigraphref8_Same.f
 repeat' first
   | (with_reducible exact ih0 _ _ _)
   | (with_reducible exact LeO.refl _)
   | (with_reducible exact LeO.none _)
   | (with_reducible refine LeO.ite ?_ ?_)
   | (with_reducible refine LeO.bind ?_ (fun _ => ?_))
   | exact ih0 _ _ _
   | exact LeO.none _
   | refine LeO.ite ?_ ?_
   | refine LeO.bind ?_ (fun _ => ?_)
set_option maxHeartbeats 8000000 in
set_option maxRecDepth 100000 in
theorem marigraphref8_Same.calls (k : Nat) (A0 : Option Addr) (c0 : Nat) (l0 : List (S49)) (A1 : Option Addr) (c1 : Nat) (l1 : List (S49)) (r : Bool) (w : World) (hr0 : Kd.C k49 w A0 l0.length l0) (hc0 : l0.length ≤ c0) (hr1 : Kd.C k49 w A1 l1.length l1) (hc1 : l1.length ≤ c1) (h : marigraphref8_Same.f k l0 l1 = some r) :
  Calls Try.prog 23 #[.slice A0 l0.length c0, .slice A1 l1.length c1] w fun e w' => e = .returned (.bool r) ∧ Drawn0 w w' := by
 have HR0 := Aside0.mk hr0
 have HC0 := Aside0.mk hc0
 clear hr0 hc0
 have HR1 := Aside0.mk hr1
 have HC1 := Aside0.mk hc1
 clear hr1 hc1
 have H : (if (l0.length : Int) = (l1.length : Int) then (marigraphref8_Same.l0 k l0 l1 0) else (some false)) = some r := h
 clear h
 by_cases c3 : (l0.length : Int) = (l1.length : Int)
 ·rw [if_pos c3] at H
  have c3b0 : ((l0.length : Int) == (l1.length : Int)) = true := beq_iff_eq.mpr c3
  have c3b1 : ((l0.length : Int) != (l1.length : Int)) = false := bne_eq_false_iff_eq.mpr c3
  have c3b2 : (l0.length == l1.length) = true := by first | simpa using c3 | (simp at c3 ⊢; omega)
  clear c3
  have H' := Aside0.mk H
  clear H
  go_enter Try.func23, Try.ntmps23
  go_wp2
  repeat (go_quiet (fail); try go_wp2)
  go_loopg [5] k (fun kq v5 w' => ∃ (x5_1 : Int), v5 = .int .i64 x5_1 ∧ Aside0 (marigraphref8_Same.l0 kq l0 l1 x5_1 = some r) ∧ Aside0 (kq ≤ k) ∧ Drawn0 w w')
  case atStart => exact ⟨(0), (by first | rfl | (simp; done) | (simp [*]; done)), H', ⟨Nat.le_refl _⟩, by repeat (first | exact Drawn0.refl _ | apply Drawn0.step)⟩
  case round =>
   clear H'
   try clear c1
   try clear c2
   try clear p2
   try clear c3
   try clear c3b0
   try clear c3b1
   try clear c3b2
   obtain ⟨x5_1, rfl, HA, HK1, ⟨m1, rfl⟩⟩ := hrel
   cases gk with
   | zero => exact absurd HA.out (by simp [marigraphref8_Same.l0])
   | succ k1 =>
    have H := HA.out
    clear HA
    simp only [marigraphref8_Same.l0] at H
    by_cases c4 : x5_1 < (l0.length : Int)
    ·rw [if_pos c4] at H
     have c4b0 : decide (x5_1 < (l0.length : Int)) = true := decide_eq_true c4
     clear c4
     by_cases c5 : 0 ≤ x5_1
     ·rw [if_pos c5] at H
      have c5b0 : decide (0 ≤ x5_1) = true := decide_eq_true c5
      clear c5
      by_cases c6 : x5_1 < (l1.length : Int)
      ·rw [if_pos c6] at H
       have c6b0 : decide (x5_1 < (l1.length : Int)) = true := decide_eq_true c6
       clear c6
       by_cases c7 : (strOfNums ((rd_T49 l0 x5_1).f0)).toList = (strOfNums ((rd_T49 l1 x5_1).f0)).toList
       ·rw [if_pos c7] at H
        have c7b0 : ((strOfNums ((rd_T49 l0 x5_1).f0)).toList == (strOfNums ((rd_T49 l1 x5_1).f0)).toList) = true := beq_iff_eq.mpr c7
        have c7b1 : ((strOfNums ((rd_T49 l0 x5_1).f0)).toList != (strOfNums ((rd_T49 l1 x5_1).f0)).toList) = false := bne_eq_false_iff_eq.mpr c7
        clear c7
        by_cases c8 : (((rd_T49 l0 x5_1).f2) != ((rd_T49 l1 x5_1).f2)) = true
        ·rw [if_pos c8] at H
         have c8b0 : (((rd_T49 l0 x5_1).f2) != ((rd_T49 l1 x5_1).f2)) = true := c8
         (try (have c8b1 : decide (((rd_T49 l0 x5_1).f2) = ((rd_T49 l1 x5_1).f2)) = false := by simpa using c8))
         (try (have c8b2 : (((rd_T49 l0 x5_1).f2) == ((rd_T49 l1 x5_1).f2)) = false := by simpa using c8))
         (try (have c8b3 : ¬ (((rd_T49 l0 x5_1).f2) = ((rd_T49 l1 x5_1).f2)) := by simpa using c8))
         clear c8
         obtain rfl := Option.some.inj H
         have p135 : 0 ≤ (x5_1 : Int) := of_decide_eq_true (by first | (with_reducible assumption) | assumption)
         have q135 : x5_1 < (l0.length : Int) := of_decide_eq_true (by first | (with_reducible assumption) | assumption)
         obtain ⟨ad135, A135_0, c135_0, A135_1, c135_1, e135, hx135_0, hx135_1, hx135_2, hl135_0, hi135_0, hl135_1, hi135_1⟩ := at_T49 HR0.out x5_1 p135 q135
         cases e135
         have HR135_0 := Aside0.mk hi135_0
         have HC135_0 := Aside0.mk hl135_0
         clear hi135_0 hl135_0
         have HR135_1 := Aside0.mk hi135_1
         have HC135_1 := Aside0.mk hl135_1
         clear hi135_1 hl135_1
         replace p135 := eq_true p135
         replace q135 := eq_true q135
         have hcv9 := Kd.C_string (P := Try.prog) (A := A135_0) (c := c135_0) Try.underlying23 Try.underlying5 Try.underlying9 HR135_0.out
         have p136 : 0 ≤ (x5_1 : Int) := of_decide_eq_true (by first | (with_reducible assumption) | assumption)
         have q136 : x5_1 < (l1.length : Int) := of_decide_eq_true (by first | (with_reducible assumption) | assumption)
         obtain ⟨ad136, A136_0, c136_0, A136_1, c136_1, e136, hx136_0, hx136_1, hx136_2, hl136_0, hi136_0, hl136_1, hi136_1⟩ := at_T49 HR1.out x5_1 p136 q136
         cases e136
         have HR136_0 := Aside0.mk hi136_0
         have HC136_0 := Aside0.mk hl136_0
         clear hi136_0 hl136_0
         have HR136_1 := Aside0.mk hi136_1
         have HC136_1 := Aside0.mk hl136_1
         clear hi136_1 hl136_1
         replace p136 := eq_true p136
         replace q136 := eq_true q136
         have hcv10 := Kd.C_string (P := Try.prog) (A := A136_0) (c := c136_0) Try.underlying23 Try.underlying5 Try.underlying9 HR136_0.out
         have p137 : 0 ≤ (x5_1 : Int) := of_decide_eq_true (by first | (with_reducible assumption) | assumption)
         have q137 : x5_1 < (l0.length : Int) := of_decide_eq_true (by first | (with_reducible assumption) | assumption)
         obtain ⟨ad137, A137_0, c137_0, A137_1, c137_1, e137, hx137_0, hx137_1, hx137_2, hl137_0, hi137_0, hl137_1, hi137_1⟩ := at_T49 HR0.out x5_1 p137 q137
         obtain rfl : ad135 = ad137 := (by injection e137)
         have HR137_0 := Aside0.mk hi137_0
         have HC137_0 := Aside0.mk hl137_0
         clear hi137_0 hl137_0
         have HR137_1 := Aside0.mk hi137_1
         have HC137_1 := Aside0.mk hl137_1
         clear hi137_1 hl137_1
         replace p137 := eq_true p137
         replace q137 := eq_true q137
         have ea_ := Option.some.inj (hx135_0.symm.trans hx137_0)
         injection ea_ with ea_ en_ ec_
         subst ea_
         subst ec_
         clear en_
         have ea_ := Option.some.inj (hx135_1.symm.trans hx137_1)
         injection ea_ with ea_ en_ ec_
         subst ea_
         subst ec_
         clear en_
         have p138 : 0 ≤ (x5_1 : Int) := of_decide_eq_true (by first | (with_reducible assumption) | assumption)
         have q138 : x5_1 < (l1.length : Int) := of_decide_eq_true (by first | (with_reducible assumption) | assumption)
         obtain ⟨ad138, A138_0, c138_0, A138_1, c138_1, e138, hx138_0, hx138_1, hx138_2, hl138_0, hi138_0, hl138_1, hi138_1⟩ := at_T49 HR1.out x5_1 p138 q138
         obtain rfl : ad136 = ad138 := (by injection e138)
         have HR138_0 := Aside0.mk hi138_0
         have HC138_0 := Aside0.mk hl138_0
         clear hi138_0 hl138_0
         have HR138_1 := Aside0.mk hi138_1
         have HC138_1 := Aside0.mk hl138_1
         clear hi138_1 hl138_1
         replace p138 := eq_true p138
         replace q138 := eq_true q138
         have ea_ := Option.some.inj (hx136_0.symm.trans hx138_0)
         injection ea_ with ea_ en_ ec_
         subst ea_
         subst ec_
         clear en_
         have ea_ := Option.some.inj (hx136_1.symm.trans hx138_1)
         injection ea_ with ea_ en_ ec_
         subst ea_
         subst ec_
         clear en_
         go_wp2
         refine start_ (n := 49) (S := fun w' => w'.cell? (ad135.add (x5_1.toNat * 3)) = some (.slice A135_0 (rd_T49 l0 x5_1).f0.length c135_0) ∧ w'.cell? ⟨(ad135.add (x5_1.toNat * 3)).block, (ad135.add (x5_1.toNat * 3)).off + 1, none⟩ = some (.slice A135_1 (rd_T49 l0 x5_1).f1.length c135_1) ∧ w'.cell? ⟨(ad135.add (x5_1.toNat * 3)).block, (ad135.add (x5_1.toNat * 3)).off + 2, none⟩ = some (.bool (rd_T49 l0 x5_1).f2) ∧ w'.cell? (ad136.add (x5_1.toNat * 3)) = some (.slice A136_0 (rd_T49 l1 x5_1).f0.length c136_0) ∧ w'.cell? ⟨(ad136.add (x5_1.toNat * 3)).block, (ad136.add (x5_1.toNat * 3)).off + 1, none⟩ = some (.slice A136_1 (rd_T49 l1 x5_1).f1.length c136_1) ∧ w'.cell? ⟨(ad136.add (x5_1.toNat * 3)).block, (ad136.add (x5_1.toNat * 3)).off + 2, none⟩ = some (.bool (rd_T49 l1 x5_1).f2) ∧ Kd.C (Kd.int .u8) w' A135_0 (rd_T49 l0 x5_1).f0.length (rd_T49 l0 x5_1).f0 ∧ Kd.C (Kd.int .u8) w' A136_0 (rd_T49 l1 x5_1).f0.length (rd_T49 l1 x5_1).f0 ∧ Kd.C (Kd.int .u8) w' A135_1 (rd_T49 l0 x5_1).f1.length (rd_T49 l0 x5_1).f1 ∧ Kd.C (Kd.int .u8) w' A136_1 (rd_T49 l1 x5_1).f1.length (rd_T49 l1 x5_1).f1) (ds := []) (bA 49 0) (by kernel_rfl) rfl rfl ⟨hx135_0, hx135_1, hx135_2, hx136_0, hx136_1, hx136_2, (by first | exact Kd.C_drewN HR135_0.out _ | exact Kd.C_drew (Kd.C_drewN HR135_0.out _) | exact Kd.C_drew HR135_0.out | exact HR135_0.out), (by first | exact Kd.C_drewN HR136_0.out _ | exact Kd.C_drew (Kd.C_drewN HR136_0.out _) | exact Kd.C_drew HR136_0.out | exact HR136_0.out), (by first | exact Kd.C_drewN HR135_1.out _ | exact Kd.C_drew (Kd.C_drewN HR135_1.out _) | exact Kd.C_drew HR135_1.out | exact HR135_1.out), (by first | exact Kd.C_drewN HR136_1.out _ | exact Kd.C_drew (Kd.C_drewN HR136_1.out _) | exact Kd.C_drew HR136_1.out | exact HR136_1.out)⟩ (fun hHeld => ?_)
         refine norm_ (by rfl) ?_
         refine pK 0 (some 17) (bA 49 1) ?_
         refine pK 1 (some 18) (bA 49 3) ?_
         refine pK 2 (some 19) (bA 49 7) ?_
         refine pK 3 (some 20) (bA 49 15) ?_
         refine tK 4 (some 21) (bA 49 31) rfl rfl hHeld (by rintro w' ⟨s0, s1, s2, s3, s4, s5, s6, s7, s8, s9⟩; go_simp; with_reducible rfl) ?_
         refine tK 5 (some 22) (bA 49 63) rfl rfl hHeld (by rintro w' ⟨s0, s1, s2, s3, s4, s5, s6, s7, s8, s9⟩; have e_ := Kd.C_string (P := Try.prog) (c := c135_0) Try.underlying23 Try.underlying5 Try.underlying9 s6; go_simp; with_reducible rfl) ?_
         refine pK 6 (some 23) (bA 49 127) ?_
         refine pK 7 (some 24) (bA 49 255) ?_
         refine pK 8 (some 25) (bA 49 511) ?_
         refine pK 9 (some 26) (bA 49 1023) ?_
         refine tK 10 (some 27) (bA 49 2047) rfl rfl hHeld (by rintro w' ⟨s0, s1, s2, s3, s4, s5, s6, s7, s8, s9⟩; go_simp; with_reducible rfl) ?_
         refine tK 11 (some 28) (bA 49 4095) rfl rfl hHeld (by rintro w' ⟨s0, s1, s2, s3, s4, s5, s6, s7, s8, s9⟩; have e_ := Kd.C_string (P := Try.prog) (c := c136_0) Try.underlying23 Try.underlying5 Try.underlying9 s7; go_simp; with_reducible rfl) ?_
         refine pK 12 (some 29) (bA 49 8191) ?_
         refine pK 13 (some 30) (bA 49 16383) ?_
         refine pK 14 (some 31) (bA 49 32767) ?_
         refine pK 15 (some 32) (bA 49 65535) ?_
         refine pK 16 (some 33) (bA 49 131071) ?_
         refine pK 17 (some 34) (bA 49 262143) ?_
         refine tK 18 (some 35) (bA 49 524287) rfl rfl hHeld (by rintro w' ⟨s0, s1, s2, s3, s4, s5, s6, s7, s8, s9⟩; go_simp; with_reducible rfl) ?_
         refine pK 19 (some 36) (bA 49 1048575) ?_
         refine pK 20 (some 37) (bA 49 2097151) ?_
         refine pK 21 (some 38) (bA 49 4194303) ?_
         refine pK 22 (some 39) (bA 49 8388607) ?_
         refine tK 23 (some 40) (bA 49 16777215) rfl rfl hHeld (by rintro w' ⟨s0, s1, s2, s3, s4, s5, s6, s7, s8, s9⟩; go_simp; with_reducible rfl) ?_
         refine pK 24 (some 41) (bA 49 33554431) ?_
         refine pK 25 (some 42) (bA 49 67108863) ?_
         refine pK 26 (some 43) (bA 49 134217727) ?_
         refine uK 27 (some 44) (bA 49 268435455) ?_
         refine uK 28 (some 45) (bA 49 536870911) ?_
         refine uK 29 (some 46) (bA 49 1073741823) ?_
         refine uK 30 (some 47) (bA 49 2147483647) ?_
         refine uK 31 (some 48) (bA 49 4294967295) ?_
         refine uK 32 (some 49) (bA 49 8589934591) ?_
         refine uK 33 (some 50) (bA 49 17179869183) ?_
         refine uK 34 (some 51) (bA 49 34359738367) ?_
         refine uK 35 (some 52) (bA 49 68719476735) ?_
         refine uK 36 (some 53) (bA 49 137438953471) ?_
         refine uK 37 (some 54) (bA 49 274877906943) ?_
         refine uK 38 (some 55) (bA 49 549755813887) ?_
         refine uK 39 (some 56) (bA 49 1099511627775) ?_
         refine uK 40 (some 57) (bA 49 2199023255551) ?_
         refine uK 41 (some 58) (bA 49 4398046511103) ?_
         refine uK 42 (some 59) (bA 49 8796093022207) ?_
         refine uK 43 (some 60) (bA 49 17592186044415) ?_
         refine uK 44 (some 61) (bA 49 35184372088831) ?_
         refine uK 45 (some 62) (bA 49 70368744177663) ?_
         refine uK 46 (some 63) (bA 49 140737488355327) ?_
         refine uK 47 (some 64) (bA 49 281474976710655) ?_
         refine pK 48 (some 65) (bA 49 562949953421311) ?_
         refine done_ (by kernel_rfl) ?_
         clear hHeld
         go_wp2
         go_ret
         exact ⟨by first | rfl | (simp; done) | (simp [*]; done), by repeat (first | exact Drawn0.refl _ | apply Drawn0.step)⟩
        ·rw [if_neg c8] at H
         have c8b0 : (((rd_T49 l0 x5_1).f2) != ((rd_T49 l1 x5_1).f2)) = false := by simpa using c8
         (try (have c8b1 : decide (((rd_T49 l0 x5_1).f2) = ((rd_T49 l1 x5_1).f2)) = true := by simpa using c8))
         (try (have c8b2 : (((rd_T49 l0 x5_1).f2) == ((rd_T49 l1 x5_1).f2)) = true := by simpa using c8))
         clear c8
         obtain ⟨bq11, hbq11⟩ : ∃ b_ : Bool, b_ = ((rd_T49 l0 x5_1).f2) := ⟨_, rfl⟩
         replace H : (if (bq11 = true) then (marigraphref8_Same.l0 k1 l0 l1 (wrap64 (x5_1 + 1))) else (if (strOfNums ((rd_T49 l0 x5_1).f1)).toList = (strOfNums ((rd_T49 l1 x5_1).f1)).toList then (marigraphref8_Same.l0 k1 l0 l1 (wrap64 (x5_1 + 1))) else (some false))) = some r := by rw [← hbq11] at H; exact H
         have Nbq11 := Aside0.mk hbq11
         clear hbq11
         by_cases c12 : (bq11 = true)
         ·subst c12
          have H1 : (marigraphref8_Same.l0 k1 l0 l1 (wrap64 (x5_1 + 1))) = some r := by rw [if_pos rfl] at H; exact H
          clear H
          have H := H1
          clear H1
          have H' := Aside0.mk H
          clear H
          have p135 : 0 ≤ (x5_1 : Int) := of_decide_eq_true (by first | (with_reducible assumption) | assumption)
          have q135 : x5_1 < (l0.length : Int) := of_decide_eq_true (by first | (with_reducible assumption) | assumption)
          obtain ⟨ad135, A135_0, c135_0, A135_1, c135_1, e135, hx135_0, hx135_1, hx135_2, hl135_0, hi135_0, hl135_1, hi135_1⟩ := at_T49 HR0.out x5_1 p135 q135
          (try rw [← Nbq11.out] at hx135_2)
          cases e135
          have HR135_0 := Aside0.mk hi135_0
          have HC135_0 := Aside0.mk hl135_0
          clear hi135_0 hl135_0
          have HR135_1 := Aside0.mk hi135_1
          have HC135_1 := Aside0.mk hl135_1
          clear hi135_1 hl135_1
          replace p135 := eq_true p135
          replace q135 := eq_true q135
          have hcv13 := Kd.C_string (P := Try.prog) (A := A135_0) (c := c135_0) Try.underlying23 Try.underlying5 Try.underlying9 HR135_0.out
          have p136 : 0 ≤ (x5_1 : Int) := of_decide_eq_true (by first | (with_reducible assumption) | assumption)
          have q136 : x5_1 < (l1.length : Int) := of_decide_eq_true (by first | (with_reducible assumption) | assumption)
          obtain ⟨ad136, A136_0, c136_0, A136_1, c136_1, e136, hx136_0, hx136_1, hx136_2, hl136_0, hi136_0, hl136_1, hi136_1⟩ := at_T49 HR1.out x5_1 p136 q136
          (try rw [← Nbq11.out] at hx136_2)
          cases e136
          have HR136_0 := Aside0.mk hi136_0
          have HC136_0 := Aside0.mk hl136_0
          clear hi136_0 hl136_0
          have HR136_1 := Aside0.mk hi136_1
          have HC136_1 := Aside0.mk hl136_1
          clear hi136_1 hl136_1
          replace p136 := eq_true p136
          replace q136 := eq_true q136
          have hcv14 := Kd.C_string (P := Try.prog) (A := A136_0) (c := c136_0) Try.underlying23 Try.underlying5 Try.underlying9 HR136_0.out
          have p137 : 0 ≤ (x5_1 : Int) := of_decide_eq_true (by first | (with_reducible assumption) | assumption)
          have q137 : x5_1 < (l0.length : Int) := of_decide_eq_true (by first | (with_reducible assumption) | assumption)
          obtain ⟨ad137, A137_0, c137_0, A137_1, c137_1, e137, hx137_0, hx137_1, hx137_2, hl137_0, hi137_0, hl137_1, hi137_1⟩ := at_T49 HR0.out x5_1 p137 q137
          (try rw [← Nbq11.out] at hx137_2)
          obtain rfl : ad135 = ad137 := (by injection e137)
          have HR137_0 := Aside0.mk hi137_0
          have HC137_0 := Aside0.mk hl137_0
          clear hi137_0 hl137_0
          have HR137_1 := Aside0.mk hi137_1
          have HC137_1 := Aside0.mk hl137_1
          clear hi137_1 hl137_1
          replace p137 := eq_true p137
          replace q137 := eq_true q137
          have ea_ := Option.some.inj (hx135_0.symm.trans hx137_0)
          injection ea_ with ea_ en_ ec_
          subst ea_
          subst ec_
          clear en_
          have ea_ := Option.some.inj (hx135_1.symm.trans hx137_1)
          injection ea_ with ea_ en_ ec_
          subst ea_
          subst ec_
          clear en_
          have p138 : 0 ≤ (x5_1 : Int) := of_decide_eq_true (by first | (with_reducible assumption) | assumption)
          have q138 : x5_1 < (l1.length : Int) := of_decide_eq_true (by first | (with_reducible assumption) | assumption)
          obtain ⟨ad138, A138_0, c138_0, A138_1, c138_1, e138, hx138_0, hx138_1, hx138_2, hl138_0, hi138_0, hl138_1, hi138_1⟩ := at_T49 HR1.out x5_1 p138 q138
          (try rw [← Nbq11.out] at hx138_2)
          obtain rfl : ad136 = ad138 := (by injection e138)
          have HR138_0 := Aside0.mk hi138_0
          have HC138_0 := Aside0.mk hl138_0
          clear hi138_0 hl138_0
          have HR138_1 := Aside0.mk hi138_1
          have HC138_1 := Aside0.mk hl138_1
          clear hi138_1 hl138_1
          replace p138 := eq_true p138
          replace q138 := eq_true q138
          have ea_ := Option.some.inj (hx136_0.symm.trans hx138_0)
          injection ea_ with ea_ en_ ec_
          subst ea_
          subst ec_
          clear en_
          have ea_ := Option.some.inj (hx136_1.symm.trans hx138_1)
          injection ea_ with ea_ en_ ec_
          subst ea_
          subst ec_
          clear en_
          have p139 : 0 ≤ (x5_1 : Int) := of_decide_eq_true (by first | (with_reducible assumption) | assumption)
          have q139 : x5_1 < (l0.length : Int) := of_decide_eq_true (by first | (with_reducible assumption) | assumption)
          obtain ⟨ad139, A139_0, c139_0, A139_1, c139_1, e139, hx139_0, hx139_1, hx139_2, hl139_0, hi139_0, hl139_1, hi139_1⟩ := at_T49 HR0.out x5_1 p139 q139
          (try rw [← Nbq11.out] at hx139_2)
          obtain rfl : ad135 = ad139 := (by injection e139)
          have HR139_0 := Aside0.mk hi139_0
          have HC139_0 := Aside0.mk hl139_0
          clear hi139_0 hl139_0
          have HR139_1 := Aside0.mk hi139_1
          have HC139_1 := Aside0.mk hl139_1
          clear hi139_1 hl139_1
          replace p139 := eq_true p139
          replace q139 := eq_true q139
          have ea_ := Option.some.inj (hx135_0.symm.trans hx139_0)
          injection ea_ with ea_ en_ ec_
          subst ea_
          subst ec_
          clear en_
          have ea_ := Option.some.inj (hx135_1.symm.trans hx139_1)
          injection ea_ with ea_ en_ ec_
          subst ea_
          subst ec_
          clear en_
          go_wp2
          have c8z := c8b0
          rw [← Nbq11.out] at c8z
          have hz_ : (rd_T49 l1 x5_1).f2 = true := by simpa using c8z
          clear c8z
          have hxz_ := hx136_2
          rw [hz_] at hxz_
          clear hz_
          refine start_ (n := 49) (S := fun w' => w'.cell? (ad135.add (x5_1.toNat * 3)) = some (.slice A135_0 (rd_T49 l0 x5_1).f0.length c135_0) ∧ w'.cell? ⟨(ad135.add (x5_1.toNat * 3)).block, (ad135.add (x5_1.toNat * 3)).off + 1, none⟩ = some (.slice A135_1 (rd_T49 l0 x5_1).f1.length c135_1) ∧ w'.cell? ⟨(ad135.add (x5_1.toNat * 3)).block, (ad135.add (x5_1.toNat * 3)).off + 2, none⟩ = some (.bool true) ∧ w'.cell? (ad136.add (x5_1.toNat * 3)) = some (.slice A136_0 (rd_T49 l1 x5_1).f0.length c136_0) ∧ w'.cell? ⟨(ad136.add (x5_1.toNat * 3)).block, (ad136.add (x5_1.toNat * 3)).off + 1, none⟩ = some (.slice A136_1 (rd_T49 l1 x5_1).f1.length c136_1) ∧ w'.cell? ⟨(ad136.add (x5_1.toNat * 3)).block, (ad136.add (x5_1.toNat * 3)).off + 2, none⟩ = some (.bool true) ∧ Kd.C (Kd.int .u8) w' A135_0 (rd_T49 l0 x5_1).f0.length (rd_T49 l0 x5_1).f0 ∧ Kd.C (Kd.int .u8) w' A136_0 (rd_T49 l1 x5_1).f0.length (rd_T49 l1 x5_1).f0 ∧ Kd.C (Kd.int .u8) w' A135_1 (rd_T49 l0 x5_1).f1.length (rd_T49 l0 x5_1).f1 ∧ Kd.C (Kd.int .u8) w' A136_1 (rd_T49 l1 x5_1).f1.length (rd_T49 l1 x5_1).f1) (ds := []) (bA 49 0) (by kernel_rfl) rfl rfl ⟨hx135_0, hx135_1, hx135_2, hx136_0, hx136_1, hxz_, (by first | exact Kd.C_drewN HR135_0.out _ | exact Kd.C_drew (Kd.C_drewN HR135_0.out _) | exact Kd.C_drew HR135_0.out | exact HR135_0.out), (by first | exact Kd.C_drewN HR136_0.out _ | exact Kd.C_drew (Kd.C_drewN HR136_0.out _) | exact Kd.C_drew HR136_0.out | exact HR136_0.out), (by first | exact Kd.C_drewN HR135_1.out _ | exact Kd.C_drew (Kd.C_drewN HR135_1.out _) | exact Kd.C_drew HR135_1.out | exact HR135_1.out), (by first | exact Kd.C_drewN HR136_1.out _ | exact Kd.C_drew (Kd.C_drewN HR136_1.out _) | exact Kd.C_drew HR136_1.out | exact HR136_1.out)⟩ (fun hHeld => ?_)
          refine norm_ (by rfl) ?_
          refine pK 0 (some 17) (bA 49 1) ?_
          refine pK 1 (some 18) (bA 49 3) ?_
          refine pK 2 (some 19) (bA 49 7) ?_
          refine pK 3 (some 20) (bA 49 15) ?_
          refine tK 4 (some 21) (bA 49 31) rfl rfl hHeld (by rintro w' ⟨s0, s1, s2, s3, s4, s5, s6, s7, s8, s9⟩; go_simp; with_reducible rfl) ?_
          refine tK 5 (some 22) (bA 49 63) rfl rfl hHeld (by rintro w' ⟨s0, s1, s2, s3, s4, s5, s6, s7, s8, s9⟩; have e_ := Kd.C_string (P := Try.prog) (c := c135_0) Try.underlying23 Try.underlying5 Try.underlying9 s6; go_simp; with_reducible rfl) ?_
          refine pK 6 (some 23) (bA 49 127) ?_
          refine pK 7 (some 24) (bA 49 255) ?_
          refine pK 8 (some 25) (bA 49 511) ?_
          refine pK 9 (some 26) (bA 49 1023) ?_
          refine tK 10 (some 27) (bA 49 2047) rfl rfl hHeld (by rintro w' ⟨s0, s1, s2, s3, s4, s5, s6, s7, s8, s9⟩; go_simp; with_reducible rfl) ?_
          refine tK 11 (some 28) (bA 49 4095) rfl rfl hHeld (by rintro w' ⟨s0, s1, s2, s3, s4, s5, s6, s7, s8, s9⟩; have e_ := Kd.C_string (P := Try.prog) (c := c136_0) Try.underlying23 Try.underlying5 Try.underlying9 s7; go_simp; with_reducible rfl) ?_
          refine pK 12 (some 29) (bA 49 8191) ?_
          refine pK 13 (some 30) (bA 49 16383) ?_
          refine pK 14 (some 31) (bA 49 32767) ?_
          refine pK 15 (some 32) (bA 49 65535) ?_
          refine pK 16 (some 33) (bA 49 131071) ?_
          refine pK 17 (some 34) (bA 49 262143) ?_
          refine tK 18 (some 35) (bA 49 524287) rfl rfl hHeld (by rintro w' ⟨s0, s1, s2, s3, s4, s5, s6, s7, s8, s9⟩; go_simp; with_reducible rfl) ?_
          refine pK 19 (some 36) (bA 49 1048575) ?_
          refine pK 20 (some 37) (bA 49 2097151) ?_
          refine pK 21 (some 38) (bA 49 4194303) ?_
          refine pK 22 (some 39) (bA 49 8388607) ?_
          refine tK 23 (some 40) (bA 49 16777215) rfl rfl hHeld (by rintro w' ⟨s0, s1, s2, s3, s4, s5, s6, s7, s8, s9⟩; go_simp; with_reducible rfl) ?_
          refine pK 24 (some 41) (bA 49 33554431) ?_
          refine pK 25 (some 42) (bA 49 67108863) ?_
          refine pK 26 (some 43) (bA 49 134217727) ?_
          refine pK 27 (some 44) (bA 49 268435455) ?_
          refine pK 28 (some 45) (bA 49 536870911) ?_
          refine pK 29 (some 46) (bA 49 1073741823) ?_
          refine pK 30 (some 47) (bA 49 2147483647) ?_
          refine tK 31 (some 48) (bA 49 4294967295) rfl rfl hHeld (by rintro w' ⟨s0, s1, s2, s3, s4, s5, s6, s7, s8, s9⟩; go_simp; with_reducible rfl) ?_
          refine pK 32 (some 49) (bA 49 8589934591) ?_
          refine pK 33 (some 50) (bA 49 17179869183) ?_
          refine uK 34 (some 51) (bA 49 34359738367) ?_
          refine uK 35 (some 52) (bA 49 68719476735) ?_
          refine uK 36 (some 53) (bA 49 137438953471) ?_
          refine uK 37 (some 54) (bA 49 274877906943) ?_
          refine uK 38 (some 55) (bA 49 549755813887) ?_
          refine uK 39 (some 56) (bA 49 1099511627775) ?_
          refine uK 40 (some 57) (bA 49 2199023255551) ?_
          refine uK 41 (some 58) (bA 49 4398046511103) ?_
          refine uK 42 (some 59) (bA 49 8796093022207) ?_
          refine uK 43 (some 60) (bA 49 17592186044415) ?_
          refine uK 44 (some 61) (bA 49 35184372088831) ?_
          refine uK 45 (some 62) (bA 49 70368744177663) ?_
          refine uK 46 (some 63) (bA 49 140737488355327) ?_
          refine pK 47 (some 64) (bA 49 281474976710655) ?_
          refine pK 48 (some 65) (bA 49 562949953421311) ?_
          refine done_ (by kernel_rfl) ?_
          clear hHeld
          go_wp2
          go_roundg k1
          case measure => have := HK1.out; omega
          case rel => exact ⟨(wrap64 (x5_1 + 1)), (by first | rfl | (simp; done) | (simp [*]; done)), H', ⟨by have := HK1.out; omega⟩, by repeat (first | exact Drawn0.refl _ | apply Drawn0.step)⟩
         ·replace c12 := Bool.eq_false_iff.mpr c12
          subst c12
          have H1 : (if (strOfNums ((rd_T49 l0 x5_1).f1)).toList = (strOfNums ((rd_T49 l1 x5_1).f1)).toList then (marigraphref8_Same.l0 k1 l0 l1 (wrap64 (x5_1 + 1))) else (some false)) = some r := by rw [if_neg (show ¬ (false = true) by decide)] at H; exact H
          clear H
          have H := H1
          clear H1
          by_cases c15 : (strOfNums ((rd_T49 l0 x5_1).f1)).toList = (strOfNums ((rd_T49 l1 x5_1).f1)).toList
          ·rw [if_pos c15] at H
           have c15b0 : ((strOfNums ((rd_T49 l0 x5_1).f1)).toList == (strOfNums ((rd_T49 l1 x5_1).f1)).toList) = true := beq_iff_eq.mpr c15
           have c15b1 : ((strOfNums ((rd_T49 l0 x5_1).f1)).toList != (strOfNums ((rd_T49 l1 x5_1).f1)).toList) = false := bne_eq_false_iff_eq.mpr c15
           clear c15
           have H' := Aside0.mk H
           clear H
           have p135 : 0 ≤ (x5_1 : Int) := of_decide_eq_true (by first | (with_reducible assumption) | assumption)
           have q135 : x5_1 < (l0.length : Int) := of_decide_eq_true (by first | (with_reducible assumption) | assumption)
           obtain ⟨ad135, A135_0, c135_0, A135_1, c135_1, e135, hx135_0, hx135_1, hx135_2, hl135_0, hi135_0, hl135_1, hi135_1⟩ := at_T49 HR0.out x5_1 p135 q135
           (try rw [← Nbq11.out] at hx135_2)
           cases e135
           have HR135_0 := Aside0.mk hi135_0
           have HC135_0 := Aside0.mk hl135_0
           clear hi135_0 hl135_0
           have HR135_1 := Aside0.mk hi135_1
           have HC135_1 := Aside0.mk hl135_1
           clear hi135_1 hl135_1
           replace p135 := eq_true p135
           replace q135 := eq_true q135
           have hcv16 := Kd.C_string (P := Try.prog) (A := A135_0) (c := c135_0) Try.underlying23 Try.underlying5 Try.underlying9 HR135_0.out
           have p136 : 0 ≤ (x5_1 : Int) := of_decide_eq_true (by first | (with_reducible assumption) | assumption)
           have q136 : x5_1 < (l1.length : Int) := of_decide_eq_true (by first | (with_reducible assumption) | assumption)
           obtain ⟨ad136, A136_0, c136_0, A136_1, c136_1, e136, hx136_0, hx136_1, hx136_2, hl136_0, hi136_0, hl136_1, hi136_1⟩ := at_T49 HR1.out x5_1 p136 q136
           (try rw [← Nbq11.out] at hx136_2)
           cases e136
           have HR136_0 := Aside0.mk hi136_0
           have HC136_0 := Aside0.mk hl136_0
           clear hi136_0 hl136_0
           have HR136_1 := Aside0.mk hi136_1
           have HC136_1 := Aside0.mk hl136_1
           clear hi136_1 hl136_1
           replace p136 := eq_true p136
           replace q136 := eq_true q136
           have hcv17 := Kd.C_string (P := Try.prog) (A := A136_0) (c := c136_0) Try.underlying23 Try.underlying5 Try.underlying9 HR136_0.out
           have p137 : 0 ≤ (x5_1 : Int) := of_decide_eq_true (by first | (with_reducible assumption) | assumption)
           have q137 : x5_1 < (l0.length : Int) := of_decide_eq_true (by first | (with_reducible assumption) | assumption)
           obtain ⟨ad137, A137_0, c137_0, A137_1, c137_1, e137, hx137_0, hx137_1, hx137_2, hl137_0, hi137_0, hl137_1, hi137_1⟩ := at_T49 HR0.out x5_1 p137 q137
           (try rw [← Nbq11.out] at hx137_2)
           obtain rfl : ad135 = ad137 := (by injection e137)
           have HR137_0 := Aside0.mk hi137_0
           have HC137_0 := Aside0.mk hl137_0
           clear hi137_0 hl137_0
           have HR137_1 := Aside0.mk hi137_1
           have HC137_1 := Aside0.mk hl137_1
           clear hi137_1 hl137_1
           replace p137 := eq_true p137
           replace q137 := eq_true q137
           have ea_ := Option.some.inj (hx135_0.symm.trans hx137_0)
           injection ea_ with ea_ en_ ec_
           subst ea_
           subst ec_
           clear en_
           have ea_ := Option.some.inj (hx135_1.symm.trans hx137_1)
           injection ea_ with ea_ en_ ec_
           subst ea_
           subst ec_
           clear en_
           have p138 : 0 ≤ (x5_1 : Int) := of_decide_eq_true (by first | (with_reducible assumption) | assumption)
           have q138 : x5_1 < (l1.length : Int) := of_decide_eq_true (by first | (with_reducible assumption) | assumption)
           obtain ⟨ad138, A138_0, c138_0, A138_1, c138_1, e138, hx138_0, hx138_1, hx138_2, hl138_0, hi138_0, hl138_1, hi138_1⟩ := at_T49 HR1.out x5_1 p138 q138
           (try rw [← Nbq11.out] at hx138_2)
           obtain rfl : ad136 = ad138 := (by injection e138)
           have HR138_0 := Aside0.mk hi138_0
           have HC138_0 := Aside0.mk hl138_0
           clear hi138_0 hl138_0
           have HR138_1 := Aside0.mk hi138_1
           have HC138_1 := Aside0.mk hl138_1
           clear hi138_1 hl138_1
           replace p138 := eq_true p138
           replace q138 := eq_true q138
           have ea_ := Option.some.inj (hx136_0.symm.trans hx138_0)
           injection ea_ with ea_ en_ ec_
           subst ea_
           subst ec_
           clear en_
           have ea_ := Option.some.inj (hx136_1.symm.trans hx138_1)
           injection ea_ with ea_ en_ ec_
           subst ea_
           subst ec_
           clear en_
           have p139 : 0 ≤ (x5_1 : Int) := of_decide_eq_true (by first | (with_reducible assumption) | assumption)
           have q139 : x5_1 < (l0.length : Int) := of_decide_eq_true (by first | (with_reducible assumption) | assumption)
           obtain ⟨ad139, A139_0, c139_0, A139_1, c139_1, e139, hx139_0, hx139_1, hx139_2, hl139_0, hi139_0, hl139_1, hi139_1⟩ := at_T49 HR0.out x5_1 p139 q139
           (try rw [← Nbq11.out] at hx139_2)
           obtain rfl : ad135 = ad139 := (by injection e139)
           have HR139_0 := Aside0.mk hi139_0
           have HC139_0 := Aside0.mk hl139_0
           clear hi139_0 hl139_0
           have HR139_1 := Aside0.mk hi139_1
           have HC139_1 := Aside0.mk hl139_1
           clear hi139_1 hl139_1
           replace p139 := eq_true p139
           replace q139 := eq_true q139
           have ea_ := Option.some.inj (hx135_0.symm.trans hx139_0)
           injection ea_ with ea_ en_ ec_
           subst ea_
           subst ec_
           clear en_
           have ea_ := Option.some.inj (hx135_1.symm.trans hx139_1)
           injection ea_ with ea_ en_ ec_
           subst ea_
           subst ec_
           clear en_
           have p140 : 0 ≤ (x5_1 : Int) := of_decide_eq_true (by first | (with_reducible assumption) | assumption)
           have q140 : x5_1 < (l0.length : Int) := of_decide_eq_true (by first | (with_reducible assumption) | assumption)
           obtain ⟨ad140, A140_0, c140_0, A140_1, c140_1, e140, hx140_0, hx140_1, hx140_2, hl140_0, hi140_0, hl140_1, hi140_1⟩ := at_T49 HR0.out x5_1 p140 q140
           (try rw [← Nbq11.out] at hx140_2)
           obtain rfl : ad135 = ad140 := (by injection e140)
           have HR140_0 := Aside0.mk hi140_0
           have HC140_0 := Aside0.mk hl140_0
           clear hi140_0 hl140_0
           have HR140_1 := Aside0.mk hi140_1
           have HC140_1 := Aside0.mk hl140_1
           clear hi140_1 hl140_1
           replace p140 := eq_true p140
           replace q140 := eq_true q140
           have ea_ := Option.some.inj (hx135_0.symm.trans hx140_0)
           injection ea_ with ea_ en_ ec_
           subst ea_
           subst ec_
           clear en_
           have ea_ := Option.some.inj (hx135_1.symm.trans hx140_1)
           injection ea_ with ea_ en_ ec_
           subst ea_
           subst ec_
           clear en_
           have hcv18 := Kd.C_string (P := Try.prog) (A := A135_1) (c := c135_1) Try.underlying23 Try.underlying5 Try.underlying9 HR140_1.out
           have p141 : 0 ≤ (x5_1 : Int) := of_decide_eq_true (by first | (with_reducible assumption) | assumption)
           have q141 : x5_1 < (l1.length : Int) := of_decide_eq_true (by first | (with_reducible assumption) | assumption)
           obtain ⟨ad141, A141_0, c141_0, A141_1, c141_1, e141, hx141_0, hx141_1, hx141_2, hl141_0, hi141_0, hl141_1, hi141_1⟩ := at_T49 HR1.out x5_1 p141 q141
           (try rw [← Nbq11.out] at hx141_2)
           obtain rfl : ad136 = ad141 := (by injection e141)
           have HR141_0 := Aside0.mk hi141_0
           have HC141_0 := Aside0.mk hl141_0
           clear hi141_0 hl141_0
           have HR141_1 := Aside0.mk hi141_1
           have HC141_1 := Aside0.mk hl141_1
           clear hi141_1 hl141_1
           replace p141 := eq_true p141
           replace q141 := eq_true q141
           have ea_ := Option.some.inj (hx136_0.symm.trans hx141_0)
           injection ea_ with ea_ en_ ec_
           subst ea_
           subst ec_
           clear en_
           have ea_ := Option.some.inj (hx136_1.symm.trans hx141_1)
           injection ea_ with ea_ en_ ec_
           subst ea_
           subst ec_
           clear en_
           have hcv19 := Kd.C_string (P := Try.prog) (A := A136_1) (c := c136_1) Try.underlying23 Try.underlying5 Try.underlying9 HR141_1.out
           go_wp2
           have c8z := c8b0
           rw [← Nbq11.out] at c8z
           have hz_ : (rd_T49 l1 x5_1).f2 = false := by simpa using c8z
           clear c8z
           have hxz_ := hx136_2
           rw [hz_] at hxz_
           clear hz_
           refine start_ (n := 49) (S := fun w' => w'.cell? (ad135.add (x5_1.toNat * 3)) = some (.slice A135_0 (rd_T49 l0 x5_1).f0.length c135_0) ∧ w'.cell? ⟨(ad135.add (x5_1.toNat * 3)).block, (ad135.add (x5_1.toNat * 3)).off + 1, none⟩ = some (.slice A135_1 (rd_T49 l0 x5_1).f1.length c135_1) ∧ w'.cell? ⟨(ad135.add (x5_1.toNat * 3)).block, (ad135.add (x5_1.toNat * 3)).off + 2, none⟩ = some (.bool false) ∧ w'.cell? (ad136.add (x5_1.toNat * 3)) = some (.slice A136_0 (rd_T49 l1 x5_1).f0.length c136_0) ∧ w'.cell? ⟨(ad136.add (x5_1.toNat * 3)).block, (ad136.add (x5_1.toNat * 3)).off + 1, none⟩ = some (.slice A136_1 (rd_T49 l1 x5_1).f1.length c136_1) ∧ w'.cell? ⟨(ad136.add (x5_1.toNat * 3)).block, (ad136.add (x5_1.toNat * 3)).off + 2, none⟩ = some (.bool false) ∧ Kd.C (Kd.int .u8) w' A135_0 (rd_T49 l0 x5_1).f0.length (rd_T49 l0 x5_1).f0 ∧ Kd.C (Kd.int .u8) w' A136_0 (rd_T49 l1 x5_1).f0.length (rd_T49 l1 x5_1).f0 ∧ Kd.C (Kd.int .u8) w' A135_1 (rd_T49 l0 x5_1).f1.length (rd_T49 l0 x5_1).f1 ∧ Kd.C (Kd.int .u8) w' A136_1 (rd_T49 l1 x5_1).f1.length (rd_T49 l1 x5_1).f1) (ds := []) (bA 49 0) (by kernel_rfl) rfl rfl ⟨hx135_0, hx135_1, hx135_2, hx136_0, hx136_1, hxz_, (by first | exact Kd.C_drewN HR135_0.out _ | exact Kd.C_drew (Kd.C_drewN HR135_0.out _) | exact Kd.C_drew HR135_0.out | exact HR135_0.out), (by first | exact Kd.C_drewN HR136_0.out _ | exact Kd.C_drew (Kd.C_drewN HR136_0.out _) | exact Kd.C_drew HR136_0.out | exact HR136_0.out), (by first | exact Kd.C_drewN HR135_1.out _ | exact Kd.C_drew (Kd.C_drewN HR135_1.out _) | exact Kd.C_drew HR135_1.out | exact HR135_1.out), (by first | exact Kd.C_drewN HR136_1.out _ | exact Kd.C_drew (Kd.C_drewN HR136_1.out _) | exact Kd.C_drew HR136_1.out | exact HR136_1.out)⟩ (fun hHeld => ?_)
           refine norm_ (by rfl) ?_
           refine pK 0 (some 17) (bA 49 1) ?_
           refine pK 1 (some 18) (bA 49 3) ?_
           refine pK 2 (some 19) (bA 49 7) ?_
           refine pK 3 (some 20) (bA 49 15) ?_
           refine tK 4 (some 21) (bA 49 31) rfl rfl hHeld (by rintro w' ⟨s0, s1, s2, s3, s4, s5, s6, s7, s8, s9⟩; go_simp; with_reducible rfl) ?_
           refine tK 5 (some 22) (bA 49 63) rfl rfl hHeld (by rintro w' ⟨s0, s1, s2, s3, s4, s5, s6, s7, s8, s9⟩; have e_ := Kd.C_string (P := Try.prog) (c := c135_0) Try.underlying23 Try.underlying5 Try.underlying9 s6; go_simp; with_reducible rfl) ?_
           refine pK 6 (some 23) (bA 49 127) ?_
           refine pK 7 (some 24) (bA 49 255) ?_
           refine pK 8 (some 25) (bA 49 511) ?_
           refine pK 9 (some 26) (bA 49 1023) ?_
           refine tK 10 (some 27) (bA 49 2047) rfl rfl hHeld (by rintro w' ⟨s0, s1, s2, s3, s4, s5, s6, s7, s8, s9⟩; go_simp; with_reducible rfl) ?_
           refine tK 11 (some 28) (bA 49 4095) rfl rfl hHeld (by rintro w' ⟨s0, s1, s2, s3, s4, s5, s6, s7, s8, s9⟩; have e_ := Kd.C_string (P := Try.prog) (c := c136_0) Try.underlying23 Try.underlying5 Try.underlying9 s7; go_simp; with_reducible rfl) ?_
           refine pK 12 (some 29) (bA 49 8191) ?_
           refine pK 13 (some 30) (bA 49 16383) ?_
           refine pK 14 (some 31) (bA 49 32767) ?_
           refine pK 15 (some 32) (bA 49 65535) ?_
           refine pK 16 (some 33) (bA 49 131071) ?_
           refine pK 17 (some 34) (bA 49 262143) ?_
           refine tK 18 (some 35) (bA 49 524287) rfl rfl hHeld (by rintro w' ⟨s0, s1, s2, s3, s4, s5, s6, s7, s8, s9⟩; go_simp; with_reducible rfl) ?_
           refine pK 19 (some 36) (bA 49 1048575) ?_
           refine pK 20 (some 37) (bA 49 2097151) ?_
           refine pK 21 (some 38) (bA 49 4194303) ?_
           refine pK 22 (some 39) (bA 49 8388607) ?_
           refine tK 23 (some 40) (bA 49 16777215) rfl rfl hHeld (by rintro w' ⟨s0, s1, s2, s3, s4, s5, s6, s7, s8, s9⟩; go_simp; with_reducible rfl) ?_
           refine pK 24 (some 41) (bA 49 33554431) ?_
           refine pK 25 (some 42) (bA 49 67108863) ?_
           refine pK 26 (some 43) (bA 49 134217727) ?_
           refine pK 27 (some 44) (bA 49 268435455) ?_
           refine pK 28 (some 45) (bA 49 536870911) ?_
           refine pK 29 (some 46) (bA 49 1073741823) ?_
           refine pK 30 (some 47) (bA 49 2147483647) ?_
           refine tK 31 (some 48) (bA 49 4294967295) rfl rfl hHeld (by rintro w' ⟨s0, s1, s2, s3, s4, s5, s6, s7, s8, s9⟩; go_simp; with_reducible rfl) ?_
           refine pK 32 (some 49) (bA 49 8589934591) ?_
           refine pK 33 (some 50) (bA 49 17179869183) ?_
           refine pK 34 (some 51) (bA 49 34359738367) ?_
           refine pK 35 (some 52) (bA 49 68719476735) ?_
           refine pK 36 (some 53) (bA 49 137438953471) ?_
           refine pK 37 (some 54) (bA 49 274877906943) ?_
           refine tK 38 (some 55) (bA 49 549755813887) rfl rfl hHeld (by rintro w' ⟨s0, s1, s2, s3, s4, s5, s6, s7, s8, s9⟩; go_simp; with_reducible rfl) ?_
           refine tK 39 (some 56) (bA 49 1099511627775) rfl rfl hHeld (by rintro w' ⟨s0, s1, s2, s3, s4, s5, s6, s7, s8, s9⟩; have e_ := Kd.C_string (P := Try.prog) (c := c135_1) Try.underlying23 Try.underlying5 Try.underlying9 s8; go_simp; with_reducible rfl) ?_
           refine pK 40 (some 57) (bA 49 2199023255551) ?_
           refine pK 41 (some 58) (bA 49 4398046511103) ?_
           refine pK 42 (some 59) (bA 49 8796093022207) ?_
           refine pK 43 (some 60) (bA 49 17592186044415) ?_
           refine tK 44 (some 61) (bA 49 35184372088831) rfl rfl hHeld (by rintro w' ⟨s0, s1, s2, s3, s4, s5, s6, s7, s8, s9⟩; go_simp; with_reducible rfl) ?_
           refine tK 45 (some 62) (bA 49 70368744177663) rfl rfl hHeld (by rintro w' ⟨s0, s1, s2, s3, s4, s5, s6, s7, s8, s9⟩; have e_ := Kd.C_string (P := Try.prog) (c := c136_1) Try.underlying23 Try.underlying5 Try.underlying9 s9; go_simp; with_reducible rfl) ?_
           refine pK 46 (some 63) (bA 49 140737488355327) ?_
           refine pK 47 (some 64) (bA 49 281474976710655) ?_
           refine pK 48 (some 65) (bA 49 562949953421311) ?_
           refine done_ (by kernel_rfl) ?_
           clear hHeld
           go_wp2
           go_roundg k1
           case measure => have := HK1.out; omega
           case rel => exact ⟨(wrap64 (x5_1 + 1)), (by first | rfl | (simp; done) | (simp [*]; done)), H', ⟨by have := HK1.out; omega⟩, by repeat (first | exact Drawn0.refl _ | apply Drawn0.step)⟩
          ·rw [if_neg c15] at H
           have c15b0 : ((strOfNums ((rd_T49 l0 x5_1).f1)).toList == (strOfNums ((rd_T49 l1 x5_1).f1)).toList) = false := beq_eq_false_iff_ne.mpr c15
           have c15b1 : ((strOfNums ((rd_T49 l0 x5_1).f1)).toList != (strOfNums ((rd_T49 l1 x5_1).f1)).toList) = true := bne_iff_ne.mpr c15
           obtain rfl := Option.some.inj H
           have p135 : 0 ≤ (x5_1 : Int) := of_decide_eq_true (by first | (with_reducible assumption) | assumption)
           have q135 : x5_1 < (l0.length : Int) := of_decide_eq_true (by first | (with_reducible assumption) | assumption)
           obtain ⟨ad135, A135_0, c135_0, A135_1, c135_1, e135, hx135_0, hx135_1, hx135_2, hl135_0, hi135_0, hl135_1, hi135_1⟩ := at_T49 HR0.out x5_1 p135 q135
           (try rw [← Nbq11.out] at hx135_2)
           cases e135
           have HR135_0 := Aside0.mk hi135_0
           have HC135_0 := Aside0.mk hl135_0
           clear hi135_0 hl135_0
           have HR135_1 := Aside0.mk hi135_1
           have HC135_1 := Aside0.mk hl135_1
           clear hi135_1 hl135_1
           replace p135 := eq_true p135
           replace q135 := eq_true q135
           have hcv20 := Kd.C_string (P := Try.prog) (A := A135_0) (c := c135_0) Try.underlying23 Try.underlying5 Try.underlying9 HR135_0.out
           have p136 : 0 ≤ (x5_1 : Int) := of_decide_eq_true (by first | (with_reducible assumption) | assumption)
           have q136 : x5_1 < (l1.length : Int) := of_decide_eq_true (by first | (with_reducible assumption) | assumption)
           obtain ⟨ad136, A136_0, c136_0, A136_1, c136_1, e136, hx136_0, hx136_1, hx136_2, hl136_0, hi136_0, hl136_1, hi136_1⟩ := at_T49 HR1.out x5_1 p136 q136
           (try rw [← Nbq11.out] at hx136_2)
           cases e136
           have HR136_0 := Aside0.mk hi136_0
           have HC136_0 := Aside0.mk hl136_0
           clear hi136_0 hl136_0
           have HR136_1 := Aside0.mk hi136_1
           have HC136_1 := Aside0.mk hl136_1
           clear hi136_1 hl136_1
           replace p136 := eq_true p136
           replace q136 := eq_true q136
           have hcv21 := Kd.C_string (P := Try.prog) (A := A136_0) (c := c136_0) Try.underlying23 Try.underlying5 Try.underlying9 HR136_0.out
           have p137 : 0 ≤ (x5_1 : Int) := of_decide_eq_true (by first | (with_reducible assumption) | assumption)
           have q137 : x5_1 < (l0.length : Int) := of_decide_eq_true (by first | (with_reducible assumption) | assumption)
           obtain ⟨ad137, A137_0, c137_0, A137_1, c137_1, e137, hx137_0, hx137_1, hx137_2, hl137_0, hi137_0, hl137_1, hi137_1⟩ := at_T49 HR0.out x5_1 p137 q137
           (try rw [← Nbq11.out] at hx137_2)
           obtain rfl : ad135 = ad137 := (by injection e137)
           have HR137_0 := Aside0.mk hi137_0
           have HC137_0 := Aside0.mk hl137_0
           clear hi137_0 hl137_0
           have HR137_1 := Aside0.mk hi137_1
           have HC137_1 := Aside0.mk hl137_1
           clear hi137_1 hl137_1
           replace p137 := eq_true p137
           replace q137 := eq_true q137
           have ea_ := Option.some.inj (hx135_0.symm.trans hx137_0)
           injection ea_ with ea_ en_ ec_
           subst ea_
           subst ec_
           clear en_
           have ea_ := Option.some.inj (hx135_1.symm.trans hx137_1)
           injection ea_ with ea_ en_ ec_
           subst ea_
           subst ec_
           clear en_
           have p138 : 0 ≤ (x5_1 : Int) := of_decide_eq_true (by first | (with_reducible assumption) | assumption)
           have q138 : x5_1 < (l1.length : Int) := of_decide_eq_true (by first | (with_reducible assumption) | assumption)
           obtain ⟨ad138, A138_0, c138_0, A138_1, c138_1, e138, hx138_0, hx138_1, hx138_2, hl138_0, hi138_0, hl138_1, hi138_1⟩ := at_T49 HR1.out x5_1 p138 q138
           (try rw [← Nbq11.out] at hx138_2)
           obtain rfl : ad136 = ad138 := (by injection e138)
           have HR138_0 := Aside0.mk hi138_0
           have HC138_0 := Aside0.mk hl138_0
           clear hi138_0 hl138_0
           have HR138_1 := Aside0.mk hi138_1
           have HC138_1 := Aside0.mk hl138_1
           clear hi138_1 hl138_1
           replace p138 := eq_true p138
           replace q138 := eq_true q138
           have ea_ := Option.some.inj (hx136_0.symm.trans hx138_0)
           injection ea_ with ea_ en_ ec_
           subst ea_
           subst ec_
           clear en_
           have ea_ := Option.some.inj (hx136_1.symm.trans hx138_1)
           injection ea_ with ea_ en_ ec_
           subst ea_
           subst ec_
           clear en_
           have p139 : 0 ≤ (x5_1 : Int) := of_decide_eq_true (by first | (with_reducible assumption) | assumption)
           have q139 : x5_1 < (l0.length : Int) := of_decide_eq_true (by first | (with_reducible assumption) | assumption)
           obtain ⟨ad139, A139_0, c139_0, A139_1, c139_1, e139, hx139_0, hx139_1, hx139_2, hl139_0, hi139_0, hl139_1, hi139_1⟩ := at_T49 HR0.out x5_1 p139 q139
           (try rw [← Nbq11.out] at hx139_2)
           obtain rfl : ad135 = ad139 := (by injection e139)
           have HR139_0 := Aside0.mk hi139_0
           have HC139_0 := Aside0.mk hl139_0
           clear hi139_0 hl139_0
           have HR139_1 := Aside0.mk hi139_1
           have HC139_1 := Aside0.mk hl139_1
           clear hi139_1 hl139_1
           replace p139 := eq_true p139
           replace q139 := eq_true q139
           have ea_ := Option.some.inj (hx135_0.symm.trans hx139_0)
           injection ea_ with ea_ en_ ec_
           subst ea_
           subst ec_
           clear en_
           have ea_ := Option.some.inj (hx135_1.symm.trans hx139_1)
           injection ea_ with ea_ en_ ec_
           subst ea_
           subst ec_
           clear en_
           have p140 : 0 ≤ (x5_1 : Int) := of_decide_eq_true (by first | (with_reducible assumption) | assumption)
           have q140 : x5_1 < (l0.length : Int) := of_decide_eq_true (by first | (with_reducible assumption) | assumption)
           obtain ⟨ad140, A140_0, c140_0, A140_1, c140_1, e140, hx140_0, hx140_1, hx140_2, hl140_0, hi140_0, hl140_1, hi140_1⟩ := at_T49 HR0.out x5_1 p140 q140
           (try rw [← Nbq11.out] at hx140_2)
           obtain rfl : ad135 = ad140 := (by injection e140)
           have HR140_0 := Aside0.mk hi140_0
           have HC140_0 := Aside0.mk hl140_0
           clear hi140_0 hl140_0
           have HR140_1 := Aside0.mk hi140_1
           have HC140_1 := Aside0.mk hl140_1
           clear hi140_1 hl140_1
           replace p140 := eq_true p140
           replace q140 := eq_true q140
           have ea_ := Option.some.inj (hx135_0.symm.trans hx140_0)
           injection ea_ with ea_ en_ ec_
           subst ea_
           subst ec_
           clear en_
           have ea_ := Option.some.inj (hx135_1.symm.trans hx140_1)
           injection ea_ with ea_ en_ ec_
           subst ea_
           subst ec_
           clear en_
           have hcv22 := Kd.C_string (P := Try.prog) (A := A135_1) (c := c135_1) Try.underlying23 Try.underlying5 Try.underlying9 HR140_1.out
           have p141 : 0 ≤ (x5_1 : Int) := of_decide_eq_true (by first | (with_reducible assumption) | assumption)
           have q141 : x5_1 < (l1.length : Int) := of_decide_eq_true (by first | (with_reducible assumption) | assumption)
           obtain ⟨ad141, A141_0, c141_0, A141_1, c141_1, e141, hx141_0, hx141_1, hx141_2, hl141_0, hi141_0, hl141_1, hi141_1⟩ := at_T49 HR1.out x5_1 p141 q141
           (try rw [← Nbq11.out] at hx141_2)
           obtain rfl : ad136 = ad141 := (by injection e141)
           have HR141_0 := Aside0.mk hi141_0
           have HC141_0 := Aside0.mk hl141_0
           clear hi141_0 hl141_0
           have HR141_1 := Aside0.mk hi141_1
           have HC141_1 := Aside0.mk hl141_1
           clear hi141_1 hl141_1
           replace p141 := eq_true p141
           replace q141 := eq_true q141
           have ea_ := Option.some.inj (hx136_0.symm.trans hx141_0)
           injection ea_ with ea_ en_ ec_
           subst ea_
           subst ec_
           clear en_
           have ea_ := Option.some.inj (hx136_1.symm.trans hx141_1)
           injection ea_ with ea_ en_ ec_
           subst ea_
           subst ec_
           clear en_
           have hcv23 := Kd.C_string (P := Try.prog) (A := A136_1) (c := c136_1) Try.underlying23 Try.underlying5 Try.underlying9 HR141_1.out
           go_wp2
           have c8z := c8b0
           rw [← Nbq11.out] at c8z
           have hz_ : (rd_T49 l1 x5_1).f2 = false := by simpa using c8z
           clear c8z
           have hxz_ := hx136_2
           rw [hz_] at hxz_
           clear hz_
           refine start_ (n := 49) (S := fun w' => w'.cell? (ad135.add (x5_1.toNat * 3)) = some (.slice A135_0 (rd_T49 l0 x5_1).f0.length c135_0) ∧ w'.cell? ⟨(ad135.add (x5_1.toNat * 3)).block, (ad135.add (x5_1.toNat * 3)).off + 1, none⟩ = some (.slice A135_1 (rd_T49 l0 x5_1).f1.length c135_1) ∧ w'.cell? ⟨(ad135.add (x5_1.toNat * 3)).block, (ad135.add (x5_1.toNat * 3)).off + 2, none⟩ = some (.bool false) ∧ w'.cell? (ad136.add (x5_1.toNat * 3)) = some (.slice A136_0 (rd_T49 l1 x5_1).f0.length c136_0) ∧ w'.cell? ⟨(ad136.add (x5_1.toNat * 3)).block, (ad136.add (x5_1.toNat * 3)).off + 1, none⟩ = some (.slice A136_1 (rd_T49 l1 x5_1).f1.length c136_1) ∧ w'.cell? ⟨(ad136.add (x5_1.toNat * 3)).block, (ad136.add (x5_1.toNat * 3)).off + 2, none⟩ = some (.bool false) ∧ Kd.C (Kd.int .u8) w' A135_0 (rd_T49 l0 x5_1).f0.length (rd_T49 l0 x5_1).f0 ∧ Kd.C (Kd.int .u8) w' A136_0 (rd_T49 l1 x5_1).f0.length (rd_T49 l1 x5_1).f0 ∧ Kd.C (Kd.int .u8) w' A135_1 (rd_T49 l0 x5_1).f1.length (rd_T49 l0 x5_1).f1 ∧ Kd.C (Kd.int .u8) w' A136_1 (rd_T49 l1 x5_1).f1.length (rd_T49 l1 x5_1).f1) (ds := []) (bA 49 0) (by kernel_rfl) rfl rfl ⟨hx135_0, hx135_1, hx135_2, hx136_0, hx136_1, hxz_, (by first | exact Kd.C_drewN HR135_0.out _ | exact Kd.C_drew (Kd.C_drewN HR135_0.out _) | exact Kd.C_drew HR135_0.out | exact HR135_0.out), (by first | exact Kd.C_drewN HR136_0.out _ | exact Kd.C_drew (Kd.C_drewN HR136_0.out _) | exact Kd.C_drew HR136_0.out | exact HR136_0.out), (by first | exact Kd.C_drewN HR135_1.out _ | exact Kd.C_drew (Kd.C_drewN HR135_1.out _) | exact Kd.C_drew HR135_1.out | exact HR135_1.out), (by first | exact Kd.C_drewN HR136_1.out _ | exact Kd.C_drew (Kd.C_drewN HR136_1.out _) | exact Kd.C_drew HR136_1.out | exact HR136_1.out)⟩ (fun hHeld => ?_)
           refine norm_ (by rfl) ?_
           refine pK 0 (some 17) (bA 49 1) ?_
           refine pK 1 (some 18) (bA 49 3) ?_
           refine pK 2 (some 19) (bA 49 7) ?_
           refine pK 3 (some 20) (bA 49 15) ?_
           refine tK 4 (some 21) (bA 49 31) rfl rfl hHeld (by rintro w' ⟨s0, s1, s2, s3, s4, s5, s6, s7, s8, s9⟩; go_simp; with_reducible rfl) ?_
           refine tK 5 (some 22) (bA 49 63) rfl rfl hHeld (by rintro w' ⟨s0, s1, s2, s3, s4, s5, s6, s7, s8, s9⟩; have e_ := Kd.C_string (P := Try.prog) (c := c135_0) Try.underlying23 Try.underlying5 Try.underlying9 s6; go_simp; with_reducible rfl) ?_
           refine pK 6 (some 23) (bA 49 127) ?_
           refine pK 7 (some 24) (bA 49 255) ?_
           refine pK 8 (some 25) (bA 49 511) ?_
           refine pK 9 (some 26) (bA 49 1023) ?_
           refine tK 10 (some 27) (bA 49 2047) rfl rfl hHeld (by rintro w' ⟨s0, s1, s2, s3, s4, s5, s6, s7, s8, s9⟩; go_simp; with_reducible rfl) ?_
           refine tK 11 (some 28) (bA 49 4095) rfl rfl hHeld (by rintro w' ⟨s0, s1, s2, s3, s4, s5, s6, s7, s8, s9⟩; have e_ := Kd.C_string (P := Try.prog) (c := c136_0) Try.underlying23 Try.underlying5 Try.underlying9 s7; go_simp; with_reducible rfl) ?_
           refine pK 12 (some 29) (bA 49 8191) ?_
           refine pK 13 (some 30) (bA 49 16383) ?_
           refine pK 14 (some 31) (bA 49 32767) ?_
           refine pK 15 (some 32) (bA 49 65535) ?_
           refine pK 16 (some 33) (bA 49 131071) ?_
           refine pK 17 (some 34) (bA 49 262143) ?_
           refine tK 18 (some 35) (bA 49 524287) rfl rfl hHeld (by rintro w' ⟨s0, s1, s2, s3, s4, s5, s6, s7, s8, s9⟩; go_simp; with_reducible rfl) ?_
           refine pK 19 (some 36) (bA 49 1048575) ?_
           refine pK 20 (some 37) (bA 49 2097151) ?_
           refine pK 21 (some 38) (bA 49 4194303) ?_
           refine pK 22 (some 39) (bA 49 8388607) ?_
           refine tK 23 (some 40) (bA 49 16777215) rfl rfl hHeld (by rintro w' ⟨s0, s1, s2, s3, s4, s5, s6, s7, s8, s9⟩; go_simp; with_reducible rfl) ?_
           refine pK 24 (some 41) (bA 49 33554431) ?_
           refine pK 25 (some 42) (bA 49 67108863) ?_
           refine pK 26 (some 43) (bA 49 134217727) ?_
           refine pK 27 (some 44) (bA 49 268435455) ?_
           refine pK 28 (some 45) (bA 49 536870911) ?_
           refine pK 29 (some 46) (bA 49 1073741823) ?_
           refine pK 30 (some 47) (bA 49 2147483647) ?_
           refine tK 31 (some 48) (bA 49 4294967295) rfl rfl hHeld (by rintro w' ⟨s0, s1, s2, s3, s4, s5, s6, s7, s8, s9⟩; go_simp; with_reducible rfl) ?_
           refine pK 32 (some 49) (bA 49 8589934591) ?_
           refine pK 33 (some 50) (bA 49 17179869183) ?_
           refine pK 34 (some 51) (bA 49 34359738367) ?_
           refine pK 35 (some 52) (bA 49 68719476735) ?_
           refine pK 36 (some 53) (bA 49 137438953471) ?_
           refine pK 37 (some 54) (bA 49 274877906943) ?_
           refine tK 38 (some 55) (bA 49 549755813887) rfl rfl hHeld (by rintro w' ⟨s0, s1, s2, s3, s4, s5, s6, s7, s8, s9⟩; go_simp; with_reducible rfl) ?_
           refine tK 39 (some 56) (bA 49 1099511627775) rfl rfl hHeld (by rintro w' ⟨s0, s1, s2, s3, s4, s5, s6, s7, s8, s9⟩; have e_ := Kd.C_string (P := Try.prog) (c := c135_1) Try.underlying23 Try.underlying5 Try.underlying9 s8; go_simp; with_reducible rfl) ?_
           refine pK 40 (some 57) (bA 49 2199023255551) ?_
           refine pK 41 (some 58) (bA 49 4398046511103) ?_
           refine pK 42 (some 59) (bA 49 8796093022207) ?_
           refine pK 43 (some 60) (bA 49 17592186044415) ?_
           refine tK 44 (some 61) (bA 49 35184372088831) rfl rfl hHeld (by rintro w' ⟨s0, s1, s2, s3, s4, s5, s6, s7, s8, s9⟩; go_simp; with_reducible rfl) ?_
           refine tK 45 (some 62) (bA 49 70368744177663) rfl rfl hHeld (by rintro w' ⟨s0, s1, s2, s3, s4, s5, s6, s7, s8, s9⟩; have e_ := Kd.C_string (P := Try.prog) (c := c136_1) Try.underlying23 Try.underlying5 Try.underlying9 s9; go_simp; with_reducible rfl) ?_
           refine pK 46 (some 63) (bA 49 140737488355327) ?_
           refine pK 47 (some 64) (bA 49 281474976710655) ?_
           refine pK 48 (some 65) (bA 49 562949953421311) ?_
           refine done_ (by kernel_rfl) ?_
           clear hHeld
           go_wp2
           go_ret
           exact ⟨by first | rfl | (simp; done) | (simp [*]; done), by repeat (first | exact Drawn0.refl _ | apply Drawn0.step)⟩
       ·rw [if_neg c7] at H
        have c7b0 : ((strOfNums ((rd_T49 l0 x5_1).f0)).toList == (strOfNums ((rd_T49 l1 x5_1).f0)).toList) = false := beq_eq_false_iff_ne.mpr c7
        have c7b1 : ((strOfNums ((rd_T49 l0 x5_1).f0)).toList != (strOfNums ((rd_T49 l1 x5_1).f0)).toList) = true := bne_iff_ne.mpr c7
        obtain rfl := Option.some.inj H
        have p135 : 0 ≤ (x5_1 : Int) := of_decide_eq_true (by first | (with_reducible assumption) | assumption)
        have q135 : x5_1 < (l0.length : Int) := of_decide_eq_true (by first | (with_reducible assumption) | assumption)
        obtain ⟨ad135, A135_0, c135_0, A135_1, c135_1, e135, hx135_0, hx135_1, hx135_2, hl135_0, hi135_0, hl135_1, hi135_1⟩ := at_T49 HR0.out x5_1 p135 q135
        cases e135
        have HR135_0 := Aside0.mk hi135_0
        have HC135_0 := Aside0.mk hl135_0
        clear hi135_0 hl135_0
        have HR135_1 := Aside0.mk hi135_1
        have HC135_1 := Aside0.mk hl135_1
        clear hi135_1 hl135_1
        replace p135 := eq_true p135
        replace q135 := eq_true q135
        have hcv24 := Kd.C_string (P := Try.prog) (A := A135_0) (c := c135_0) Try.underlying23 Try.underlying5 Try.underlying9 HR135_0.out
        have p136 : 0 ≤ (x5_1 : Int) := of_decide_eq_true (by first | (with_reducible assumption) | assumption)
        have q136 : x5_1 < (l1.length : Int) := of_decide_eq_true (by first | (with_reducible assumption) | assumption)
        obtain ⟨ad136, A136_0, c136_0, A136_1, c136_1, e136, hx136_0, hx136_1, hx136_2, hl136_0, hi136_0, hl136_1, hi136_1⟩ := at_T49 HR1.out x5_1 p136 q136
        cases e136
        have HR136_0 := Aside0.mk hi136_0
        have HC136_0 := Aside0.mk hl136_0
        clear hi136_0 hl136_0
        have HR136_1 := Aside0.mk hi136_1
        have HC136_1 := Aside0.mk hl136_1
        clear hi136_1 hl136_1
        replace p136 := eq_true p136
        replace q136 := eq_true q136
        have hcv25 := Kd.C_string (P := Try.prog) (A := A136_0) (c := c136_0) Try.underlying23 Try.underlying5 Try.underlying9 HR136_0.out
        go_wp2
        refine start_ (n := 49) (S := fun w' => w'.cell? (ad135.add (x5_1.toNat * 3)) = some (.slice A135_0 (rd_T49 l0 x5_1).f0.length c135_0) ∧ w'.cell? ⟨(ad135.add (x5_1.toNat * 3)).block, (ad135.add (x5_1.toNat * 3)).off + 1, none⟩ = some (.slice A135_1 (rd_T49 l0 x5_1).f1.length c135_1) ∧ w'.cell? ⟨(ad135.add (x5_1.toNat * 3)).block, (ad135.add (x5_1.toNat * 3)).off + 2, none⟩ = some (.bool (rd_T49 l0 x5_1).f2) ∧ w'.cell? (ad136.add (x5_1.toNat * 3)) = some (.slice A136_0 (rd_T49 l1 x5_1).f0.length c136_0) ∧ w'.cell? ⟨(ad136.add (x5_1.toNat * 3)).block, (ad136.add (x5_1.toNat * 3)).off + 1, none⟩ = some (.slice A136_1 (rd_T49 l1 x5_1).f1.length c136_1) ∧ w'.cell? ⟨(ad136.add (x5_1.toNat * 3)).block, (ad136.add (x5_1.toNat * 3)).off + 2, none⟩ = some (.bool (rd_T49 l1 x5_1).f2) ∧ Kd.C (Kd.int .u8) w' A135_0 (rd_T49 l0 x5_1).f0.length (rd_T49 l0 x5_1).f0 ∧ Kd.C (Kd.int .u8) w' A136_0 (rd_T49 l1 x5_1).f0.length (rd_T49 l1 x5_1).f0 ∧ Kd.C (Kd.int .u8) w' A135_1 (rd_T49 l0 x5_1).f1.length (rd_T49 l0 x5_1).f1 ∧ Kd.C (Kd.int .u8) w' A136_1 (rd_T49 l1 x5_1).f1.length (rd_T49 l1 x5_1).f1) (ds := []) (bA 49 0) (by kernel_rfl) rfl rfl ⟨hx135_0, hx135_1, hx135_2, hx136_0, hx136_1, hx136_2, (by first | exact Kd.C_drewN HR135_0.out _ | exact Kd.C_drew (Kd.C_drewN HR135_0.out _) | exact Kd.C_drew HR135_0.out | exact HR135_0.out), (by first | exact Kd.C_drewN HR136_0.out _ | exact Kd.C_drew (Kd.C_drewN HR136_0.out _) | exact Kd.C_drew HR136_0.out | exact HR136_0.out), (by first | exact Kd.C_drewN HR135_1.out _ | exact Kd.C_drew (Kd.C_drewN HR135_1.out _) | exact Kd.C_drew HR135_1.out | exact HR135_1.out), (by first | exact Kd.C_drewN HR136_1.out _ | exact Kd.C_drew (Kd.C_drewN HR136_1.out _) | exact Kd.C_drew HR136_1.out | exact HR136_1.out)⟩ (fun hHeld => ?_)
        refine norm_ (by rfl) ?_
        refine pK 0 (some 17) (bA 49 1) ?_
        refine pK 1 (some 18) (bA 49 3) ?_
        refine pK 2 (some 19) (bA 49 7) ?_
        refine pK 3 (some 20) (bA 49 15) ?_
        refine tK 4 (some 21) (bA 49 31) rfl rfl hHeld (by rintro w' ⟨s0, s1, s2, s3, s4, s5, s6, s7, s8, s9⟩; go_simp; with_reducible rfl) ?_
        refine tK 5 (some 22) (bA 49 63) rfl rfl hHeld (by rintro w' ⟨s0, s1, s2, s3, s4, s5, s6, s7, s8, s9⟩; have e_ := Kd.C_string (P := Try.prog) (c := c135_0) Try.underlying23 Try.underlying5 Try.underlying9 s6; go_simp; with_reducible rfl) ?_
        refine pK 6 (some 23) (bA 49 127) ?_
        refine pK 7 (some 24) (bA 49 255) ?_
        refine pK 8 (some 25) (bA 49 511) ?_
        refine pK 9 (some 26) (bA 49 1023) ?_
        refine tK 10 (some 27) (bA 49 2047) rfl rfl hHeld (by rintro w' ⟨s0, s1, s2, s3, s4, s5, s6, s7, s8, s9⟩; go_simp; with_reducible rfl) ?_
        refine tK 11 (some 28) (bA 49 4095) rfl rfl hHeld (by rintro w' ⟨s0, s1, s2, s3, s4, s5, s6, s7, s8, s9⟩; have e_ := Kd.C_string (P := Try.prog) (c := c136_0) Try.underlying23 Try.underlying5 Try.underlying9 s7; go_simp; with_reducible rfl) ?_
        refine pK 12 (some 29) (bA 49 8191) ?_
        refine pK 13 (some 30) (bA 49 16383) ?_
        refine uK 14 (some 31) (bA 49 32767) ?_
        refine uK 15 (some 32) (bA 49 65535) ?_
        refine uK 16 (some 33) (bA 49 131071) ?_
        refine uK 17 (some 34) (bA 49 262143) ?_
        refine uK 18 (some 35) (bA 49 524287) ?_
        refine uK 19 (some 36) (bA 49 1048575) ?_
        refine uK 20 (some 37) (bA 49 2097151) ?_
        refine uK 21 (some 38) (bA 49 4194303) ?_
        refine uK 22 (some 39) (bA 49 8388607) ?_
        refine uK 23 (some 40) (bA 49 16777215) ?_
        refine uK 24 (some 41) (bA 49 33554431) ?_
        refine pK 25 (some 42) (bA 49 67108863) ?_
        refine pK 26 (some 43) (bA 49 134217727) ?_
        refine uK 27 (some 44) (bA 49 268435455) ?_
        refine uK 28 (some 45) (bA 49 536870911) ?_
        refine uK 29 (some 46) (bA 49 1073741823) ?_
        refine uK 30 (some 47) (bA 49 2147483647) ?_
        refine uK 31 (some 48) (bA 49 4294967295) ?_
        refine uK 32 (some 49) (bA 49 8589934591) ?_
        refine uK 33 (some 50) (bA 49 17179869183) ?_
        refine uK 34 (some 51) (bA 49 34359738367) ?_
        refine uK 35 (some 52) (bA 49 68719476735) ?_
        refine uK 36 (some 53) (bA 49 137438953471) ?_
        refine uK 37 (some 54) (bA 49 274877906943) ?_
        refine uK 38 (some 55) (bA 49 549755813887) ?_
        refine uK 39 (some 56) (bA 49 1099511627775) ?_
        refine uK 40 (some 57) (bA 49 2199023255551) ?_
        refine uK 41 (some 58) (bA 49 4398046511103) ?_
        refine uK 42 (some 59) (bA 49 8796093022207) ?_
        refine uK 43 (some 60) (bA 49 17592186044415) ?_
        refine uK 44 (some 61) (bA 49 35184372088831) ?_
        refine uK 45 (some 62) (bA 49 70368744177663) ?_
        refine uK 46 (some 63) (bA 49 140737488355327) ?_
        refine uK 47 (some 64) (bA 49 281474976710655) ?_
        refine pK 48 (some 65) (bA 49 562949953421311) ?_
        refine done_ (by kernel_rfl) ?_
        clear hHeld
        go_wp2
        go_ret
        exact ⟨by first | rfl | (simp; done) | (simp [*]; done), by repeat (first | exact Drawn0.refl _ | apply Drawn0.step)⟩
      ·rw [if_neg c6] at H
       exact absurd H (by simp)
     ·rw [if_neg c5] at H
      exact absurd H (by simp)
    ·rw [if_neg c4] at H
     have c4b0 : decide (x5_1 < (l0.length : Int)) = false := decide_eq_false c4
     clear c4
     obtain rfl := Option.some.inj H
     go_wp2
     repeat (go_quiet (fail); try go_wp2)
     go_ret
     exact ⟨by first | rfl | (simp; done) | (simp [*]; done), by repeat (first | exact Drawn0.refl _ | apply Drawn0.step)⟩
 ·rw [if_neg c3] at H
  have c3b0 : ((l0.length : Int) == (l1.length : Int)) = false := beq_eq_false_iff_ne.mpr c3
  have c3b1 : ((l0.length : Int) != (l1.length : Int)) = true := bne_iff_ne.mpr c3
  have c3b2 : (l0.length == l1.length) = false := by first | simpa using c3 | (simp at c3 ⊢; omega)
  obtain rfl := Option.some.inj H
  go_enter Try.func23, Try.ntmps23
  go_wp2
  repeat (go_quiet (fail); try go_wp2)
  go_ret
  exact ⟨by first | rfl | (simp; done) | (simp [*]; done), by repeat (first | exact Drawn0.refl _ | apply Drawn0.step)⟩


end Go.Proofs.Ytmimfnangdabmaa.PMergeTells

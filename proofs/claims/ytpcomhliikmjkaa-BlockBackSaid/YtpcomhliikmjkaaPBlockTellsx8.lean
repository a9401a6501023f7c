/- The walk of the Go functions that a law reaches, told as plain functions; a program of this session has written it. No condition beyond the statement's own. -/
import Derived.Test.YtpcomhliikmjkaaPBlockTellsx1
import Derived.Test.YtpcomhliikmjkaaPBlockTellsx0
namespace Go.Proofs.Ytpcomhliikmjkaa.PBlockTells
open Go.RowKit Go.Proofs.YtpcomhliikmjkaaW.PrintWords Go.Proofs.YtpcomhliikmjkaaW.PrintLast Go.Proofs.YtpcomhliikmjkaaW.PrintMore
attribute [local go_sem] max2_int min2_int max_two min_two max_three min_three max_four min_four   -- for this text's walks alone
set_option linter.unusedVariables false
set_option linter.unusedSimpArgs false

/-! ### marigraphref8_Same: function 15 -/
def marigraphref8_Same.l0 : Nat → List (S34) → List (S34) → Int → Option (Bool)
 | 0, _, _, _ => none
 | k + 1, x0, x1, x5 => if x5 < (x0.length : Int) then (if 0 ≤ x5 then (if x5 < (x1.length : Int) then (if (strOfNums ((rd_T34 x0 x5).f0)).toList = (strOfNums ((rd_T34 x1 x5).f0)).toList then (if (((rd_T34 x0 x5).f2) != ((rd_T34 x1 x5).f2)) = true then (some false) else (if ((rd_T34 x0 x5).f2 = true) then (marigraphref8_Same.l0 k x0 x1 (wrap64 (x5 + 1))) else (if (strOfNums ((rd_T34 x0 x5).f1)).toList = (strOfNums ((rd_T34 x1 x5).f1)).toList then (marigraphref8_Same.l0 k x0 x1 (wrap64 (x5 + 1))) else (some false)))) else (some false)) else (none)) else (none)) else (some true)
def marigraphref8_Same.f (k : Nat) (l0 : List (S34)) (l1 : List (S34)) : Option (Bool) := if (l0.length : Int) = (l1.length : Int) then (marigraphref8_Same.l0 k l0 l1 0) else (some false)
theorem marigraphref8_Same.mono_l : ∀ k, (∀ y0 y1 y2, LeO (marigraphref8_Same.l0 k y0 y1 y2) (marigraphref8_Same.l0 (k + 1) y0 y1 y2))
 | 0 => fun _ _ _ r h => by simp [marigraphref8_Same.l0] at h
 | k + 1 => by
  have ih0 := marigraphref8_Same.mono_l k
  ·intro y0 y1 y2
   unfold marigraphref8_Same.l0
   repeat' first
   | (with_reducible exact ih0 _ _ _)
   | (with_reducible exact LeO.refl _)
   | (with_reducible exact LeO.none _)
   | (with_reducible refine LeO.ite ?_ ?_)
   | (with_reducible refine LeO.bind ?_ (fun _ => ?_))
   | exact ih0 _ _ _
   | exact LeO.none _
   | refine LeO.ite ?_ ?_
   | refine LeO.bind ?_ (fun _ => ?_)
theorem marigraphref8_Same.mono : ∀ a0 a1 k, LeO (marigraphref8_Same.f k a0 a1) (marigraphref8_Same.f (k + 1) a0 a1) := by
 intro a0 a1 k
 have ih0 := marigraphref8_Same.mono_l k
 unfold marigraphref8_Same.f
 repeat' first
   | (with_reducible exact ih0 _ _ _)
   | (with_reducible exact LeO.refl _)
   | (with_reducible exact LeO.none _)
   | (with_reducible refine LeO.ite ?_ ?_)
   | (with_reducible refine LeO.bind ?_ (fun _ => ?_))
   | exact ih0 _ _ _
   | exact LeO.none _
   | refine LeO.ite ?_ ?_
   | refine LeO.bind ?_ (fun _ => ?_)
set_option maxHeartbeats 8000000 in
set_option maxRecDepth 100000 in
theorem marigraphref8_Same.calls (k : Nat) (A0 : Option Addr) (c0 : Nat) (l0 : List (S34)) (A1 : Option Addr) (c1 : Nat) (l1 : List (S34)) (r : Bool) (w : World) (hr0 : Kd.C k34 w A0 l0.length l0) (hc0 : l0.length ≤ c0) (hr1 : Kd.C k34 w A1 l1.length l1) (hc1 : l1.length ≤ c1) (h : marigraphref8_Same.f k l0 l1 = some r) :
  Calls Try.prog 15 #[.slice A0 l0.length c0, .slice A1 l1.length c1] w fun e w' => e = .returned (.bool r) ∧ Drawn0 w w' := by
 have HR0 := Aside0.mk hr0
 have HC0 := Aside0.mk hc0
 clear hr0 hc0
 have HR1 := Aside0.mk hr1
 have HC1 := Aside0.mk hc1
 clear hr1 hc1
 have H : (if (l0.length : Int) = (l1.length : Int) then (marigraphref8_Same.l0 k l0 l1 0) else (some false)) = some r := h
 clear h
 by_cases c3 : (l0.length : Int) = (l1.length : Int)
 ·rw [if_pos c3] at H
  have c3b0 : ((l0.length : Int) == (l1.length : Int)) = true := beq_iff_eq.mpr c3
  have c3b1 : ((l0.length : Int) != (l1.length : Int)) = false := bne_eq_false_iff_eq.mpr c3
  have c3b2 : (l0.length == l1.length) = true := by first | simpa using c3 | (simp at c3 ⊢; omega)
  clear c3
  have H' := Aside0.mk H
  clear H
  go_enter Try.func15, Try.ntmps15
  go_wp2
  repeat (go_quiet (fail); try go_wp2)
  go_loopg [5] k (fun kq v5 w' => ∃ (x5_1 : Int), v5 = .int .i64 x5_1 ∧ Aside0 (marigraphref8_Same.l0 kq l0 l1 x5_1 = some r) ∧ Aside0 (kq ≤ k) ∧ Drawn0 w w')
  case atStart => exact ⟨(0), (by first | rfl | (simp; done) | (simp [*]; done)), H', ⟨Nat.le_refl _⟩, by repeat (first | exact Drawn0.refl _ | apply Drawn0.step)⟩
  case round =>
   clear H'
   try clear c1
   try clear p2
   try clear c3
   try clear c3b0
   try clear c3b1
   try clear c3b2
   obtain ⟨x5_1, rfl, HA, HK1, ⟨m1, rfl⟩⟩ := hrel
   cases gk with
   | zero => exact absurd HA.out (by simp [marigraphref8_Same.l0])
   | succ k1 =>
    have H := HA.out
    clear HA
    simp only [marigraphref8_Same.l0] at H
    by_cases c4 : x5_1 < (l0.length : Int)
    ·rw [if_pos c4] at H
     have c4b0 : decide (x5_1 < (l0.length : Int)) = true := decide_eq_true c4
     clear c4
     by_cases c5 : 0 ≤ x5_1
     ·rw [if_pos c5] at H
      have c5b0 : decide (0 ≤ x5_1) = true := decide_eq_true c5
      clear c5
      by_cases c6 : x5_1 < (l1.length : Int)
      ·rw [if_pos c6] at H
       have c6b0 : decide (x5_1 < (l1.length : Int)) = true := decide_eq_true c6
       clear c6
       by_cases c7 : (strOfNums ((rd_T34 l0 x5_1).f0)).toList = (strOfNums ((rd_T34 l1 x5_1).f0)).toList
       ·rw [if_pos c7] at H
        have c7b0 : ((strOfNums ((rd_T34 l0 x5_1).f0)).toList == (strOfNums ((rd_T34 l1 x5_1).f0)).toList) = true := beq_iff_eq.mpr c7
        have c7b1 : ((strOfNums ((rd_T34 l0 x5_1).f0)).toList != (strOfNums ((rd_T34 l1 x5_1).f0)).toList) = false := bne_eq_false_iff_eq.mpr c7
        clear c7
        by_cases c8 : (((rd_T34 l0 x5_1).f2) != ((rd_T34 l1 x5_1).f2)) = true
        ·rw [if_pos c8] at H
         have c8b0 : (((rd_T34 l0 x5_1).f2) != ((rd_T34 l1 x5_1).f2)) = true := c8
         (try (have c8b1 : decide (((rd_T34 l0 x5_1).f2) = ((rd_T34 l1 x5_1).f2)) = false := by simpa using c8))
         (try (have c8b2 : (((rd_T34 l0 x5_1).f2) == ((rd_T34 l1 x5_1).f2)) = false := by simpa using c8))
         (try (have c8b3 : ¬ (((rd_T34 l0 x5_1).f2) = ((rd_T34 l1 x5_1).f2)) := by simpa using c8))
         clear c8
         obtain rfl := Option.some.inj H
         have p283 : 0 ≤ (x5_1 : Int) := of_decide_eq_true (by first | (with_reducible assumption) | assumption)
         have q283 : x5_1 < (l0.length : Int) := of_decide_eq_true (by first | (with_reducible assumption) | assumption)
         obtain ⟨ad283, A283_0, c283_0, A283_1, c283_1, e283, hx283_0, hx283_1, hx283_2, hl283_0, hi283_0, hl283_1, hi283_1⟩ := at_T34 HR0.out x5_1 p283 q283
         cases e283
         have HR283_0 := Aside0.mk hi283_0
         have HC283_0 := Aside0.mk hl283_0
         clear hi283_0 hl283_0
         have HR283_1 := Aside0.mk hi283_1
         have HC283_1 := Aside0.mk hl283_1
         clear hi283_1 hl283_1
         replace p283 := eq_true p283
         replace q283 := eq_true q283
         have hcv9 := Kd.C_string (P := Try.prog) (A := A283_0) (c := c283_0) Try.underlying26 Try.underlying5 Try.underlying9 HR283_0.out
         have p284 : 0 ≤ (x5_1 : Int) := of_decide_eq_true (by first | (with_reducible assumption) | assumption)
         have q284 : x5_1 < (l1.length : Int) := of_decide_eq_true (by first | (with_reducible assumption) | assumption)
         obtain ⟨ad284, A284_0, c284_0, A284_1, c284_1, e284, hx284_0, hx284_1, hx284_2, hl284_0, hi284_0, hl284_1, hi284_1⟩ := at_T34 HR1.out x5_1 p284 q284
         cases e284
         have HR284_0 := Aside0.mk hi284_0
         have HC284_0 := Aside0.mk hl284_0
         clear hi284_0 hl284_0
         have HR284_1 := Aside0.mk hi284_1
         have HC284_1 := Aside0.mk hl284_1
         clear hi284_1 hl284_1
         replace p284 := eq_true p284
         replace q284 := eq_true q284
         have hcv10 := Kd.C_string (P := Try.prog) (A := A284_0) (c := c284_0) Try.underlying26 Try.underlying5 Try.underlying9 HR284_0.out
         have p285 : 0 ≤ (x5_1 : Int) := of_decide_eq_true (by first | (with_reducible assumption) | assumption)
         have q285 : x5_1 < (l0.length : Int) := of_decide_eq_true (by first | (with_reducible assumption) | assumption)
         obtain ⟨ad285, A285_0, c285_0, A285_1, c285_1, e285, hx285_0, hx285_1, hx285_2, hl285_0, hi285_0, hl285_1, hi285_1⟩ := at_T34 HR0.out x5_1 p285 q285
         obtain rfl : ad283 = ad285 := (by injection e285)
         have HR285_0 := Aside0.mk hi285_0
         have HC285_0 := Aside0.mk hl285_0
         clear hi285_0 hl285_0
         have HR285_1 := Aside0.mk hi285_1
         have HC285_1 := Aside0.mk hl285_1
         clear hi285_1 hl285_1
         replace p285 := eq_true p285
         replace q285 := eq_true q285
         have ea_ := Option.some.inj (hx283_0.symm.trans hx285_0)
         injection ea_ with ea_ en_ ec_
         subst ea_
         subst ec_
         clear en_
         have ea_ := Option.some.inj (hx283_1.symm.trans hx285_1)
         injection ea_ with ea_ en_ ec_
         subst ea_
         subst ec_
         clear en_
         have p286 : 0 ≤ (x5_1 : Int) := of_decide_eq_true (by first | (with_reducible assumption) | assumption)
         have q286 : x5_1 < (l1.length : Int) := of_decide_eq_true (by first | (with_reducible assumption) | assumption)
         obtain ⟨ad286, A286_0, c286_0, A286_1, c286_1, e286, hx286_0, hx286_1, hx286_2, hl286_0, hi286_0, hl286_1, hi286_1⟩ := at_T34 HR1.out x5_1 p286 q286
         obtain rfl : ad284 = ad286 := (by injection e286)
         have HR286_0 := Aside0.mk hi286_0
         have HC286_0 := Aside0.mk hl286_0
         clear hi286_0 hl286_0
         have HR286_1 := Aside0.mk hi286_1
         have HC286_1 := Aside0.mk hl286_1
         clear hi286_1 hl286_1
         replace p286 := eq_true p286
         replace q286 := eq_true q286
         have ea_ := Option.some.inj (hx284_0.symm.trans hx286_0)
         injection ea_ with ea_ en_ ec_
         subst ea_
         subst ec_
         clear en_
         have ea_ := Option.some.inj (hx284_1.symm.trans hx286_1)
         injection ea_ with ea_ en_ ec_
         subst ea_
         subst ec_
         clear en_
         go_wp2
         refine start_ (n := 49) (S := fun w' => w'.cell? (ad283.add (x5_1.toNat * 3)) = some (.slice A283_0 (rd_T34 l0 x5_1).f0.length c283_0) ∧ w'.cell? ⟨(ad283.add (x5_1.toNat * 3)).block, (ad283.add (x5_1.toNat * 3)).off + 1, none⟩ = some (.slice A283_1 (rd_T34 l0 x5_1).f1.length c283_1) ∧ w'.cell? ⟨(ad283.add (x5_1.toNat * 3)).block, (ad283.add (x5_1.toNat * 3)).off + 2, none⟩ = some (.bool (rd_T34 l0 x5_1).f2) ∧ w'.cell? (ad284.add (x5_1.toNat * 3)) = some (.slice A284_0 (rd_T34 l1 x5_1).f0.length c284_0) ∧ w'.cell? ⟨(ad284.add (x5_1.toNat * 3)).block, (ad284.add (x5_1.toNat * 3)).off + 1, none⟩ = some (.slice A284_1 (rd_T34 l1 x5_1).f1.length c284_1) ∧ w'.cell? ⟨(ad284.add (x5_1.toNat * 3)).block, (ad284.add (x5_1.toNat * 3)).off + 2, none⟩ = some (.bool (rd_T34 l1 x5_1).f2) ∧ Kd.C (Kd.int .u8) w' A283_0 (rd_T34 l0 x5_1).f0.length (rd_T34 l0 x5_1).f0 ∧ Kd.C (Kd.int .u8) w' A284_0 (rd_T34 l1 x5_1).f0.length (rd_T34 l1 x5_1).f0 ∧ Kd.C (Kd.int .u8) w' A283_1 (rd_T34 l0 x5_1).f1.length (rd_T34 l0 x5_1).f1 ∧ Kd.C (Kd.int .u8) w' A284_1 (rd_T34 l1 x5_1).f1.length (rd_T34 l1 x5_1).f1) (ds := []) (bA 49 0) (by kernel_rfl) rfl rfl ⟨hx283_0, hx283_1, hx283_2, hx284_0, hx284_1, hx284_2, (by first | exact Kd.C_drewN HR283_0.out _ | exact Kd.C_drew (Kd.C_drewN HR283_0.out _) | exact Kd.C_drew HR283_0.out | exact HR283_0.out), (by first | exact Kd.C_drewN HR284_0.out _ | exact Kd.C_drew (Kd.C_drewN HR284_0.out _) | exact Kd.C_drew HR284_0.out | exact HR284_0.out), (by first | exact Kd.C_drewN HR283_1.out _ | exact Kd.C_drew (Kd.C_drewN HR283_1.out _) | exact Kd.C_drew HR283_1.out | exact HR283_1.out), (by first | exact Kd.C_drewN HR284_1.out _ | exact Kd.C_drew (Kd.C_drewN HR284_1.out _) | exact Kd.C_drew HR284_1.out | exact HR284_1.out)⟩ (fun hHeld => ?_)
         refine norm_ (by rfl) ?_
         refine pK 0 (some 17) (bA 49 1) ?_
         refine pK 1 (some 18) (bA 49 3) ?_
         refine pK 2 (some 19) (bA 49 7) ?_
         refine pK 3 (some 20) (bA 49 15) ?_
         refine tK 4 (some 21) (bA 49 31) rfl rfl hHeld (by rintro w' ⟨s0, s1, s2, s3, s4, s5, s6, s7, s8, s9⟩; go_simp; with_reducible rfl) ?_
         refine tK 5 (some 22) (bA 49 63) rfl rfl hHeld (by rintro w' ⟨s0, s1, s2, s3, s4, s5, s6, s7, s8, s9⟩; have e_ := Kd.C_string (P := Try.prog) (c := c283_0) Try.underlying26 Try.underlying5 Try.underlying9 s6; go_simp; with_reducible rfl) ?_
         refine pK 6 (some 23) (bA 49 127) ?_
         refine pK 7 (some 24) (bA 49 255) ?_
         refine pK 8 (some 25) (bA 49 511) ?_
         refine pK 9 (some 26) (bA 49 1023) ?_
         refine tK 10 (some 27) (bA 49 2047) rfl rfl hHeld (by rintro w' ⟨s0, s1, s2, s3, s4, s5, s6, s7, s8, s9⟩; go_simp; with_reducible rfl) ?_
         refine tK 11 (some 28) (bA 49 4095) rfl rfl hHeld (by rintro w' ⟨s0, s1, s2, s3, s4, s5, s6, s7, s8, s9⟩; have e_ := Kd.C_string (P := Try.prog) (c := c284_0) Try.underlying26 Try.underlying5 Try.underlying9 s7; go_simp; with_reducible rfl) ?_
         refine pK 12 (some 29) (bA 49 8191) ?_
         refine pK 13 (some 30) (bA 49 16383) ?_
         refine pK 14 (some 31) (bA 49 32767) ?_
         refine pK 15 (some 32) (bA 49 65535) ?_
         refine pK 16 (some 33) (bA 49 131071) ?_
         refine pK 17 (some 34) (bA 49 262143) ?_
         refine tK 18 (some 35) (bA 49 524287) rfl rfl hHeld (by rintro w' ⟨s0, s1, s2, s3, s4, s5, s6, s7, s8, s9⟩; go_simp; with_reducible rfl) ?_
         refine pK 19 (some 36) (bA 49 1048575) ?_
         refine pK 20 (some 37) (bA 49 2097151) ?_
         refine pK 21 (some 38) (bA 49 4194303) ?_
         refine pK 22 (some 39) (bA 49 8388607) ?_
         refine tK 23 (some 40) (bA 49 16777215) rfl rfl hHeld (by rintro w' ⟨s0, s1, s2, s3, s4, s5, s6, s7, s8, s9⟩; go_simp; with_reducible rfl) ?_
         refine pK 24 (some 41) (bA 49 33554431) ?_
         refine pK 25 (some 42) (bA 49 67108863) ?_
         refine pK 26 (some 43) (bA 49 134217727) ?_
         refine uK 27 (some 44) (bA 49 268435455) ?_
         refine uK 28 (some 45) (bA 49 536870911) ?_
         refine uK 29 (some 46) (bA 49 1073741823) ?_
         refine uK 30 (some 47) (bA 49 2147483647) ?_
         refine uK 31 (some 48) (bA 49 4294967295) ?_
         refine uK 32 (some 49) (bA 49 8589934591) ?_
         refine uK 33 (some 50) (bA 49 17179869183) ?_
         refine uK 34 (some 51) (bA 49 34359738367) ?_
         refine uK 35 (some 52) (bA 49 68719476735) ?_
         refine uK 36 (some 53) (bA 49 137438953471) ?_
         refine uK 37 (some 54) (bA 49 274877906943) ?_
         refine uK 38 (some 55) (bA 49 549755813887) ?_
         refine uK 39 (some 56) (bA 49 1099511627775) ?_
         refine uK 40 (some 57) (bA 49 2199023255551) ?_
         refine uK 41 (some 58) (bA 49 4398046511103) ?_
         refine uK 42 (some 59) (bA 49 8796093022207) ?_
         refine uK 43 (some 60) (bA 49 17592186044415) ?_
         refine uK 44 (some 61) (bA 49 35184372088831) ?_
         refine uK 45 (some 62) (bA 49 70368744177663) ?_
         refine uK 46 (some 63) (bA 49 140737488355327) ?_
         refine uK 47 (some 64) (bA 49 281474976710655) ?_
         refine pK 48 (some 65) (bA 49 562949953421311) ?_
         refine done_ (by kernel_rfl) ?_
         clear hHeld
         go_wp2
         go_ret
         exact ⟨by first | rfl | (simp; done) | (simp [*]; done), by repeat (first | exact Drawn0.refl _ | apply Drawn0.step)⟩
        ·rw [if_neg c8] at H
         have c8b0 : (((rd_T34 l0 x5_1).f2) != ((rd_T34 l1 x5_1).f2)) = false := by simpa using c8
         (try (have c8b1 : decide (((rd_T34 l0 x5_1).f2) = ((rd_T34 l1 x5_1).f2)) = true := by simpa using c8))
         (try (have c8b2 : (((rd_T34 l0 x5_1).f2) == ((rd_T34 l1 x5_1).f2)) = true := by simpa using c8))
         clear c8
         obtain ⟨bq11, hbq11⟩ : ∃ b_ : Bool, b_ = ((rd_T34 l0 x5_1).f2) := ⟨_, rfl⟩
         replace H : (if (bq11 = true) then (marigraphref8_Same.l0 k1 l0 l1 (wrap64 (x5_1 + 1))) else (if (strOfNums ((rd_T34 l0 x5_1).f1)).toList = (strOfNums ((rd_T34 l1 x5_1).f1)).toList then (marigraphref8_Same.l0 k1 l0 l1 (wrap64 (x5_1 + 1))) else (some false))) = some r := by rw [← hbq11] at H; exact H
         have Nbq11 := Aside0.mk hbq11
         clear hbq11
         by_cases c12 : (bq11 = true)
         ·subst c12
          have H1 : (marigraphref8_Same.l0 k1 l0 l1 (wrap64 (x5_1 + 1))) = some r := by rw [if_pos rfl] at H; exact H
          clear H
          have H := H1
          clear H1
          have H' := Aside0.mk H
          clear H
          have p283 : 0 ≤ (x5_1 : Int) := of_decide_eq_true (by first | (with_reducible assumption) | assumption)
          have q283 : x5_1 < (l0.length : Int) := of_decide_eq_true (by first | (with_reducible assumption) | assumption)
          obtain ⟨ad283, A283_0, c283_0, A283_1, c283_1, e283, hx283_0, hx283_1, hx283_2, hl283_0, hi283_0, hl283_1, hi283_1⟩ := at_T34 HR0.out x5_1 p283 q283
          (try rw [← Nbq11.out] at hx283_2)
          cases e283
          have HR283_0 := Aside0.mk hi283_0
          have HC283_0 := Aside0.mk hl283_0
          clear hi283_0 hl283_0
          have HR283_1 := Aside0.mk hi283_1
          have HC283_1 := Aside0.mk hl283_1
          clear hi283_1 hl283_1
          replace p283 := eq_true p283
          replace q283 := eq_true q283
          have hcv13 := Kd.C_string (P := Try.prog) (A := A283_0) (c := c283_0) Try.underlying26 Try.underlying5 Try.underlying9 HR283_0.out
          have p284 : 0 ≤ (x5_1 : Int) := of_decide_eq_true (by first | (with_reducible assumption) | assumption)
          have q284 : x5_1 < (l1.length : Int) := of_decide_eq_true (by first | (with_reducible assumption) | assumption)
          obtain ⟨ad284, A284_0, c284_0, A284_1, c284_1, e284, hx284_0, hx284_1, hx284_2, hl284_0, hi284_0, hl284_1, hi284_1⟩ := at_T34 HR1.out x5_1 p284 q284
          (try rw [← Nbq11.out] at hx284_2)
          cases e284
          have HR284_0 := Aside0.mk hi284_0
          have HC284_0 := Aside0.mk hl284_0
          clear hi284_0 hl284_0
          have HR284_1 := Aside0.mk hi284_1
          have HC284_1 := Aside0.mk hl284_1
          clear hi284_1 hl284_1
          replace p284 := eq_true p284
          replace q284 := eq_true q284
          have hcv14 := Kd.C_string (P := Try.prog) (A := A284_0) (c := c284_0) Try.underlying26 Try.underlying5 Try.underlying9 HR284_0.out
          have p285 : 0 ≤ (x5_1 : Int) := of_decide_eq_true (by first | (with_reducible assumption) | assumption)
          have q285 : x5_1 < (l0.length : Int) := of_decide_eq_true (by first | (with_reducible assumption) | assumption)
          obtain ⟨ad285, A285_0, c285_0, A285_1, c285_1, e285, hx285_0, hx285_1, hx285_2, hl285_0, hi285_0, hl285_1, hi285_1⟩ := at_T34 HR0.out x5_1 p285 q285
          (try rw [← Nbq11.out] at hx285_2)
          obtain rfl : ad283 = ad285 := (by injection e285)
          have HR285_0 := Aside0.mk hi285_0
          have HC285_0 := Aside0.mk hl285_0
          clear hi285_0 hl285_0
          have HR285_1 := Aside0.mk hi285_1
          have HC285_1 := Aside0.mk hl285_1
          clear hi285_1 hl285_1
          replace p285 := eq_true p285
          replace q285 := eq_true q285
          have ea_ := Option.some.inj (hx283_0.symm.trans hx285_0)
          injection ea_ with ea_ en_ ec_
          subst ea_
          subst ec_
          clear en_
          have ea_ := Option.some.inj (hx283_1.symm.trans hx285_1)
          injection ea_ with ea_ en_ ec_
          subst ea_
          subst ec_
          clear en_
          have p286 : 0 ≤ (x5_1 : Int) := of_decide_eq_true (by first | (with_reducible assumption) | assumption)
          have q286 : x5_1 < (l1.length : Int) := of_decide_eq_true (by first | (with_reducible assumption) | assumption)
          obtain ⟨ad286, A286_0, c286_0, A286_1, c286_1, e286, hx286_0, hx286_1, hx286_2, hl286_0, hi286_0, hl286_1, hi286_1⟩ := at_T34 HR1.out x5_1 p286 q286
          (try rw [← Nbq11.out] at hx286_2)
          obtain rfl : ad284 = ad286 := (by injection e286)
          have HR286_0 := Aside0.mk hi286_0
          have HC286_0 := Aside0.mk hl286_0
          clear hi286_0 hl286_0
          have HR286_1 := Aside0.mk hi286_1
          have HC286_1 := Aside0.mk hl286_1
          clear hi286_1 hl286_1
          replace p286 := eq_true p286
          replace q286 := eq_true q286
          have ea_ := Option.some.inj (hx284_0.symm.trans hx286_0)
          injection ea_ with ea_ en_ ec_
          subst ea_
          subst ec_
          clear en_
          have ea_ := Option.some.inj (hx284_1.symm.trans hx286_1)
          injection ea_ with ea_ en_ ec_
          subst ea_
          subst ec_
          clear en_
          have p287 : 0 ≤ (x5_1 : Int) := of_decide_eq_true (by first | (with_reducible assumption) | assumption)
          have q287 : x5_1 < (l0.length : Int) := of_decide_eq_true (by first | (with_reducible assumption) | assumption)
          obtain ⟨ad287, A287_0, c287_0, A287_1, c287_1, e287, hx287_0, hx287_1, hx287_2, hl287_0, hi287_0, hl287_1, hi287_1⟩ := at_T34 HR0.out x5_1 p287 q287
          (try rw [← Nbq11.out] at hx287_2)
          obtain rfl : ad283 = ad287 := (by injection e287)
          have HR287_0 := Aside0.mk hi287_0
          have HC287_0 := Aside0.mk hl287_0
          clear hi287_0 hl287_0
          have HR287_1 := Aside0.mk hi287_1
          have HC287_1 := Aside0.mk hl287_1
          clear hi287_1 hl287_1
          replace p287 := eq_true p287
          replace q287 := eq_true q287
          have ea_ := Option.some.inj (hx283_0.symm.trans hx287_0)
          injection ea_ with ea_ en_ ec_
          subst ea_
          subst ec_
          clear en_
          have ea_ := Option.some.inj (hx283_1.symm.trans hx287_1)
          injection ea_ with ea_ en_ ec_
          subst ea_
          subst ec_
          clear en_
          go_wp2
          have c8z := c8b0
          rw [← Nbq11.out] at c8z
          have hz_ : (rd_T34 l1 x5_1).f2 = true := by simpa using c8z
          clear c8z
          have hxz_ := hx284_2
          rw [hz_] at hxz_
          clear hz_
          refine start_ (n := 49) (S := fun w' => w'.cell? (ad283.add (x5_1.toNat * 3)) = some (.slice A283_0 (rd_T34 l0 x5_1).f0.length c283_0) ∧ w'.cell? ⟨(ad283.add (x5_1.toNat * 3)).block, (ad283.add (x5_1.toNat * 3)).off + 1, none⟩ = some (.slice A283_1 (rd_T34 l0 x5_1).f1.length c283_1) ∧ w'.cell? ⟨(ad283.add (x5_1.toNat * 3)).block, (ad283.add (x5_1.toNat * 3)).off + 2, none⟩ = some (.bool true) ∧ w'.cell? (ad284.add (x5_1.toNat * 3)) = some (.slice A284_0 (rd_T34 l1 x5_1).f0.length c284_0) ∧ w'.cell? ⟨(ad284.add (x5_1.toNat * 3)).block, (ad284.add (x5_1.toNat * 3)).off + 1, none⟩ = some (.slice A284_1 (rd_T34 l1 x5_1).f1.length c284_1) ∧ w'.cell? ⟨(ad284.add (x5_1.toNat * 3)).block, (ad284.add (x5_1.toNat * 3)).off + 2, none⟩ = some (.bool true) ∧ Kd.C (Kd.int .u8) w' A283_0 (rd_T34 l0 x5_1).f0.length (rd_T34 l0 x5_1).f0 ∧ Kd.C (Kd.int .u8) w' A284_0 (rd_T34 l1 x5_1).f0.length (rd_T34 l1 x5_1).f0 ∧ Kd.C (Kd.int .u8) w' A283_1 (rd_T34 l0 x5_1).f1.length (rd_T34 l0 x5_1).f1 ∧ Kd.C (Kd.int .u8) w' A284_1 (rd_T34 l1 x5_1).f1.length (rd_T34 l1 x5_1).f1) (ds := []) (bA 49 0) (by kernel_rfl) rfl rfl ⟨hx283_0, hx283_1, hx283_2, hx284_0, hx284_1, hxz_, (by first | exact Kd.C_drewN HR283_0.out _ | exact Kd.C_drew (Kd.C_drewN HR283_0.out _) | exact Kd.C_drew HR283_0.out | exact HR283_0.out), (by first | exact Kd.C_drewN HR284_0.out _ | exact Kd.C_drew (Kd.C_drewN HR284_0.out _) | exact Kd.C_drew HR284_0.out | exact HR284_0.out), (by first | exact Kd.C_drewN HR283_1.out _ | exact Kd.C_drew (Kd.C_drewN HR283_1.out _) | exact Kd.C_drew HR283_1.out | exact HR283_1.out), (by first | exact Kd.C_drewN HR284_1.out _ | exact Kd.C_drew (Kd.C_drewN HR284_1.out _) | exact Kd.C_drew HR284_1.out | exact HR284_1.out)⟩ (fun hHeld => ?_)
          refine norm_ (by rfl) ?_
          refine pK 0 (some 17) (bA 49 1) ?_
          refine pK 1 (some 18) (bA 49 3) ?_
          refine pK 2 (some 19) (bA 49 7) ?_
          refine pK 3 (some 20) (bA 49 15) ?_
          refine tK 4 (some 21) (bA 49 31) rfl rfl hHeld (by rintro w' ⟨s0, s1, s2, s3, s4, s5, s6, s7, s8, s9⟩; go_simp; with_reducible rfl) ?_
          refine tK 5 (some 22) (bA 49 63) rfl rfl hHeld (by rintro w' ⟨s0, s1, s2, s3, s4, s5, s6, s7, s8, s9⟩; have e_ := Kd.C_string (P := Try.prog) (c := c283_0) Try.underlying26 Try.underlying5 Try.underlying9 s6; go_simp; with_reducible rfl) ?_
          refine pK 6 (some 23) (bA 49 127) ?_
          refine pK 7 (some 24) (bA 49 255) ?_
          refine pK 8 (some 25) (bA 49 511) ?_
          refine pK 9 (some 26) (bA 49 1023) ?_
          refine tK 10 (some 27) (bA 49 2047) rfl rfl hHeld (by rintro w' ⟨s0, s1, s2, s3, s4, s5, s6, s7, s8, s9⟩; go_simp; with_reducible rfl) ?_
          refine tK 11 (some 28) (bA 49 4095) rfl rfl hHeld (by rintro w' ⟨s0, s1, s2, s3, s4, s5, s6, s7, s8, s9⟩; have e_ := Kd.C_string (P := Try.prog) (c := c284_0) Try.underlying26 Try.underlying5 Try.underlying9 s7; go_simp; with_reducible rfl) ?_
          refine pK 12 (some 29) (bA 49 8191) ?_
          refine pK 13 (some 30) (bA 49 16383) ?_
          refine pK 14 (some 31) (bA 49 32767) ?_
          refine pK 15 (some 32) (bA 49 65535) ?_
          refine pK 16 (some 33) (bA 49 131071) ?_
          refine pK 17 (some 34) (bA 49 262143) ?_
          refine tK 18 (some 35) (bA 49 524287) rfl rfl hHeld (by rintro w' ⟨s0, s1, s2, s3, s4, s5, s6, s7, s8, s9⟩; go_simp; with_reducible rfl) ?_
          refine pK 19 (some 36) (bA 49 1048575) ?_
          refine pK 20 (some 37) (bA 49 2097151) ?_
          refine pK 21 (some 38) (bA 49 4194303) ?_
          refine pK 22 (some 39) (bA 49 8388607) ?_
          refine tK 23 (some 40) (bA 49 16777215) rfl rfl hHeld (by rintro w' ⟨s0, s1, s2, s3, s4, s5, s6, s7, s8, s9⟩; go_simp; with_reducible rfl) ?_
          refine pK 24 (some 41) (bA 49 33554431) ?_
          refine pK 25 (some 42) (bA 49 67108863) ?_
          refine pK 26 (some 43) (bA 49 134217727) ?_
          refine pK 27 (some 44) (bA 49 268435455) ?_
          refine pK 28 (some 45) (bA 49 536870911) ?_
          refine pK 29 (some 46) (bA 49 1073741823) ?_
          refine pK 30 (some 47) (bA 49 2147483647) ?_
          refine tK 31 (some 48) (bA 49 4294967295) rfl rfl hHeld (by rintro w' ⟨s0, s1, s2, s3, s4, s5, s6, s7, s8, s9⟩; go_simp; with_reducible rfl) ?_
          refine pK 32 (some 49) (bA 49 8589934591) ?_
          refine pK 33 (some 50) (bA 49 17179869183) ?_
          refine uK 34 (some 51) (bA 49 34359738367) ?_
          refine uK 35 (some 52) (bA 49 68719476735) ?_
          refine uK 36 (some 53) (bA 49 137438953471) ?_
          refine uK 37 (some 54) (bA 49 274877906943) ?_
          refine uK 38 (some 55) (bA 49 549755813887) ?_
          refine uK 39 (some 56) (bA 49 1099511627775) ?_
          refine uK 40 (some 57) (bA 49 2199023255551) ?_
          refine uK 41 (some 58) (bA 49 4398046511103) ?_
          refine uK 42 (some 59) (bA 49 8796093022207) ?_
          refine uK 43 (some 60) (bA 49 17592186044415) ?_
          refine uK 44 (some 61) (bA 49 35184372088831) ?_
          refine uK 45 (some 62) (bA 49 70368744177663) ?_
          refine uK 46 (some 63) (bA 49 140737488355327) ?_
          refine pK 47 (some 64) (bA 49 281474976710655) ?_
          refine pK 48 (some 65) (bA 49 562949953421311) ?_
          refine done_ (by kernel_rfl) ?_
          clear hHeld
          go_wp2
          go_roundg k1
          case measure => have := HK1.out; omega
          case rel => exact ⟨(wrap64 (x5_1 + 1)), (by first | rfl | (simp; done) | (simp [*]; done)), H', ⟨by have := HK1.out; omega⟩, by repeat (first | exact Drawn0.refl _ | apply Drawn0.step)⟩
         ·replace c12 := Bool.eq_false_iff.mpr c12
          subst c12
          have H1 : (if (strOfNums ((rd_T34 l0 x5_1).f1)).toList = (strOfNums ((rd_T34 l1 x5_1).f1)).toList then (marigraphref8_Same.l0 k1 l0 l1 (wrap64 (x5_1 + 1))) else (some false)) = some r := by rw [if_neg (show ¬ (false = true) by decide)] at H; exact H
          clear H
          have H := H1
          clear H1
          by_cases c15 : (strOfNums ((rd_T34 l0 x5_1).f1)).toList = (strOfNums ((rd_T34 l1 x5_1).f1)).toList
          ·rw [if_pos c15] at H
           have c15b0 : ((strOfNums ((rd_T34 l0 x5_1).f1)).toList == (strOfNums ((rd_T34 l1 x5_1).f1)).toList) = true := beq_iff_eq.mpr c15
           have c15b1 : ((strOfNums ((rd_T34 l0 x5_1).f1)).toList != (strOfNums ((rd_T34 l1 x5_1).f1)).toList) = false := bne_eq_false_iff_eq.mpr c15
           clear c15
           have H' := Aside0.mk H
           clear H
           have p283 : 0 ≤ (x5_1 : Int) := of_decide_eq_true (by first | (with_reducible assumption) | assumption)
           have q283 : x5_1 < (l0.length : Int) := of_decide_eq_true (by first | (with_reducible assumption) | assumption)
           obtain ⟨ad283, A283_0, c283_0, A283_1, c283_1, e283, hx283_0, hx283_1, hx283_2, hl283_0, hi283_0, hl283_1, hi283_1⟩ := at_T34 HR0.out x5_1 p283 q283
           (try rw [← Nbq11.out] at hx283_2)
           cases e283
           have HR283_0 := Aside0.mk hi283_0
           have HC283_0 := Aside0.mk hl283_0
           clear hi283_0 hl283_0
           have HR283_1 := Aside0.mk hi283_1
           have HC283_1 := Aside0.mk hl283_1
           clear hi283_1 hl283_1
           replace p283 := eq_true p283
           replace q283 := eq_true q283
           have hcv16 := Kd.C_string (P := Try.prog) (A := A283_0) (c := c283_0) Try.underlying26 Try.underlying5 Try.underlying9 HR283_0.out
           have p284 : 0 ≤ (x5_1 : Int) := of_decide_eq_true (by first | (with_reducible assumption) | assumption)
           have q284 : x5_1 < (l1.length : Int) := of_decide_eq_true (by first | (with_reducible assumption) | assumption)
           obtain ⟨ad284, A284_0, c284_0, A284_1, c284_1, e284, hx284_0, hx284_1, hx284_2, hl284_0, hi284_0, hl284_1, hi284_1⟩ := at_T34 HR1.out x5_1 p284 q284
           (try rw [← Nbq11.out] at hx284_2)
           cases e284
           have HR284_0 := Aside0.mk hi284_0
           have HC284_0 := Aside0.mk hl284_0
           clear hi284_0 hl284_0
           have HR284_1 := Aside0.mk hi284_1
           have HC284_1 := Aside0.mk hl284_1
           clear hi284_1 hl284_1
           replace p284 := eq_true p284
           replace q284 := eq_true q284
           have hcv17 := Kd.C_string (P := Try.prog) (A := A284_0) (c := c284_0) Try.underlying26 Try.underlying5 Try.underlying9 HR284_0.out
           have p285 : 0 ≤ (x5_1 : Int) := of_decide_eq_true (by first | (with_reducible assumption) | assumption)
           have q285 : x5_1 < (l0.length : Int) := of_decide_eq_true (by first | (with_reducible assumption) | assumption)
           obtain ⟨ad285, A285_0, c285_0, A285_1, c285_1, e285, hx285_0, hx285_1, hx285_2, hl285_0, hi285_0, hl285_1, hi285_1⟩ := at_T34 HR0.out x5_1 p285 q285
           (try rw [← Nbq11.out] at hx285_2)
           obtain rfl : ad283 = ad285 := (by injection e285)
           have HR285_0 := Aside0.mk hi285_0
           have HC285_0 := Aside0.mk hl285_0
           clear hi285_0 hl285_0
           have HR285_1 := Aside0.mk hi285_1
           have HC285_1 := Aside0.mk hl285_1
           clear hi285_1 hl285_1
           replace p285 := eq_true p285
           replace q285 := eq_true q285
           have ea_ := Option.some.inj (hx283_0.symm.trans hx285_0)
           injection ea_ with ea_ en_ ec_
           subst ea_
           subst ec_
           clear en_
           have ea_ := Option.some.inj (hx283_1.symm.trans hx285_1)
           injection ea_ with ea_ en_ ec_
           subst ea_
           subst ec_
           clear en_
           have p286 : 0 ≤ (x5_1 : Int) := of_decide_eq_true (by first | (with_reducible assumption) | assumption)
           have q286 : x5_1 < (l1.length : Int) := of_decide_eq_true (by first | (with_reducible assumption) | assumption)
           obtain ⟨ad286, A286_0, c286_0, A286_1, c286_1, e286, hx286_0, hx286_1, hx286_2, hl286_0, hi286_0, hl286_1, hi286_1⟩ := at_T34 HR1.out x5_1 p286 q286
           (try rw [← Nbq11.out] at hx286_2)
           obtain rfl : ad284 = ad286 := (by injection e286)
           have HR286_0 := Aside0.mk hi286_0
           have HC286_0 := Aside0.mk hl286_0
           clear hi286_0 hl286_0
           have HR286_1 := Aside0.mk hi286_1
           have HC286_1 := Aside0.mk hl286_1
           clear hi286_1 hl286_1
           replace p286 := eq_true p286
           replace q286 := eq_true q286
           have ea_ := Option.some.inj (hx284_0.symm.trans hx286_0)
           injection ea_ with ea_ en_ ec_
           subst ea_
           subst ec_
           clear en_
           have ea_ := Option.some.inj (hx284_1.symm.trans hx286_1)
           injection ea_ with ea_ en_ ec_
           subst ea_
           subst ec_
           clear en_
           have p287 : 0 ≤ (x5_1 : Int) := of_decide_eq_true (by first | (with_reducible assumption) | assumption)
           have q287 : x5_1 < (l0.length : Int) := of_decide_eq_true (by first | (with_reducible assumption) | assumption)
           obtain ⟨ad287, A287_0, c287_0, A287_1, c287_1, e287, hx287_0, hx287_1, hx287_2, hl287_0, hi287_0, hl287_1, hi287_1⟩ := at_T34 HR0.out x5_1 p287 q287
           (try rw [← Nbq11.out] at hx287_2)
           obtain rfl : ad283 = ad287 := (by injection e287)
           have HR287_0 := Aside0.mk hi287_0
           have HC287_0 := Aside0.mk hl287_0
           clear hi287_0 hl287_0
           have HR287_1 := Aside0.mk hi287_1
           have HC287_1 := Aside0.mk hl287_1
           clear hi287_1 hl287_1
           replace p287 := eq_true p287
           replace q287 := eq_true q287
           have ea_ := Option.some.inj (hx283_0.symm.trans hx287_0)
           injection ea_ with ea_ en_ ec_
           subst ea_
           subst ec_
           clear en_
           have ea_ := Option.some.inj (hx283_1.symm.trans hx287_1)
           injection ea_ with ea_ en_ ec_
           subst ea_
           subst ec_
           clear en_
           have p288 : 0 ≤ (x5_1 : Int) := of_decide_eq_true (by first | (with_reducible assumption) | assumption)
           have q288 : x5_1 < (l0.length : Int) := of_decide_eq_true (by first | (with_reducible assumption) | assumption)
           obtain ⟨ad288, A288_0, c288_0, A288_1, c288_1, e288, hx288_0, hx288_1, hx288_2, hl288_0, hi288_0, hl288_1, hi288_1⟩ := at_T34 HR0.out x5_1 p288 q288
           (try rw [← Nbq11.out] at hx288_2)
           obtain rfl : ad283 = ad288 := (by injection e288)
           have HR288_0 := Aside0.mk hi288_0
           have HC288_0 := Aside0.mk hl288_0
           clear hi288_0 hl288_0
           have HR288_1 := Aside0.mk hi288_1
           have HC288_1 := Aside0.mk hl288_1
           clear hi288_1 hl288_1
           replace p288 := eq_true p288
           replace q288 := eq_true q288
           have ea_ := Option.some.inj (hx283_0.symm.trans hx288_0)
           injection ea_ with ea_ en_ ec_
           subst ea_
           subst ec_
           clear en_
           have ea_ := Option.some.inj (hx283_1.symm.trans hx288_1)
           injection ea_ with ea_ en_ ec_
           subst ea_
           subst ec_
           clear en_
           have hcv18 := Kd.C_string (P := Try.prog) (A := A283_1) (c := c283_1) Try.underlying26 Try.underlying5 Try.underlying9 HR288_1.out
           have p289 : 0 ≤ (x5_1 : Int) := of_decide_eq_true (by first | (with_reducible assumption) | assumption)
           have q289 : x5_1 < (l1.length : Int) := of_decide_eq_true (by first | (with_reducible assumption) | assumption)
           obtain ⟨ad289, A289_0, c289_0, A289_1, c289_1, e289, hx289_0, hx289_1, hx289_2, hl289_0, hi289_0, hl289_1, hi289_1⟩ := at_T34 HR1.out x5_1 p289 q289
           (try rw [← Nbq11.out] at hx289_2)
           obtain rfl : ad284 = ad289 := (by injection e289)
           have HR289_0 := Aside0.mk hi289_0
           have HC289_0 := Aside0.mk hl289_0
           clear hi289_0 hl289_0
           have HR289_1 := Aside0.mk hi289_1
           have HC289_1 := Aside0.mk hl289_1
           clear hi289_1 hl289_1
           replace p289 := eq_true p289
           replace q289 := eq_true q289
           have ea_ := Option.some.inj (hx284_0.symm.trans hx289_0)
           injection ea_ with ea_ en_ ec_
           subst ea_
           subst ec_
           clear en_
           have ea_ := Option.some.inj (hx284_1.symm.trans hx289_1)
           injection ea_ with ea_ en_ ec_
           subst ea_
           subst ec_
           clear en_
           have hcv19 := Kd.C_string (P := Try.prog) (A := A284_1) (c := c284_1) Try.underlying26 Try.underlying5 Try.underlying9 HR289_1.out
           go_wp2
           have c8z := c8b0
           rw [← Nbq11.out] at c8z
           have hz_ : (rd_T34 l1 x5_1).f2 = false := by simpa using c8z
           clear c8z
           have hxz_ := hx284_2
           rw [hz_] at hxz_
           clear hz_
           refine start_ (n := 49) (S := fun w' => w'.cell? (ad283.add (x5_1.toNat * 3)) = some (.slice A283_0 (rd_T34 l0 x5_1).f0.length c283_0) ∧ w'.cell? ⟨(ad283.add (x5_1.toNat * 3)).block, (ad283.add (x5_1.toNat * 3)).off + 1, none⟩ = some (.slice A283_1 (rd_T34 l0 x5_1).f1.length c283_1) ∧ w'.cell? ⟨(ad283.add (x5_1.toNat * 3)).block, (ad283.add (x5_1.toNat * 3)).off + 2, none⟩ = some (.bool false) ∧ w'.cell? (ad284.add (x5_1.toNat * 3)) = some (.slice A284_0 (rd_T34 l1 x5_1).f0.length c284_0) ∧ w'.cell? ⟨(ad284.add (x5_1.toNat * 3)).block, (ad284.add (x5_1.toNat * 3)).off + 1, none⟩ = some (.slice A284_1 (rd_T34 l1 x5_1).f1.length c284_1) ∧ w'.cell? ⟨(ad284.add (x5_1.toNat * 3)).block, (ad284.add (x5_1.toNat * 3)).off + 2, none⟩ = some (.bool false) ∧ Kd.C (Kd.int .u8) w' A283_0 (rd_T34 l0 x5_1).f0.length (rd_T34 l0 x5_1).f0 ∧ Kd.C (Kd.int .u8) w' A284_0 (rd_T34 l1 x5_1).f0.length (rd_T34 l1 x5_1).f0 ∧ Kd.C (Kd.int .u8) w' A283_1 (rd_T34 l0 x5_1).f1.length (rd_T34 l0 x5_1).f1 ∧ Kd.C (Kd.int .u8) w' A284_1 (rd_T34 l1 x5_1).f1.length (rd_T34 l1 x5_1).f1) (ds := []) (bA 49 0) (by kernel_rfl) rfl rfl ⟨hx283_0, hx283_1, hx283_2, hx284_0, hx284_1, hxz_, (by first | exact Kd.C_drewN HR283_0.out _ | exact Kd.C_drew (Kd.C_drewN HR283_0.out _) | exact Kd.C_drew HR283_0.out | exact HR283_0.out), (by first | exact Kd.C_drewN HR284_0.out _ | exact Kd.C_drew (Kd.C_drewN HR284_0.out _) | exact Kd.C_drew HR284_0.out | exact HR284_0.out), (by first | exact Kd.C_drewN HR283_1.out _ | exact Kd.C_drew (Kd.C_drewN HR283_1.out _) | exact Kd.C_drew HR283_1.out | exact HR283_1.out), (by first | exact Kd.C_drewN HR284_1.out _ | exact Kd.C_drew (Kd.C_drewN HR284_1.out _) | exact Kd.C_drew HR284_1.out | exact HR284_1.out)⟩ (fun hHeld => ?_)
           refine norm_ (by rfl) ?_
           refine pK 0 (some 17) (bA 49 1) ?_
           refine pK 1 (some 18) (bA 49 3) ?_
           refine pK 2 (some 19) (bA 49 7) ?_
           refine pK 3 (some 20) (bA 49 15) ?_
           refine tK 4 (some 21) (bA 49 31) rfl rfl hHeld (by rintro w' ⟨s0, s1, s2, s3, s4, s5, s6, s7, s8, s9⟩; go_simp; with_reducible rfl) ?_
           refine tK 5 (some 22) (bA 49 63) rfl rfl hHeld (by rintro w' ⟨s0, s1, s2, s3, s4, s5, s6, s7, s8, s9⟩; have e_ := Kd.C_string (P := Try.prog) (c := c283_0) Try.underlying26 Try.underlying5 Try.underlying9 s6; go_simp; with_reducible rfl) ?_
           refine pK 6 (some 23) (bA 49 127) ?_
           refine pK 7 (some 24) (bA 49 255) ?_
           refine pK 8 (some 25) (bA 49 511) ?_
           refine pK 9 (some 26) (bA 49 1023) ?_
           refine tK 10 (some 27) (bA 49 2047) rfl rfl hHeld (by rintro w' ⟨s0, s1, s2, s3, s4, s5, s6, s7, s8, s9⟩; go_simp; with_reducible rfl) ?_
           refine tK 11 (some 28) (bA 49 4095) rfl rfl hHeld (by rintro w' ⟨s0, s1, s2, s3, s4, s5, s6, s7, s8, s9⟩; have e_ := Kd.C_string (P := Try.prog) (c := c284_0) Try.underlying26 Try.underlying5 Try.underlying9 s7; go_simp; with_reducible rfl) ?_
           refine pK 12 (some 29) (bA 49 8191) ?_
           refine pK 13 (some 30) (bA 49 16383) ?_
           refine pK 14 (some 31) (bA 49 32767) ?_
           refine pK 15 (some 32) (bA 49 65535) ?_
           refine pK 16 (some 33) (bA 49 131071) ?_
           refine pK 17 (some 34) (bA 49 262143) ?_
           refine tK 18 (some 35) (bA 49 524287) rfl rfl hHeld (by rintro w' ⟨s0, s1, s2, s3, s4, s5, s6, s7, s8, s9⟩; go_simp; with_reducible rfl) ?_
           refine pK 19 (some 36) (bA 49 1048575) ?_
           refine pK 20 (some 37) (bA 49 2097151) ?_
           refine pK 21 (some 38) (bA 49 4194303) ?_
           refine pK 22 (some 39) (bA 49 8388607) ?_
           refine tK 23 (some 40) (bA 49 16777215) rfl rfl hHeld (by rintro w' ⟨s0, s1, s2, s3, s4, s5, s6, s7, s8, s9⟩; go_simp; with_reducible rfl) ?_
           refine pK 24 (some 41) (bA 49 33554431) ?_
           refine pK 25 (some 42) (bA 49 67108863) ?_
           refine pK 26 (some 43) (bA 49 134217727) ?_
           refine pK 27 (some 44) (bA 49 268435455) ?_
           refine pK 28 (some 45) (bA 49 536870911) ?_
           refine pK 29 (some 46) (bA 49 1073741823) ?_
           refine pK 30 (some 47) (bA 49 2147483647) ?_
           refine tK 31 (some 48) (bA 49 4294967295) rfl rfl hHeld (by rintro w' ⟨s0, s1, s2, s3, s4, s5, s6, s7, s8, s9⟩; go_simp; with_reducible rfl) ?_
           refine pK 32 (some 49) (bA 49 8589934591) ?_
           refine pK 33 (some 50) (bA 49 17179869183) ?_
           refine pK 34 (some 51) (bA 49 34359738367) ?_
           refine pK 35 (some 52) (bA 49 68719476735) ?_
           refine pK 36 (some 53) (bA 49 137438953471) ?_
           refine pK 37 (some 54) (bA 49 274877906943) ?_
           refine tK 38 (some 55) (bA 49 549755813887) rfl rfl hHeld (by rintro w' ⟨s0, s1, s2, s3, s4, s5, s6, s7, s8, s9⟩; go_simp; with_reducible rfl) ?_
           refine tK 39 (some 56) (bA 49 1099511627775) rfl rfl hHeld (by rintro w' ⟨s0, s1, s2, s3, s4, s5, s6, s7, s8, s9⟩; have e_ := Kd.C_string (P := Try.prog) (c := c283_1) Try.underlying26 Try.underlying5 Try.underlying9 s8; go_simp; with_reducible rfl) ?_
           refine pK 40 (some 57) (bA 49 2199023255551) ?_
           refine pK 41 (some 58) (bA 49 4398046511103) ?_
           refine pK 42 (some 59) (bA 49 8796093022207) ?_
           refine pK 43 (some 60) (bA 49 17592186044415) ?_
           refine tK 44 (some 61) (bA 49 35184372088831) rfl rfl hHeld (by rintro w' ⟨s0, s1, s2, s3, s4, s5, s6, s7, s8, s9⟩; go_simp; with_reducible rfl) ?_
           refine tK 45 (some 62) (bA 49 70368744177663) rfl rfl hHeld (by rintro w' ⟨s0, s1, s2, s3, s4, s5, s6, s7, s8, s9⟩; have e_ := Kd.C_string (P := Try.prog) (c := c284_1) Try.underlying26 Try.underlying5 Try.underlying9 s9; go_simp; with_reducible rfl) ?_
           refine pK 46 (some 63) (bA 49 140737488355327) ?_
           refine pK 47 (some 64) (bA 49 281474976710655) ?_
           refine pK 48 (some 65) (bA 49 562949953421311) ?_
           refine done_ (by kernel_rfl) ?_
           clear hHeld
           go_wp2
           go_roundg k1
           case measure => have := HK1.out; omega
           case rel => exact ⟨(wrap64 (x5_1 + 1)), (by first | rfl | (simp; done) | (simp [*]; done)), H', ⟨by have := HK1.out; omega⟩, by repeat (first | exact Drawn0.refl _ | apply Drawn0.step)⟩
          ·rw [if_neg c15] at H
           have c15b0 : ((strOfNums ((rd_T34 l0 x5_1).f1)).toList == (strOfNums ((rd_T34 l1 x5_1).f1)).toList) = false := beq_eq_false_iff_ne.mpr c15
           have c15b1 : ((strOfNums ((rd_T34 l0 x5_1).f1)).toList != (strOfNums ((rd_T34 l1 x5_1).f1)).toList) = true := bne_iff_ne.mpr c15
           obtain rfl := Option.some.inj H
           have p283 : 0 ≤ (x5_1 : Int) := of_decide_eq_true (by first | (with_reducible assumption) | assumption)
           have q283 : x5_1 < (l0.length : Int) := of_decide_eq_true (by first | (with_reducible assumption) | assumption)
           obtain ⟨ad283, A283_0, c283_0, A283_1, c283_1, e283, hx283_0, hx283_1, hx283_2, hl283_0, hi283_0, hl283_1, hi283_1⟩ := at_T34 HR0.out x5_1 p283 q283
           (try rw [← Nbq11.out] at hx283_2)
           cases e283
           have HR283_0 := Aside0.mk hi283_0
           have HC283_0 := Aside0.mk hl283_0
           clear hi283_0 hl283_0
           have HR283_1 := Aside0.mk hi283_1
           have HC283_1 := Aside0.mk hl283_1
           clear hi283_1 hl283_1
           replace p283 := eq_true p283
           replace q283 := eq_true q283
           have hcv20 := Kd.C_string (P := Try.prog) (A := A283_0) (c := c283_0) Try.underlying26 Try.underlying5 Try.underlying9 HR283_0.out
           have p284 : 0 ≤ (x5_1 : Int) := of_decide_eq_true (by first | (with_reducible assumption) | assumption)
           have q284 : x5_1 < (l1.length : Int) := of_decide_eq_true (by first | (with_reducible assumption) | assumption)
           obtain ⟨ad284, A284_0, c284_0, A284_1, c284_1, e284, hx284_0, hx284_1, hx284_2, hl284_0, hi284_0, hl284_1, hi284_1⟩ := at_T34 HR1.out x5_1 p284 q284
           (try rw [← Nbq11.out] at hx284_2)
           cases e284
           have HR284_0 := Aside0.mk hi284_0
           have HC284_0 := Aside0.mk hl284_0
           clear hi284_0 hl284_0
           have HR284_1 := Aside0.mk hi284_1
           have HC284_1 := Aside0.mk hl284_1
           clear hi284_1 hl284_1
           replace p284 := eq_true p284
           replace q284 := eq_true q284
           have hcv21 := Kd.C_string (P := Try.prog) (A := A284_0) (c := c284_0) Try.underlying26 Try.underlying5 Try.underlying9 HR284_0.out
           have p285 : 0 ≤ (x5_1 : Int) := of_decide_eq_true (by first | (with_reducible assumption) | assumption)
           have q285 : x5_1 < (l0.length : Int) := of_decide_eq_true (by first | (with_reducible assumption) | assumption)
           obtain ⟨ad285, A285_0, c285_0, A285_1, c285_1, e285, hx285_0, hx285_1, hx285_2, hl285_0, hi285_0, hl285_1, hi285_1⟩ := at_T34 HR0.out x5_1 p285 q285
           (try rw [← Nbq11.out] at hx285_2)
           obtain rfl : ad283 = ad285 := (by injection e285)
           have HR285_0 := Aside0.mk hi285_0
           have HC285_0 := Aside0.mk hl285_0
           clear hi285_0 hl285_0
           have HR285_1 := Aside0.mk hi285_1
           have HC285_1 := Aside0.mk hl285_1
           clear hi285_1 hl285_1
           replace p285 := eq_true p285
           replace q285 := eq_true q285
           have ea_ := Option.some.inj (hx283_0.symm.trans hx285_0)
           injection ea_ with ea_ en_ ec_
           subst ea_
           subst ec_
           clear en_
           have ea_ := Option.some.inj (hx283_1.symm.trans hx285_1)
           injection ea_ with ea_ en_ ec_
           subst ea_
           subst ec_
           clear en_
           have p286 : 0 ≤ (x5_1 : Int) := of_decide_eq_true (by first | (with_reducible assumption) | assumption)
           have q286 : x5_1 < (l1.length : Int) := of_decide_eq_true (by first | (with_reducible assumption) | assumption)
           obtain ⟨ad286, A286_0, c286_0, A286_1, c286_1, e286, hx286_0, hx286_1, hx286_2, hl286_0, hi286_0, hl286_1, hi286_1⟩ := at_T34 HR1.out x5_1 p286 q286
           (try rw [← Nbq11.out] at hx286_2)
           obtain rfl : ad284 = ad286 := (by injection e286)
           have HR286_0 := Aside0.mk hi286_0
           have HC286_0 := Aside0.mk hl286_0
           clear hi286_0 hl286_0
           have HR286_1 := Aside0.mk hi286_1
           have HC286_1 := Aside0.mk hl286_1
           clear hi286_1 hl286_1
           replace p286 := eq_true p286
           replace q286 := eq_true q286
           have ea_ := Option.some.inj (hx284_0.symm.trans hx286_0)
           injection ea_ with ea_ en_ ec_
           subst ea_
           subst ec_
           clear en_
           have ea_ := Option.some.inj (hx284_1.symm.trans hx286_1)
           injection ea_ with ea_ en_ ec_
           subst ea_
           subst ec_
           clear en_
           have p287 : 0 ≤ (x5_1 : Int) := of_decide_eq_true (by first | (with_reducible assumption) | assumption)
           have q287 : x5_1 < (l0.length : Int) := of_decide_eq_true (by first | (with_reducible assumption) | assumption)
           obtain ⟨ad287, A287_0, c287_0, A287_1, c287_1, e287, hx287_0, hx287_1, hx287_2, hl287_0, hi287_0, hl287_1, hi287_1⟩ := at_T34 HR0.out x5_1 p287 q287
           (try rw [← Nbq11.out] at hx287_2)
           obtain rfl : ad283 = ad287 := (by injection e287)
           have HR287_0 := Aside0.mk hi287_0
           have HC287_0 := Aside0.mk hl287_0
           clear hi287_0 hl287_0
           have HR287_1 := Aside0.mk hi287_1
           have HC287_1 := Aside0.mk hl287_1
           clear hi287_1 hl287_1
           replace p287 := eq_true p287
           replace q287 := eq_true q287
           have ea_ := Option.some.inj (hx283_0.symm.trans hx287_0)
           injection ea_ with ea_ en_ ec_
           subst ea_
           subst ec_
           clear en_
           have ea_ := Option.some.inj (hx283_1.symm.trans hx287_1)
           injection ea_ with ea_ en_ ec_
           subst ea_
           subst ec_
           clear en_
           have p288 : 0 ≤ (x5_1 : Int) := of_decide_eq_true (by first | (with_reducible assumption) | assumption)
           have q288 : x5_1 < (l0.length : Int) := of_decide_eq_true (by first | (with_reducible assumption) | assumption)
           obtain ⟨ad288, A288_0, c288_0, A288_1, c288_1, e288, hx288_0, hx288_1, hx288_2, hl288_0, hi288_0, hl288_1, hi288_1⟩ := at_T34 HR0.out x5_1 p288 q288
           (try rw [← Nbq11.out] at hx288_2)
           obtain rfl : ad283 = ad288 := (by injection e288)
           have HR288_0 := Aside0.mk hi288_0
           have HC288_0 := Aside0.mk hl288_0
           clear hi288_0 hl288_0
           have HR288_1 := Aside0.mk hi288_1
           have HC288_1 := Aside0.mk hl288_1
           clear hi288_1 hl288_1
           replace p288 := eq_true p288
           replace q288 := eq_true q288
           have ea_ := Option.some.inj (hx283_0.symm.trans hx288_0)
           injection ea_ with ea_ en_ ec_
           subst ea_
           subst ec_
           clear en_
           have ea_ := Option.some.inj (hx283_1.symm.trans hx288_1)
           injection ea_ with ea_ en_ ec_
           subst ea_
           subst ec_
           clear en_
           have hcv22 := Kd.C_string (P := Try.prog) (A := A283_1) (c := c283_1) Try.underlying26 Try.underlying5 Try.underlying9 HR288_1.out
           have p289 : 0 ≤ (x5_1 : Int) := of_decide_eq_true (by first | (with_reducible assumption) | assumption)
           have q289 : x5_1 < (l1.length : Int) := of_decide_eq_true (by first | (with_reducible assumption) | assumption)
           obtain ⟨ad289, A289_0, c289_0, A289_1, c289_1, e289, hx289_0, hx289_1, hx289_2, hl289_0, hi289_0, hl289_1, hi289_1⟩ := at_T34 HR1.out x5_1 p289 q289
           (try rw [← Nbq11.out] at hx289_2)
           obtain rfl : ad284 = ad289 := (by injection e289)
           have HR289_0 := Aside0.mk hi289_0
           have HC289_0 := Aside0.mk hl289_0
           clear hi289_0 hl289_0
           have HR289_1 := Aside0.mk hi289_1
           have HC289_1 := Aside0.mk hl289_1
           clear hi289_1 hl289_1
           replace p289 := eq_true p289
           replace q289 := eq_true q289
           have ea_ := Option.some.inj (hx284_0.symm.trans hx289_0)
           injection ea_ with ea_ en_ ec_
           subst ea_
           subst ec_
           clear en_
           have ea_ := Option.some.inj (hx284_1.symm.trans hx289_1)
           injection ea_ with ea_ en_ ec_
           subst ea_
           subst ec_
           clear en_
           have hcv23 := Kd.C_string (P := Try.prog) (A := A284_1) (c := c284_1) Try.underlying26 Try.underlying5 Try.underlying9 HR289_1.out
           go_wp2
           have c8z := c8b0
           rw [← Nbq11.out] at c8z
           have hz_ : (rd_T34 l1 x5_1).f2 = false := by simpa using c8z
           clear c8z
           have hxz_ := hx284_2
           rw [hz_] at hxz_
           clear hz_
           refine start_ (n := 49) (S := fun w' => w'.cell? (ad283.add (x5_1.toNat * 3)) = some (.slice A283_0 (rd_T34 l0 x5_1).f0.length c283_0) ∧ w'.cell? ⟨(ad283.add (x5_1.toNat * 3)).block, (ad283.add (x5_1.toNat * 3)).off + 1, none⟩ = some (.slice A283_1 (rd_T34 l0 x5_1).f1.length c283_1) ∧ w'.cell? ⟨(ad283.add (x5_1.toNat * 3)).block, (ad283.add (x5_1.toNat * 3)).off + 2, none⟩ = some (.bool false) ∧ w'.cell? (ad284.add (x5_1.toNat * 3)) = some (.slice A284_0 (rd_T34 l1 x5_1).f0.length c284_0) ∧ w'.cell? ⟨(ad284.add (x5_1.toNat * 3)).block, (ad284.add (x5_1.toNat * 3)).off + 1, none⟩ = some (.slice A284_1 (rd_T34 l1 x5_1).f1.length c284_1) ∧ w'.cell? ⟨(ad284.add (x5_1.toNat * 3)).block, (ad284.add (x5_1.toNat * 3)).off + 2, none⟩ = some (.bool false) ∧ Kd.C (Kd.int .u8) w' A283_0 (rd_T34 l0 x5_1).f0.length (rd_T34 l0 x5_1).f0 ∧ Kd.C (Kd.int .u8) w' A284_0 (rd_T34 l1 x5_1).f0.length (rd_T34 l1 x5_1).f0 ∧ Kd.C (Kd.int .u8) w' A283_1 (rd_T34 l0 x5_1).f1.length (rd_T34 l0 x5_1).f1 ∧ Kd.C (Kd.int .u8) w' A284_1 (rd_T34 l1 x5_1).f1.length (rd_T34 l1 x5_1).f1) (ds := []) (bA 49 0) (by kernel_rfl) rfl rfl ⟨hx283_0, hx283_1, hx283_2, hx284_0, hx284_1, hxz_, (by first | exact Kd.C_drewN HR283_0.out _ | exact Kd.C_drew (Kd.C_drewN HR283_0.out _) | exact Kd.C_drew HR283_0.out | exact HR283_0.out), (by first | exact Kd.C_drewN HR284_0.out _ | exact Kd.C_drew (Kd.C_drewN HR284_0.out _) | exact Kd.C_drew HR284_0.out | exact HR284_0.out), (by first | exact Kd.C_drewN HR283_1.out _ | exact Kd.C_drew (Kd.C_drewN HR283_1.out _) | exact Kd.C_drew HR283_1.out | exact HR283_1.out), (by first | exact Kd.C_drewN HR284_1.out _ | exact Kd.C_drew (Kd.C_drewN HR284_1.out _) | exact Kd.C_drew HR284_1.out | exact HR284_1.out)⟩ (fun hHeld => ?_)
           refine norm_ (by rfl) ?_
           refine pK 0 (some 17) (bA 49 1) ?_
           refine pK 1 (some 18) (bA 49 3) ?_
           refine pK 2 (some 19) (bA 49 7) ?_
           refine pK 3 (some 20) (bA 49 15) ?_
           refine tK 4 (some 21) (bA 49 31) rfl rfl hHeld (by rintro w' ⟨s0, s1, s2, s3, s4, s5, s6, s7, s8, s9⟩; go_simp; with_reducible rfl) ?_
           refine tK 5 (some 22) (bA 49 63) rfl rfl hHeld (by rintro w' ⟨s0, s1, s2, s3, s4, s5, s6, s7, s8, s9⟩; have e_ := Kd.C_string (P := Try.prog) (c := c283_0) Try.underlying26 Try.underlying5 Try.underlying9 s6; go_simp; with_reducible rfl) ?_
           refine pK 6 (some 23) (bA 49 127) ?_
           refine pK 7 (some 24) (bA 49 255) ?_
           refine pK 8 (some 25) (bA 49 511) ?_
           refine pK 9 (some 26) (bA 49 1023) ?_
           refine tK 10 (some 27) (bA 49 2047) rfl rfl hHeld (by rintro w' ⟨s0, s1, s2, s3, s4, s5, s6, s7, s8, s9⟩; go_simp; with_reducible rfl) ?_
           refine tK 11 (some 28) (bA 49 4095) rfl rfl hHeld (by rintro w' ⟨s0, s1, s2, s3, s4, s5, s6, s7, s8, s9⟩; have e_ := Kd.C_string (P := Try.prog) (c := c284_0) Try.underlying26 Try.underlying5 Try.underlying9 s7; go_simp; with_reducible rfl) ?_
           refine pK 12 (some 29) (bA 49 8191) ?_
           refine pK 13 (some 30) (bA 49 16383) ?_
           refine pK 14 (some 31) (bA 49 32767) ?_
           refine pK 15 (some 32) (bA 49 65535) ?_
           refine pK 16 (some 33) (bA 49 131071) ?_
           refine pK 17 (some 34) (bA 49 262143) ?_
           refine tK 18 (some 35) (bA 49 524287) rfl rfl hHeld (by rintro w' ⟨s0, s1, s2, s3, s4, s5, s6, s7, s8, s9⟩; go_simp; with_reducible rfl) ?_
           refine pK 19 (some 36) (bA 49 1048575) ?_
           refine pK 20 (some 37) (bA 49 2097151) ?_
           refine pK 21 (some 38) (bA 49 4194303) ?_
           refine pK 22 (some 39) (bA 49 8388607) ?_
           refine tK 23 (some 40) (bA 49 16777215) rfl rfl hHeld (by rintro w' ⟨s0, s1, s2, s3, s4, s5, s6, s7, s8, s9⟩; go_simp; with_reducible rfl) ?_
           refine pK 24 (some 41) (bA 49 33554431) ?_
           refine pK 25 (some 42) (bA 49 67108863) ?_
           refine pK 26 (some 43) (bA 49 134217727) ?_
           refine pK 27 (some 44) (bA 49 268435455) ?_
           refine pK 28 (some 45) (bA 49 536870911) ?_
           refine pK 29 (some 46) (bA 49 1073741823) ?_
           refine pK 30 (some 47) (bA 49 2147483647) ?_
           refine tK 31 (some 48) (bA 49 4294967295) rfl rfl hHeld (by rintro w' ⟨s0, s1, s2, s3, s4, s5, s6, s7, s8, s9⟩; go_simp; with_reducible rfl) ?_
           refine pK 32 (some 49) (bA 49 8589934591) ?_
           refine pK 33 (some 50) (bA 49 17179869183) ?_
           refine pK 34 (some 51) (bA 49 34359738367) ?_
           refine pK 35 (some 52) (bA 49 68719476735) ?_
           refine pK 36 (some 53) (bA 49 137438953471) ?_
           refine pK 37 (some 54) (bA 49 274877906943) ?_
           refine tK 38 (some 55) (bA 49 549755813887) rfl rfl hHeld (by rintro w' ⟨s0, s1, s2, s3, s4, s5, s6, s7, s8, s9⟩; go_simp; with_reducible rfl) ?_
           refine tK 39 (some 56) (bA 49 1099511627775) rfl rfl hHeld (by rintro w' ⟨s0, s1, s2, s3, s4, s5, s6, s7, s8, s9⟩; have e_ := Kd.C_string (P := Try.prog) (c := c283_1) Try.underlying26 Try.underlying5 Try.underlying9 s8; go_simp; with_reducible rfl) ?_
           refine pK 40 (some 57) (bA 49 2199023255551) ?_
           refine pK 41 (some 58) (bA 49 4398046511103) ?_
           refine pK 42 (some 59) (bA 49 8796093022207) ?_
           refine pK 43 (some 60) (bA 49 17592186044415) ?_
           refine tK 44 (some 61) (bA 49 35184372088831) rfl rfl hHeld (by rintro w' ⟨s0, s1, s2, s3, s4, s5, s6, s7, s8, s9⟩; go_simp; with_reducible rfl) ?_
           refine tK 45 (some 62) (bA 49 70368744177663) rfl rfl hHeld (by rintro w' ⟨s0, s1, s2, s3, s4, s5, s6, s7, s8, s9⟩; have e_ := Kd.C_string (P := Try.prog) (c := c284_1) Try.underlying26 Try.underlying5 Try.underlying9 s9; go_simp; with_reducible rfl) ?_
           refine pK 46 (some 63) (bA 49 140737488355327) ?_
           refine pK 47 (some 64) (bA 49 281474976710655) ?_
           refine pK 48 (some 65) (bA 49 562949953421311) ?_
           refine done_ (by kernel_rfl) ?_
           clear hHeld
           go_wp2
           go_ret
           exact ⟨by first | rfl | (simp; done) | (simp [*]; done), by repeat (first | exact Drawn0.refl _ | apply Drawn0.step)⟩
       ·rw [if_neg c7] at H
        have c7b0 : ((strOfNums ((rd_T34 l0 x5_1).f0)).toList == (strOfNums ((rd_T34 l1 x5_1).f0)).toList) = false := beq_eq_false_iff_ne.mpr c7
        have c7b1 : ((strOfNums ((rd_T34 l0 x5_1).f0)).toList != (strOfNums ((rd_T34 l1 x5_1).f0)).toList) = true := bne_iff_ne.mpr c7
        obtain rfl := Option.some.inj H
        have p283 : 0 ≤ (x5_1 : Int) := of_decide_eq_true (by first | (with_reducible assumption) | assumption)
        have q283 : x5_1 < (l0.length : Int) := of_decide_eq_true (by first | (with_reducible assumption) | assumption)
        obtain ⟨ad283, A283_0, c283_0, A283_1, c283_1, e283, hx283_0, hx283_1, hx283_2, hl283_0, hi283_0, hl283_1, hi283_1⟩ := at_T34 HR0.out x5_1 p283 q283
        cases e283
        have HR283_0 := Aside0.mk hi283_0
        have HC283_0 := Aside0.mk hl283_0
        clear hi283_0 hl283_0
        have HR283_1 := Aside0.mk hi283_1
        have HC283_1 := Aside0.mk hl283_1
        clear hi283_1 hl283_1
        replace p283 := eq_true p283
        replace q283 := eq_true q283
        have hcv24 := Kd.C_string (P := Try.prog) (A := A283_0) (c := c283_0) Try.underlying26 Try.underlying5 Try.underlying9 HR283_0.out
        have p284 : 0 ≤ (x5_1 : Int) := of_decide_eq_true (by first | (with_reducible assumption) | assumption)
        have q284 : x5_1 < (l1.length : Int) := of_decide_eq_true (by first | (with_reducible assumption) | assumption)
        obtain ⟨ad284, A284_0, c284_0, A284_1, c284_1, e284, hx284_0, hx284_1, hx284_2, hl284_0, hi284_0, hl284_1, hi284_1⟩ := at_T34 HR1.out x5_1 p284 q284
        cases e284
        have HR284_0 := Aside0.mk hi284_0
        have HC284_0 := Aside0.mk hl284_0
        clear hi284_0 hl284_0
        have HR284_1 := Aside0.mk hi284_1
        have HC284_1 := Aside0.mk hl284_1
        clear hi284_1 hl284_1
        replace p284 := eq_true p284
        replace q284 := eq_true q284
        have hcv25 := Kd.C_string (P := Try.prog) (A := A284_0) (c := c284_0) Try.underlying26 Try.underlying5 Try.underlying9 HR284_0.out
        go_wp2
        refine start_ (n := 49) (S := fun w' => w'.cell? (ad283.add (x5_1.toNat * 3)) = some (.slice A283_0 (rd_T34 l0 x5_1).f0.length c283_0) ∧ w'.cell? ⟨(ad283.add (x5_1.toNat * 3)).block, (ad283.add (x5_1.toNat * 3)).off + 1, none⟩ = some (.slice A283_1 (rd_T34 l0 x5_1).f1.length c283_1) ∧ w'.cell? ⟨(ad283.add (x5_1.toNat * 3)).block, (ad283.add (x5_1.toNat * 3)).off + 2, none⟩ = some (.bool (rd_T34 l0 x5_1).f2) ∧ w'.cell? (ad284.add (x5_1.toNat * 3)) = some (.slice A284_0 (rd_T34 l1 x5_1).f0.length c284_0) ∧ w'.cell? ⟨(ad284.add (x5_1.toNat * 3)).block, (ad284.add (x5_1.toNat * 3)).off + 1, none⟩ = some (.slice A284_1 (rd_T34 l1 x5_1).f1.length c284_1) ∧ w'.cell? ⟨(ad284.add (x5_1.toNat * 3)).block, (ad284.add (x5_1.toNat * 3)).off + 2, none⟩ = some (.bool (rd_T34 l1 x5_1).f2) ∧ Kd.C (Kd.int .u8) w' A283_0 (rd_T34 l0 x5_1).f0.length (rd_T34 l0 x5_1).f0 ∧ Kd.C (Kd.int .u8) w' A284_0 (rd_T34 l1 x5_1).f0.length (rd_T34 l1 x5_1).f0 ∧ Kd.C (Kd.int .u8) w' A283_1 (rd_T34 l0 x5_1).f1.length (rd_T34 l0 x5_1).f1 ∧ Kd.C (Kd.int .u8) w' A284_1 (rd_T34 l1 x5_1).f1.length (rd_T34 l1 x5_1).f1) (ds := []) (bA 49 0) (by kernel_rfl) rfl rfl ⟨hx283_0, hx283_1, hx283_2, hx284_0, hx284_1, hx284_2, (by first | exact Kd.C_drewN HR283_0.out _ | exact Kd.C_drew (Kd.C_drewN HR283_0.out _) | exact Kd.C_drew HR283_0.out | exact HR283_0.out), (by first | exact Kd.C_drewN HR284_0.out _ | exact Kd.C_drew (Kd.C_drewN HR284_0.out _) | exact Kd.C_drew HR284_0.out | exact HR284_0.out), (by first | exact Kd.C_drewN HR283_1.out _ | exact Kd.C_drew (Kd.C_drewN HR283_1.out _) | exact Kd.C_drew HR283_1.out | exact HR283_1.out), (by first | exact Kd.C_drewN HR284_1.out _ | exact Kd.C_drew (Kd.C_drewN HR284_1.out _) | exact Kd.C_drew HR284_1.out | exact HR284_1.out)⟩ (fun hHeld => ?_)
        refine norm_ (by rfl) ?_
        refine pK 0 (some 17) (bA 49 1) ?_
        refine pK 1 (some 18) (bA 49 3) ?_
        refine pK 2 (some 19) (bA 49 7) ?_
        refine pK 3 (some 20) (bA 49 15) ?_
        refine tK 4 (some 21) (bA 49 31) rfl rfl hHeld (by rintro w' ⟨s0, s1, s2, s3, s4, s5, s6, s7, s8, s9⟩; go_simp; with_reducible rfl) ?_
        refine tK 5 (some 22) (bA 49 63) rfl rfl hHeld (by rintro w' ⟨s0, s1, s2, s3, s4, s5, s6, s7, s8, s9⟩; have e_ := Kd.C_string (P := Try.prog) (c := c283_0) Try.underlying26 Try.underlying5 Try.underlying9 s6; go_simp; with_reducible rfl) ?_
        refine pK 6 (some 23) (bA 49 127) ?_
        refine pK 7 (some 24) (bA 49 255) ?_
        refine pK 8 (some 25) (bA 49 511) ?_
        refine pK 9 (some 26) (bA 49 1023) ?_
        refine tK 10 (some 27) (bA 49 2047) rfl rfl hHeld (by rintro w' ⟨s0, s1, s2, s3, s4, s5, s6, s7, s8, s9⟩; go_simp; with_reducible rfl) ?_
        refine tK 11 (some 28) (bA 49 4095) rfl rfl hHeld (by rintro w' ⟨s0, s1, s2, s3, s4, s5, s6, s7, s8, s9⟩; have e_ := Kd.C_string (P := Try.prog) (c := c284_0) Try.underlying26 Try.underlying5 Try.underlying9 s7; go_simp; with_reducible rfl) ?_
        refine pK 12 (some 29) (bA 49 8191) ?_
        refine pK 13 (some 30) (bA 49 16383) ?_
        refine uK 14 (some 31) (bA 49 32767) ?_
        refine uK 15 (some 32) (bA 49 65535) ?_
        refine uK 16 (some 33) (bA 49 131071) ?_
        refine uK 17 (some 34) (bA 49 262143) ?_
        refine uK 18 (some 35) (bA 49 524287) ?_
        refine uK 19 (some 36) (bA 49 1048575) ?_
        refine uK 20 (some 37) (bA 49 2097151) ?_
        refine uK 21 (some 38) (bA 49 4194303) ?_
        refine uK 22 (some 39) (bA 49 8388607) ?_
        refine uK 23 (some 40) (bA 49 16777215) ?_
        refine uK 24 (some 41) (bA 49 33554431) ?_
        refine pK 25 (some 42) (bA 49 67108863) ?_
        refine pK 26 (some 43) (bA 49 134217727) ?_
        refine uK 27 (some 44) (bA 49 268435455) ?_
        refine uK 28 (some 45) (bA 49 536870911) ?_
        refine uK 29 (some 46) (bA 49 1073741823) ?_
        refine uK 30 (some 47) (bA 49 2147483647) ?_
        refine uK 31 (some 48) (bA 49 4294967295) ?_
        refine uK 32 (some 49) (bA 49 8589934591) ?_
        refine uK 33 (some 50) (bA 49 17179869183) ?_
        refine uK 34 (some 51) (bA 49 34359738367) ?_
        refine uK 35 (some 52) (bA 49 68719476735) ?_
        refine uK 36 (some 53) (bA 49 137438953471) ?_
        refine uK 37 (some 54) (bA 49 274877906943) ?_
        refine uK 38 (some 55) (bA 49 549755813887) ?_
        refine uK 39 (some 56) (bA 49 1099511627775) ?_
        refine uK 40 (some 57) (bA 49 2199023255551) ?_
        refine uK 41 (some 58) (bA 49 4398046511103) ?_
        refine uK 42 (some 59) (bA 49 8796093022207) ?_
        refine uK 43 (some 60) (bA 49 17592186044415) ?_
        refine uK 44 (some 61) (bA 49 35184372088831) ?_
        refine uK 45 (some 62) (bA 49 70368744177663) ?_
        refine uK 46 (some 63) (bA 49 140737488355327) ?_
        refine uK 47 (some 64) (bA 49 281474976710655) ?_
        refine pK 48 (some 65) (bA 49 562949953421311) ?_
        refine done_ (by kernel_rfl) ?_
        clear hHeld
        go_wp2
        go_ret
        exact ⟨by first | rfl | (simp; done) | (simp [*]; done), by repeat (first | exact Drawn0.refl _ | apply Drawn0.step)⟩
      ·rw [if_neg c6] at H
       exact absurd H (by simp)
     ·rw [if_neg c5] at H
      exact absurd H (by simp)
    ·rw [if_neg c4] at H
     have c4b0 : decide (x5_1 < (l0.length : Int)) = false := decide_eq_false c4
     clear c4
     obtain rfl := Option.some.inj H
     go_wp2
     repeat (go_quiet (fail); try go_wp2)
     go_ret
     exact ⟨by first | rfl | (simp; done) | (simp [*]; done), by repeat (first | exact Drawn0.refl _ | apply Drawn0.step)⟩
 ·rw [if_neg c3] at H
  have c3b0 : ((l0.length : Int) == (l1.length : Int)) = false := beq_eq_false_iff_ne.mpr c3
  have c3b1 : ((l0.length : Int) != (l1.length : Int)) = true := bne_iff_ne.mpr c3
  have c3b2 : (l0.length == l1.length) = false := by first | simpa using c3 | (simp at c3 ⊢; omega)
  obtain rfl := Option.some.inj H
  go_enter Try.func15, Try.ntmps15
  go_wp2
  repeat (go_quiet (fail); try go_wp2)
  go_ret
  exact ⟨by first | rfl | (simp; done) | (simp [*]; done), by repeat (first | exact Drawn0.refl _ | apply Drawn0.step)⟩

-- NOT PRINTED: function 34 (api_Entry)

-- NOT PRINTED: function 35 (block_Seek_1)

-- NOT PRINTED: function 16 (block_Seek)

/-! ### the other comparisons of texts, told by 'less' -/
theorem less_flip : ∀ a b : List UInt8, (!(Op.bytesLess a b || a == b)) = Op.bytesLess b a
  | [], [] => by simp [Op.bytesLess]
  | [], _ :: _ => by simp [Op.bytesLess]
  | _ :: _, [] => by simp [Op.bytesLess]
  | x :: a, y :: b => by
    have ih := less_flip a b
    simp only [Op.bytesLess]
    rcases Nat.lt_trichotomy x.toNat y.toNat with h | h | h
    · have h1 : x < y := h
      have h2 : ¬ y < x := fun h3 => Nat.lt_asymm h h3
      have h3 : ¬ (y = x) := fun e => by rw [e] at h; exact Nat.lt_irrefl _ h
      simp [h1, h2, h3]
    · have h1 : x = y := UInt8.toNat_inj.mp h
      subst h1
      have h2 : ¬ x < x := fun h3 => Nat.lt_irrefl _ h3
      rw [← ih]
      simp [h2]
    · have h1 : y < x := h
      have h2 : ¬ x < y := fun h3 => Nat.lt_asymm h h3
      have h3 : ¬ (x = y) := fun e => by rw [e] at h; exact Nat.lt_irrefl _ h
      simp [h1, h2, h3]
@[go_sem] theorem str_gtr (t : TypeId) (a b : ByteArray) : Go.binOp .gtr t (.string a) (.string b) = pure (.bool (Op.bytesLess b.toList a.toList)) := by
  rw [← less_flip]; simp [Go.binOp, Op.stringOp]
@[go_sem] theorem str_leq (t : TypeId) (a b : ByteArray) : Go.binOp .leq t (.string a) (.string b) = pure (.bool !(Op.bytesLess b.toList a.toList)) := by
  rw [← less_flip]; simp [Go.binOp, Op.stringOp]
@[go_sem] theorem str_geq (t : TypeId) (a b : ByteArray) : Go.binOp .geq t (.string a) (.string b) = pure (.bool !(Op.bytesLess a.toList b.toList)) := by
  simp [Go.binOp, Op.stringOp]

end Go.Proofs.Ytpcomhliikmjkaa.PBlockTells

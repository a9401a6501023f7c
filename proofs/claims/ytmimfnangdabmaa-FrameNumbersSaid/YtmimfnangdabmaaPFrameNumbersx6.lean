/- The walk of the Go functions that a law reaches, told as plain functions; a program of this session has written it. No condition beyond the statement's own. -/
import Derived.Test.YtmimfnangdabmaaPFrameNumbersx2
import Derived.Test.YtmimfnangdabmaaPFrameNumbersx1
import Derived.Test.YtmimfnangdabmaaPFrameNumbersx0
namespace Go.Proofs.Ytmimfnangdabmaa.PFrameNumbers
open Go.RowKit Go.Proofs.YtmimfnangdabmaaW.PrintWords Go.Proofs.YtmimfnangdabmaaW.PrintLast Go.Proofs.YtmimfnangdabmaaW.PrintMore
attribute [local go_sem] max2_int min2_int max_two min_two max_three min_three max_four min_four   -- for this text's walks alone
set_option linter.unusedVariables false
set_option linter.unusedSimpArgs false

/-! ### marigraphref8_Same: function 23 -/
def marigraphref8_Same.l0 : Nat → List (S49) → List (S49) → Int → Option (Bool)
 | 0, _, _, _ => none
 | k + 1, x0, x1, x5 => if x5 < (x0.length : Int) then (if 0 ≤ x5 then (if x5 < (x1.length : Int) then (if (strOfNums ((rd_T49 x0 x5).f0)).toList = (strOfNums ((rd_T49 x1 x5).f0)).toList then (if (((rd_T49 x0 x5).f2) != ((rd_T49 x1 x5).f2)) = true then (some false) else (if ((rd_T49 x0 x5).f2 = true) then (marigraphref8_Same.l0 k x0 x1 (wrap64 (x5 + 1))) else (if (strOfNums ((rd_T49 x0 x5).f1)).toList = (strOfNums ((rd_T49 x1 x5).f1)).toList then (marigraphref8_Same.l0 k x0 x1 (wrap64 (x5 + 1))) else (some false)))) else (some false)) else (none)) else (none)) else (some true)
def marigraphref8_Same.f (k : Nat) (l0 : List (S49)) (l1 : List (S49)) : Option (Bool) := if (l0.length : Int) = (l1.length : Int) then (marigraphref8_Same.l0 k l0 l1 0) else (some false)
theorem marigraphref8_Same.mono_l : ∀ k, (∀ y0 y1 y2, LeO (marigraphref8_Same.l0 k y0 y1 y2) (marigraphref8_Same.l0 (k + 1) y0 y1 y2))
 | 0 => fun _ _ _ r h => by simp [marigraphref8_Same.l0] at h
 | k + 1 => by
  have ih0 := marigraphref8_Same.mono_l k
  ·intro y0 y1 y2
   unfold marigraphref8_Same.l0
   repeat' first
   | (with_reducible exact ih0 _ _ _)
   | (with_reducible exact LeO.refl _)
   | (with_reducible exact LeO.none _)
   | (with_reducible refine LeO.ite ?_ ?_)
   | (with_reducible refine LeO.bind ?_ (fun _ => ?_))
   | exact ih0 _ _ _
   | exact LeO.none _
   | refine LeO.ite ?_ ?_
   | refine LeO.bind ?_ (fun _ => ?_)
theorem marigraphref8_Same.mono : ∀ a0 a1 k, LeO (marigraphref8_Same.f k a0 a1) (marigraphref8_Same.f (k + 1) a0 a1) := by
 intro a0 a1 k
 have ih0 := marigraphref8_Same.mono_l k
 unfold marigraphref8_Same.f
 repeat' first
   | (with_reducible exact ih0 _ _ _)
   | (with_reducible exact LeO.refl _)
   | (with_reducible exact LeO.none _)
   | (with_reducible refine LeO.ite ?_ ?_)
   | (with_reducible refine LeO.bind ?_ (fun _ => ?_))
   | exact ih0 _ _ _
   | exact LeO.none _
   | refine LeO.ite ?_ ?_
   | refine LeO.bind ?_ (fun _ => ?_)
set_option maxHeartbeats 8000000 in
set_option maxRecDepth 100000 in
theorem marigraphref8_Same.calls (k : Nat) (A0 : Option Addr) (c0 : Nat) (l0 : List (S49)) (A1 : Option Addr) (c1 : Nat) (l1 : List (S49)) (r : Bool) (w : World) (hr0 : Kd.C k49 w A0 l0.length l0) (hc0 : l0.length ≤ c0) (hr1 : Kd.C k49 w A1 l1.length l1) (hc1 : l1.length ≤ c1) (h : marigraphref8_Same.f k l0 l1 = some r) :
  Calls Try.prog 23 #[.slice A0 l0.length c0, .slice A1 l1.length c1] w fun e w' => e = .returned (.bool r) ∧ Drawn0 w w' := by
 have HR0 := Aside0.mk hr0
 have HC0 := Aside0.mk hc0
 clear hr0 hc0
 have HR1 := Aside0.mk hr1
 have HC1 := Aside0.mk hc1
 clear hr1 hc1
 have H : (if (l0.length : Int) = (l1.length : Int) then (marigraphref8_Same.l0 k l0 l1 0) else (some false)) = some r := h
 clear h
 by_cases c3 : (l0.length : Int) = (l1.length : Int)
 ·rw [if_pos c3] at H
  have c3b0 : ((l0.length : Int) == (l1.length : Int)) = true := beq_iff_eq.mpr c3
  have c3b1 : ((l0.length : Int) != (l1.length : Int)) = false := bne_eq_false_iff_eq.mpr c3
  have c3b2 : (l0.length == l1.length) = true := by first | simpa using c3 | (simp at c3 ⊢; omega)
  clear c3
  have H' := Aside0.mk H
  clear H
  go_enter Try.func23, Try.ntmps23
  go_wp2
  repeat (go_quiet (fail); try go_wp2)
  go_loopg [5] k (fun kq v5 w' => ∃ (x5_1 : Int), v5 = .int .i64 x5_1 ∧ Aside0 (marigraphref8_Same.l0 kq l0 l1 x5_1 = some r) ∧ Aside0 (kq ≤ k) ∧ Drawn0 w w')
  case atStart => exact ⟨(0), (by first | rfl | (simp; done) | (simp [*]; done)), H', ⟨Nat.le_refl _⟩, by repeat (first | exact Drawn0.refl _ | apply Drawn0.step)⟩
  case round =>
   clear H'
   try clear c1
   try clear c2
   try clear p2
   try clear c3
   try clear c3b0
   try clear c3b1
   try clear c3b2
   obtain ⟨x5_1, rfl, HA, HK1, ⟨m1, rfl⟩⟩ := hrel
   cases gk with
   | zero => exact absurd HA.out (by simp [marigraphref8_Same.l0])
   | succ k1 =>
    have H := HA.out
    clear HA
    simp only [marigraphref8_Same.l0] at H
    by_cases c4 : x5_1 < (l0.length : Int)
    ·rw [if_pos c4] at H
     have c4b0 : decide (x5_1 < (l0.length : Int)) = true := decide_eq_true c4
     clear c4
     by_cases c5 : 0 ≤ x5_1
     ·rw [if_pos c5] at H
      have c5b0 : decide (0 ≤ x5_1) = true := decide_eq_true c5
      clear c5
      by_cases c6 : x5_1 < (l1.length : Int)
      ·rw [if_pos c6] at H
       have c6b0 : decide (x5_1 < (l1.length : Int)) = true := decide_eq_true c6
       clear c6
       by_cases c7 : (strOfNums ((rd_T49 l0 x5_1).f0)).toList = (strOfNums ((rd_T49 l1 x5_1).f0)).toList
       ·rw [if_pos c7] at H
        have c7b0 : ((strOfNums ((rd_T49 l0 x5_1).f0)).toList == (strOfNums ((rd_T49 l1 x5_1).f0)).toList) = true := beq_iff_eq.mpr c7
        have c7b1 : ((strOfNums ((rd_T49 l0 x5_1).f0)).toList != (strOfNums ((rd_T49 l1 x5_1).f0)).toList) = false := bne_eq_false_iff_eq.mpr c7
        clear c7
        by_cases c8 : (((rd_T49 l0 x5_1).f2) != ((rd_T49 l1 x5_1).f2)) = true
        ·rw [if_pos c8] at H
         have c8b0 : (((rd_T49 l0 x5_1).f2) != ((rd_T49 l1 x5_1).f2)) = true := c8
         (try (have c8b1 : decide (((rd_T49 l0 x5_1).f2) = ((rd_T49 l1 x5_1).f2)) = false := by simpa using c8))
         (try (have c8b2 : (((rd_T49 l0 x5_1).f2) == ((rd_T49 l1 x5_1).f2)) = false := by simpa using c8))
         (try (have c8b3 : ¬ (((rd_T49 l0 x5_1).f2) = ((rd_T49 l1 x5_1).f2)) := by simpa using c8))
         clear c8
         obtain rfl := Option.some.inj H
         have p269 : 0 ≤ (x5_1 : Int) := of_decide_eq_true (by first | (with_reducible assumption) | assumption)
         have q269 : x5_1 < (l0.length : Int) := of_decide_eq_true (by first | (with_reducible assumption) | assumption)
         obtain ⟨ad269, A269_0, c269_0, A269_1, c269_1, e269, hx269_0, hx269_1, hx269_2, hl269_0, hi269_0, hl269_1, hi269_1⟩ := at_T49 HR0.out x5_1 p269 q269
         cases e269
         have HR269_0 := Aside0.mk hi269_0
         have HC269_0 := Aside0.mk hl269_0
         clear hi269_0 hl269_0
         have HR269_1 := Aside0.mk hi269_1
         have HC269_1 := Aside0.mk hl269_1
         clear hi269_1 hl269_1
         replace p269 := eq_true p269
         replace q269 := eq_true q269
         have hcv9 := Kd.C_string (P := Try.prog) (A := A269_0) (c := c269_0) Try.underlying23 Try.underlying5 Try.underlying9 HR269_0.out
         have p270 : 0 ≤ (x5_1 : Int) := of_decide_eq_true (by first | (with_reducible assumption) | assumption)
         have q270 : x5_1 < (l1.length : Int) := of_decide_eq_true (by first | (with_reducible assumption) | assumption)
         obtain ⟨ad270, A270_0, c270_0, A270_1, c270_1, e270, hx270_0, hx270_1, hx270_2, hl270_0, hi270_0, hl270_1, hi270_1⟩ := at_T49 HR1.out x5_1 p270 q270
         cases e270
         have HR270_0 := Aside0.mk hi270_0
         have HC270_0 := Aside0.mk hl270_0
         clear hi270_0 hl270_0
         have HR270_1 := Aside0.mk hi270_1
         have HC270_1 := Aside0.mk hl270_1
         clear hi270_1 hl270_1
         replace p270 := eq_true p270
         replace q270 := eq_true q270
         have hcv10 := Kd.C_string (P := Try.prog) (A := A270_0) (c := c270_0) Try.underlying23 Try.underlying5 Try.underlying9 HR270_0.out
         have p271 : 0 ≤ (x5_1 : Int) := of_decide_eq_true (by first | (with_reducible assumption) | assumption)
         have q271 : x5_1 < (l0.length : Int) := of_decide_eq_true (by first | (with_reducible assumption) | assumption)
         obtain ⟨ad271, A271_0, c271_0, A271_1, c271_1, e271, hx271_0, hx271_1, hx271_2, hl271_0, hi271_0, hl271_1, hi271_1⟩ := at_T49 HR0.out x5_1 p271 q271
         obtain rfl : ad269 = ad271 := (by injection e271)
         have HR271_0 := Aside0.mk hi271_0
         have HC271_0 := Aside0.mk hl271_0
         clear hi271_0 hl271_0
         have HR271_1 := Aside0.mk hi271_1
         have HC271_1 := Aside0.mk hl271_1
         clear hi271_1 hl271_1
         replace p271 := eq_true p271
         replace q271 := eq_true q271
         have ea_ := Option.some.inj (hx269_0.symm.trans hx271_0)
         injection ea_ with ea_ en_ ec_
         subst ea_
         subst ec_
         clear en_
         have ea_ := Option.some.inj (hx269_1.symm.trans hx271_1)
         injection ea_ with ea_ en_ ec_
         subst ea_
         subst ec_
         clear en_
         have p272 : 0 ≤ (x5_1 : Int) := of_decide_eq_true (by first | (with_reducible assumption) | assumption)
         have q272 : x5_1 < (l1.length : Int) := of_decide_eq_true (by first | (with_reducible assumption) | assumption)
         obtain ⟨ad272, A272_0, c272_0, A272_1, c272_1, e272, hx272_0, hx272_1, hx272_2, hl272_0, hi272_0, hl272_1, hi272_1⟩ := at_T49 HR1.out x5_1 p272 q272
         obtain rfl : ad270 = ad272 := (by injection e272)
         have HR272_0 := Aside0.mk hi272_0
         have HC272_0 := Aside0.mk hl272_0
         clear hi272_0 hl272_0
         have HR272_1 := Aside0.mk hi272_1
         have HC272_1 := Aside0.mk hl272_1
         clear hi272_1 hl272_1
         replace p272 := eq_true p272
         replace q272 := eq_true q272
         have ea_ := Option.some.inj (hx270_0.symm.trans hx272_0)
         injection ea_ with ea_ en_ ec_
         subst ea_
         subst ec_
         clear en_
         have ea_ := Option.some.inj (hx270_1.symm.trans hx272_1)
         injection ea_ with ea_ en_ ec_
         subst ea_
         subst ec_
         clear en_
         go_wp2
         refine start_ (n := 49) (S := fun w' => w'.cell? (ad269.add (x5_1.toNat * 3)) = some (.slice A269_0 (rd_T49 l0 x5_1).f0.length c269_0) ∧ w'.cell? ⟨(ad269.add (x5_1.toNat * 3)).block, (ad269.add (x5_1.toNat * 3)).off + 1, none⟩ = some (.slice A269_1 (rd_T49 l0 x5_1).f1.length c269_1) ∧ w'.cell? ⟨(ad269.add (x5_1.toNat * 3)).block, (ad269.add (x5_1.toNat * 3)).off + 2, none⟩ = some (.bool (rd_T49 l0 x5_1).f2) ∧ w'.cell? (ad270.add (x5_1.toNat * 3)) = some (.slice A270_0 (rd_T49 l1 x5_1).f0.length c270_0) ∧ w'.cell? ⟨(ad270.add (x5_1.toNat * 3)).block, (ad270.add (x5_1.toNat * 3)).off + 1, none⟩ = some (.slice A270_1 (rd_T49 l1 x5_1).f1.length c270_1) ∧ w'.cell? ⟨(ad270.add (x5_1.toNat * 3)).block, (ad270.add (x5_1.toNat * 3)).off + 2, none⟩ = some (.bool (rd_T49 l1 x5_1).f2) ∧ Kd.C (Kd.int .u8) w' A269_0 (rd_T49 l0 x5_1).f0.length (rd_T49 l0 x5_1).f0 ∧ Kd.C (Kd.int .u8) w' A270_0 (rd_T49 l1 x5_1).f0.length (rd_T49 l1 x5_1).f0 ∧ Kd.C (Kd.int .u8) w' A269_1 (rd_T49 l0 x5_1).f1.length (rd_T49 l0 x5_1).f1 ∧ Kd.C (Kd.int .u8) w' A270_1 (rd_T49 l1 x5_1).f1.length (rd_T49 l1 x5_1).f1) (ds := []) (bA 49 0) (by kernel_rfl) rfl rfl ⟨hx269_0, hx269_1, hx269_2, hx270_0, hx270_1, hx270_2, (by first | exact Kd.C_drewN HR269_0.out _ | exact Kd.C_drew (Kd.C_drewN HR269_0.out _) | exact Kd.C_drew HR269_0.out | exact HR269_0.out), (by first | exact Kd.C_drewN HR270_0.out _ | exact Kd.C_drew (Kd.C_drewN HR270_0.out _) | exact Kd.C_drew HR270_0.out | exact HR270_0.out), (by first | exact Kd.C_drewN HR269_1.out _ | exact Kd.C_drew (Kd.C_drewN HR269_1.out _) | exact Kd.C_drew HR269_1.out | exact HR269_1.out), (by first | exact Kd.C_drewN HR270_1.out _ | exact Kd.C_drew (Kd.C_drewN HR270_1.out _) | exact Kd.C_drew HR270_1.out | exact HR270_1.out)⟩ (fun hHeld => ?_)
         refine norm_ (by rfl) ?_
         refine pK 0 (some 17) (bA 49 1) ?_
         refine pK 1 (some 18) (bA 49 3) ?_
         refine pK 2 (some 19) (bA 49 7) ?_
         refine pK 3 (some 20) (bA 49 15) ?_
         refine tK 4 (some 21) (bA 49 31) rfl rfl hHeld (by rintro w' ⟨s0, s1, s2, s3, s4, s5, s6, s7, s8, s9⟩; go_simp; with_reducible rfl) ?_
         refine tK 5 (some 22) (bA 49 63) rfl rfl hHeld (by rintro w' ⟨s0, s1, s2, s3, s4, s5, s6, s7, s8, s9⟩; have e_ := Kd.C_string (P := Try.prog) (c := c269_0) Try.underlying23 Try.underlying5 Try.underlying9 s6; go_simp; with_reducible rfl) ?_
         refine pK 6 (some 23) (bA 49 127) ?_
         refine pK 7 (some 24) (bA 49 255) ?_
         refine pK 8 (some 25) (bA 49 511) ?_
         refine pK 9 (some 26) (bA 49 1023) ?_
         refine tK 10 (some 27) (bA 49 2047) rfl rfl hHeld (by rintro w' ⟨s0, s1, s2, s3, s4, s5, s6, s7, s8, s9⟩; go_simp; with_reducible rfl) ?_
         refine tK 11 (some 28) (bA 49 4095) rfl rfl hHeld (by rintro w' ⟨s0, s1, s2, s3, s4, s5, s6, s7, s8, s9⟩; have e_ := Kd.C_string (P := Try.prog) (c := c270_0) Try.underlying23 Try.underlying5 Try.underlying9 s7; go_simp; with_reducible rfl) ?_
         refine pK 12 (some 29) (bA 49 8191) ?_
         refine pK 13 (some 30) (bA 49 16383) ?_
         refine pK 14 (some 31) (bA 49 32767) ?_
         refine pK 15 (some 32) (bA 49 65535) ?_
         refine pK 16 (some 33) (bA 49 131071) ?_
         refine pK 17 (some 34) (bA 49 262143) ?_
         refine tK 18 (some 35) (bA 49 524287) rfl rfl hHeld (by rintro w' ⟨s0, s1, s2, s3, s4, s5, s6, s7, s8, s9⟩; go_simp; with_reducible rfl) ?_
         refine pK 19 (some 36) (bA 49 1048575) ?_
         refine pK 20 (some 37) (bA 49 2097151) ?_
         refine pK 21 (some 38) (bA 49 4194303) ?_
         refine pK 22 (some 39) (bA 49 8388607) ?_
         refine tK 23 (some 40) (bA 49 16777215) rfl rfl hHeld (by rintro w' ⟨s0, s1, s2, s3, s4, s5, s6, s7, s8, s9⟩; go_simp; with_reducible rfl) ?_
         refine pK 24 (some 41) (bA 49 33554431) ?_
         refine pK 25 (some 42) (bA 49 67108863) ?_
         refine pK 26 (some 43) (bA 49 134217727) ?_
         refine uK 27 (some 44) (bA 49 268435455) ?_
         refine uK 28 (some 45) (bA 49 536870911) ?_
         refine uK 29 (some 46) (bA 49 1073741823) ?_
         refine uK 30 (some 47) (bA 49 2147483647) ?_
         refine uK 31 (some 48) (bA 49 4294967295) ?_
         refine uK 32 (some 49) (bA 49 8589934591) ?_
         refine uK 33 (some 50) (bA 49 17179869183) ?_
         refine uK 34 (some 51) (bA 49 34359738367) ?_
         refine uK 35 (some 52) (bA 49 68719476735) ?_
         refine uK 36 (some 53) (bA 49 137438953471) ?_
         refine uK 37 (some 54) (bA 49 274877906943) ?_
         refine uK 38 (some 55) (bA 49 549755813887) ?_
         refine uK 39 (some 56) (bA 49 1099511627775) ?_
         refine uK 40 (some 57) (bA 49 2199023255551) ?_
         refine uK 41 (some 58) (bA 49 4398046511103) ?_
         refine uK 42 (some 59) (bA 49 8796093022207) ?_
         refine uK 43 (some 60) (bA 49 17592186044415) ?_
         refine uK 44 (some 61) (bA 49 35184372088831) ?_
         refine uK 45 (some 62) (bA 49 70368744177663) ?_
         refine uK 46 (some 63) (bA 49 140737488355327) ?_
         refine uK 47 (some 64) (bA 49 281474976710655) ?_
         refine pK 48 (some 65) (bA 49 562949953421311) ?_
         refine done_ (by kernel_rfl) ?_
         clear hHeld
         go_wp2
         go_ret
         exact ⟨by first | rfl | (simp; done) | (simp [*]; done), by repeat (first | exact Drawn0.refl _ | apply Drawn0.step)⟩
        ·rw [if_neg c8] at H
         have c8b0 : (((rd_T49 l0 x5_1).f2) != ((rd_T49 l1 x5_1).f2)) = false := by simpa using c8
         (try (have c8b1 : decide (((rd_T49 l0 x5_1).f2) = ((rd_T49 l1 x5_1).f2)) = true := by simpa using c8))
         (try (have c8b2 : (((rd_T49 l0 x5_1).f2) == ((rd_T49 l1 x5_1).f2)) = true := by simpa using c8))
         clear c8
         obtain ⟨bq11, hbq11⟩ : ∃ b_ : Bool, b_ = ((rd_T49 l0 x5_1).f2) := ⟨_, rfl⟩
         replace H : (if (bq11 = true) then (marigraphref8_Same.l0 k1 l0 l1 (wrap64 (x5_1 + 1))) else (if (strOfNums ((rd_T49 l0 x5_1).f1)).toList = (strOfNums ((rd_T49 l1 x5_1).f1)).toList then (marigraphref8_Same.l0 k1 l0 l1 (wrap64 (x5_1 + 1))) else (some false))) = some r := by rw [← hbq11] at H; exact H
         have Nbq11 := Aside0.mk hbq11
         clear hbq11
         by_cases c12 : (bq11 = true)
         ·subst c12
          have H1 : (marigraphref8_Same.l0 k1 l0 l1 (wrap64 (x5_1 + 1))) = some r := by rw [if_pos rfl] at H; exact H
          clear H
          have H := H1
          clear H1
          have H' := Aside0.mk H
          clear H
          have p269 : 0 ≤ (x5_1 : Int) := of_decide_eq_true (by first | (with_reducible assumption) | assumption)
          have q269 : x5_1 < (l0.length : Int) := of_decide_eq_true (by first | (with_reducible assumption) | assumption)
          obtain ⟨ad269, A269_0, c269_0, A269_1, c269_1, e269, hx269_0, hx269_1, hx269_2, hl269_0, hi269_0, hl269_1, hi269_1⟩ := at_T49 HR0.out x5_1 p269 q269
          (try rw [← Nbq11.out] at hx269_2)
          cases e269
          have HR269_0 := Aside0.mk hi269_0
          have HC269_0 := Aside0.mk hl269_0
          clear hi269_0 hl269_0
          have HR269_1 := Aside0.mk hi269_1
          have HC269_1 := Aside0.mk hl269_1
          clear hi269_1 hl269_1
          replace p269 := eq_true p269
          replace q269 := eq_true q269
          have hcv13 := Kd.C_string (P := Try.prog) (A := A269_0) (c := c269_0) Try.underlying23 Try.underlying5 Try.underlying9 HR269_0.out
          have p270 : 0 ≤ (x5_1 : Int) := of_decide_eq_true (by first | (with_reducible assumption) | assumption)
          have q270 : x5_1 < (l1.length : Int) := of_decide_eq_true (by first | (with_reducible assumption) | assumption)
          obtain ⟨ad270, A270_0, c270_0, A270_1, c270_1, e270, hx270_0, hx270_1, hx270_2, hl270_0, hi270_0, hl270_1, hi270_1⟩ := at_T49 HR1.out x5_1 p270 q270
          (try rw [← Nbq11.out] at hx270_2)
          cases e270
          have HR270_0 := Aside0.mk hi270_0
          have HC270_0 := Aside0.mk hl270_0
          clear hi270_0 hl270_0
          have HR270_1 := Aside0.mk hi270_1
          have HC270_1 := Aside0.mk hl270_1
          clear hi270_1 hl270_1
          replace p270 := eq_true p270
          replace q270 := eq_true q270
          have hcv14 := Kd.C_string (P := Try.prog) (A := A270_0) (c := c270_0) Try.underlying23 Try.underlying5 Try.underlying9 HR270_0.out
          have p271 : 0 ≤ (x5_1 : Int) := of_decide_eq_true (by first | (with_reducible assumption) | assumption)
          have q271 : x5_1 < (l0.length : Int) := of_decide_eq_true (by first | (with_reducible assumption) | assumption)
          obtain ⟨ad271, A271_0, c271_0, A271_1, c271_1, e271, hx271_0, hx271_1, hx271_2, hl271_0, hi271_0, hl271_1, hi271_1⟩ := at_T49 HR0.out x5_1 p271 q271
          (try rw [← Nbq11.out] at hx271_2)
          obtain rfl : ad269 = ad271 := (by injection e271)
          have HR271_0 := Aside0.mk hi271_0
          have HC271_0 := Aside0.mk hl271_0
          clear hi271_0 hl271_0
          have HR271_1 := Aside0.mk hi271_1
          have HC271_1 := Aside0.mk hl271_1
          clear hi271_1 hl271_1
          replace p271 := eq_true p271
          replace q271 := eq_true q271
          have ea_ := Option.some.inj (hx269_0.symm.trans hx271_0)
          injection ea_ with ea_ en_ ec_
          subst ea_
          subst ec_
          clear en_
          have ea_ := Option.some.inj (hx269_1.symm.trans hx271_1)
          injection ea_ with ea_ en_ ec_
          subst ea_
          subst ec_
          clear en_
          have p272 : 0 ≤ (x5_1 : Int) := of_decide_eq_true (by first | (with_reducible assumption) | assumption)
          have q272 : x5_1 < (l1.length : Int) := of_decide_eq_true (by first | (with_reducible assumption) | assumption)
          obtain ⟨ad272, A272_0, c272_0, A272_1, c272_1, e272, hx272_0, hx272_1, hx272_2, hl272_0, hi272_0, hl272_1, hi272_1⟩ := at_T49 HR1.out x5_1 p272 q272
          (try rw [← Nbq11.out] at hx272_2)
          obtain rfl : ad270 = ad272 := (by injection e272)
          have HR272_0 := Aside0.mk hi272_0
          have HC272_0 := Aside0.mk hl272_0
          clear hi272_0 hl272_0
          have HR272_1 := Aside0.mk hi272_1
          have HC272_1 := Aside0.mk hl272_1
          clear hi272_1 hl272_1
          replace p272 := eq_true p272
          replace q272 := eq_true q272
          have ea_ := Option.some.inj (hx270_0.symm.trans hx272_0)
          injection ea_ with ea_ en_ ec_
          subst ea_
          subst ec_
          clear en_
          have ea_ := Option.some.inj (hx270_1.symm.trans hx272_1)
          injection ea_ with ea_ en_ ec_
          subst ea_
          subst ec_
          clear en_
          have p273 : 0 ≤ (x5_1 : Int) := of_decide_eq_true (by first | (with_reducible assumption) | assumption)
          have q273 : x5_1 < (l0.length : Int) := of_decide_eq_true (by first | (with_reducible assumption) | assumption)
          obtain ⟨ad273, A273_0, c273_0, A273_1, c273_1, e273, hx273_0, hx273_1, hx273_2, hl273_0, hi273_0, hl273_1, hi273_1⟩ := at_T49 HR0.out x5_1 p273 q273
          (try rw [← Nbq11.out] at hx273_2)
          obtain rfl : ad269 = ad273 := (by injection e273)
          have HR273_0 := Aside0.mk hi273_0
          have HC273_0 := Aside0.mk hl273_0
          clear hi273_0 hl273_0
          have HR273_1 := Aside0.mk hi273_1
          have HC273_1 := Aside0.mk hl273_1
          clear hi273_1 hl273_1
          replace p273 := eq_true p273
          replace q273 := eq_true q273
          have ea_ := Option.some.inj (hx269_0.symm.trans hx273_0)
          injection ea_ with ea_ en_ ec_
          subst ea_
          subst ec_
          clear en_
          have ea_ := Option.some.inj (hx269_1.symm.trans hx273_1)
          injection ea_ with ea_ en_ ec_
          subst ea_
          subst ec_
          clear en_
          go_wp2
          have c8z := c8b0
          rw [← Nbq11.out] at c8z
          have hz_ : (rd_T49 l1 x5_1).f2 = true := by simpa using c8z
          clear c8z
          have hxz_ := hx270_2
          rw [hz_] at hxz_
          clear hz_
          refine start_ (n := 49) (S := fun w' => w'.cell? (ad269.add (x5_1.toNat * 3)) = some (.slice A269_0 (rd_T49 l0 x5_1).f0.length c269_0) ∧ w'.cell? ⟨(ad269.add (x5_1.toNat * 3)).block, (ad269.add (x5_1.toNat * 3)).off + 1, none⟩ = some (.slice A269_1 (rd_T49 l0 x5_1).f1.length c269_1) ∧ w'.cell? ⟨(ad269.add (x5_1.toNat * 3)).block, (ad269.add (x5_1.toNat * 3)).off + 2, none⟩ = some (.bool true) ∧ w'.cell? (ad270.add (x5_1.toNat * 3)) = some (.slice A270_0 (rd_T49 l1 x5_1).f0.length c270_0) ∧ w'.cell? ⟨(ad270.add (x5_1.toNat * 3)).block, (ad270.add (x5_1.toNat * 3)).off + 1, none⟩ = some (.slice A270_1 (rd_T49 l1 x5_1).f1.length c270_1) ∧ w'.cell? ⟨(ad270.add (x5_1.toNat * 3)).block, (ad270.add (x5_1.toNat * 3)).off + 2, none⟩ = some (.bool true) ∧ Kd.C (Kd.int .u8) w' A269_0 (rd_T49 l0 x5_1).f0.length (rd_T49 l0 x5_1).f0 ∧ Kd.C (Kd.int .u8) w' A270_0 (rd_T49 l1 x5_1).f0.length (rd_T49 l1 x5_1).f0 ∧ Kd.C (Kd.int .u8) w' A269_1 (rd_T49 l0 x5_1).f1.length (rd_T49 l0 x5_1).f1 ∧ Kd.C (Kd.int .u8) w' A270_1 (rd_T49 l1 x5_1).f1.length (rd_T49 l1 x5_1).f1) (ds := []) (bA 49 0) (by kernel_rfl) rfl rfl ⟨hx269_0, hx269_1, hx269_2, hx270_0, hx270_1, hxz_, (by first | exact Kd.C_drewN HR269_0.out _ | exact Kd.C_drew (Kd.C_drewN HR269_0.out _) | exact Kd.C_drew HR269_0.out | exact HR269_0.out), (by first | exact Kd.C_drewN HR270_0.out _ | exact Kd.C_drew (Kd.C_drewN HR270_0.out _) | exact Kd.C_drew HR270_0.out | exact HR270_0.out), (by first | exact Kd.C_drewN HR269_1.out _ | exact Kd.C_drew (Kd.C_drewN HR269_1.out _) | exact Kd.C_drew HR269_1.out | exact HR269_1.out), (by first | exact Kd.C_drewN HR270_1.out _ | exact Kd.C_drew (Kd.C_drewN HR270_1.out _) | exact Kd.C_drew HR270_1.out | exact HR270_1.out)⟩ (fun hHeld => ?_)
          refine norm_ (by rfl) ?_
          refine pK 0 (some 17) (bA 49 1) ?_
          refine pK 1 (some 18) (bA 49 3) ?_
          refine pK 2 (some 19) (bA 49 7) ?_
          refine pK 3 (some 20) (bA 49 15) ?_
          refine tK 4 (some 21) (bA 49 31) rfl rfl hHeld (by rintro w' ⟨s0, s1, s2, s3, s4, s5, s6, s7, s8, s9⟩; go_simp; with_reducible rfl) ?_
          refine tK 5 (some 22) (bA 49 63) rfl rfl hHeld (by rintro w' ⟨s0, s1, s2, s3, s4, s5, s6, s7, s8, s9⟩; have e_ := Kd.C_string (P := Try.prog) (c := c269_0) Try.underlying23 Try.underlying5 Try.underlying9 s6; go_simp; with_reducible rfl) ?_
          refine pK 6 (some 23) (bA 49 127) ?_
          refine pK 7 (some 24) (bA 49 255) ?_
          refine pK 8 (some 25) (bA 49 511) ?_
          refine pK 9 (some 26) (bA 49 1023) ?_
          refine tK 10 (some 27) (bA 49 2047) rfl rfl hHeld (by rintro w' ⟨s0, s1, s2, s3, s4, s5, s6, s7, s8, s9⟩; go_simp; with_reducible rfl) ?_
          refine tK 11 (some 28) (bA 49 4095) rfl rfl hHeld (by rintro w' ⟨s0, s1, s2, s3, s4, s5, s6, s7, s8, s9⟩; have e_ := Kd.C_string (P := Try.prog) (c := c270_0) Try.underlying23 Try.underlying5 Try.underlying9 s7; go_simp; with_reducible rfl) ?_
          refine pK 12 (some 29) (bA 49 8191) ?_
          refine pK 13 (some 30) (bA 49 16383) ?_
          refine pK 14 (some 31) (bA 49 32767) ?_
          refine pK 15 (some 32) (bA 49 65535) ?_
          refine pK 16 (some 33) (bA 49 131071) ?_
          refine pK 17 (some 34) (bA 49 262143) ?_
          refine tK 18 (some 35) (bA 49 524287) rfl rfl hHeld (by rintro w' ⟨s0, s1, s2, s3, s4, s5, s6, s7, s8, s9⟩; go_simp; with_reducible rfl) ?_
          refine pK 19 (some 36) (bA 49 1048575) ?_
          refine pK 20 (some 37) (bA 49 2097151) ?_
          refine pK 21 (some 38) (bA 49 4194303) ?_
          refine pK 22 (some 39) (bA 49 8388607) ?_
          refine tK 23 (some 40) (bA 49 16777215) rfl rfl hHeld (by rintro w' ⟨s0, s1, s2, s3, s4, s5, s6, s7, s8, s9⟩; go_simp; with_reducible rfl) ?_
          refine pK 24 (some 41) (bA 49 33554431) ?_
          refine pK 25 (some 42) (bA 49 67108863) ?_
          refine pK 26 (some 43) (bA 49 134217727) ?_
          refine pK 27 (some 44) (bA 49 268435455) ?_
          refine pK 28 (some 45) (bA 49 536870911) ?_
          refine pK 29 (some 46) (bA 49 1073741823) ?_
          refine pK 30 (some 47) (bA 49 2147483647) ?_
          refine tK 31 (some 48) (bA 49 4294967295) rfl rfl hHeld (by rintro w' ⟨s0, s1, s2, s3, s4, s5, s6, s7, s8, s9⟩; go_simp; with_reducible rfl) ?_
          refine pK 32 (some 49) (bA 49 8589934591) ?_
          refine pK 33 (some 50) (bA 49 17179869183) ?_
          refine uK 34 (some 51) (bA 49 34359738367) ?_
          refine uK 35 (some 52) (bA 49 68719476735) ?_
          refine uK 36 (some 53) (bA 49 137438953471) ?_
          refine uK 37 (some 54) (bA 49 274877906943) ?_
          refine uK 38 (some 55) (bA 49 549755813887) ?_
          refine uK 39 (some 56) (bA 49 1099511627775) ?_
          refine uK 40 (some 57) (bA 49 2199023255551) ?_
          refine uK 41 (some 58) (bA 49 4398046511103) ?_
          refine uK 42 (some 59) (bA 49 8796093022207) ?_
          refine uK 43 (some 60) (bA 49 17592186044415) ?_
          refine uK 44 (some 61) (bA 49 35184372088831) ?_
          refine uK 45 (some 62) (bA 49 70368744177663) ?_
          refine uK 46 (some 63) (bA 49 140737488355327) ?_
          refine pK 47 (some 64) (bA 49 281474976710655) ?_
          refine pK 48 (some 65) (bA 49 562949953421311) ?_
          refine done_ (by kernel_rfl) ?_
          clear hHeld
          go_wp2
          go_roundg k1
          case measure => have := HK1.out; omega
          case rel => exact ⟨(wrap64 (x5_1 + 1)), (by first | rfl | (simp; done) | (simp [*]; done)), H', ⟨by have := HK1.out; omega⟩, by repeat (first | exact Drawn0.refl _ | apply Drawn0.step)⟩
         ·replace c12 := Bool.eq_false_iff.mpr c12
          subst c12
          have H1 : (if (strOfNums ((rd_T49 l0 x5_1).f1)).toList = (strOfNums ((rd_T49 l1 x5_1).f1)).toList then (marigraphref8_Same.l0 k1 l0 l1 (wrap64 (x5_1 + 1))) else (some false)) = some r := by rw [if_neg (show ¬ (false = true) by decide)] at H; exact H
          clear H
          have H := H1
          clear H1
          by_cases c15 : (strOfNums ((rd_T49 l0 x5_1).f1)).toList = (strOfNums ((rd_T49 l1 x5_1).f1)).toList
          ·rw [if_pos c15] at H
           have c15b0 : ((strOfNums ((rd_T49 l0 x5_1).f1)).toList == (strOfNums ((rd_T49 l1 x5_1).f1)).toList) = true := beq_iff_eq.mpr c15
           have c15b1 : ((strOfNums ((rd_T49 l0 x5_1).f1)).toList != (strOfNums ((rd_T49 l1 x5_1).f1)).toList) = false := bne_eq_false_iff_eq.mpr c15
           clear c15
           have H' := Aside0.mk H
           clear H
           have p269 : 0 ≤ (x5_1 : Int) := of_decide_eq_true (by first | (with_reducible assumption) | assumption)
           have q269 : x5_1 < (l0.length : Int) := of_decide_eq_true (by first | (with_reducible assumption) | assumption)
           obtain ⟨ad269, A269_0, c269_0, A269_1, c269_1, e269, hx269_0, hx269_1, hx269_2, hl269_0, hi269_0, hl269_1, hi269_1⟩ := at_T49 HR0.out x5_1 p269 q269
           (try rw [← Nbq11.out] at hx269_2)
           cases e269
           have HR269_0 := Aside0.mk hi269_0
           have HC269_0 := Aside0.mk hl269_0
           clear hi269_0 hl269_0
           have HR269_1 := Aside0.mk hi269_1
           have HC269_1 := Aside0.mk hl269_1
           clear hi269_1 hl269_1
           replace p269 := eq_true p269
           replace q269 := eq_true q269
           have hcv16 := Kd.C_string (P := Try.prog) (A := A269_0) (c := c269_0) Try.underlying23 Try.underlying5 Try.underlying9 HR269_0.out
           have p270 : 0 ≤ (x5_1 : Int) := of_decide_eq_true (by first | (with_reducible assumption) | assumption)
           have q270 : x5_1 < (l1.length : Int) := of_decide_eq_true (by first | (with_reducible assumption) | assumption)
           obtain ⟨ad270, A270_0, c270_0, A270_1, c270_1, e270, hx270_0, hx270_1, hx270_2, hl270_0, hi270_0, hl270_1, hi270_1⟩ := at_T49 HR1.out x5_1 p270 q270
           (try rw [← Nbq11.out] at hx270_2)
           cases e270
           have HR270_0 := Aside0.mk hi270_0
           have HC270_0 := Aside0.mk hl270_0
           clear hi270_0 hl270_0
           have HR270_1 := Aside0.mk hi270_1
           have HC270_1 := Aside0.mk hl270_1
           clear hi270_1 hl270_1
           replace p270 := eq_true p270
           replace q270 := eq_true q270
           have hcv17 := Kd.C_string (P := Try.prog) (A := A270_0) (c := c270_0) Try.underlying23 Try.underlying5 Try.underlying9 HR270_0.out
           have p271 : 0 ≤ (x5_1 : Int) := of_decide_eq_true (by first | (with_reducible assumption) | assumption)
           have q271 : x5_1 < (l0.length : Int) := of_decide_eq_true (by first | (with_reducible assumption) | assumption)
           obtain ⟨ad271, A271_0, c271_0, A271_1, c271_1, e271, hx271_0, hx271_1, hx271_2, hl271_0, hi271_0, hl271_1, hi271_1⟩ := at_T49 HR0.out x5_1 p271 q271
           (try rw [← Nbq11.out] at hx271_2)
           obtain rfl : ad269 = ad271 := (by injection e271)
           have HR271_0 := Aside0.mk hi271_0
           have HC271_0 := Aside0.mk hl271_0
           clear hi271_0 hl271_0
           have HR271_1 := Aside0.mk hi271_1
           have HC271_1 := Aside0.mk hl271_1
           clear hi271_1 hl271_1
           replace p271 := eq_true p271
           replace q271 := eq_true q271
           have ea_ := Option.some.inj (hx269_0.symm.trans hx271_0)
           injection ea_ with ea_ en_ ec_
           subst ea_
           subst ec_
           clear en_
           have ea_ := Option.some.inj (hx269_1.symm.trans hx271_1)
           injection ea_ with ea_ en_ ec_
           subst ea_
           subst ec_
           clear en_
           have p272 : 0 ≤ (x5_1 : Int) := of_decide_eq_true (by first | (with_reducible assumption) | assumption)
           have q272 : x5_1 < (l1.length : Int) := of_decide_eq_true (by first | (with_reducible assumption) | assumption)
           obtain ⟨ad272, A272_0, c272_0, A272_1, c272_1, e272, hx272_0, hx272_1, hx272_2, hl272_0, hi272_0, hl272_1, hi272_1⟩ := at_T49 HR1.out x5_1 p272 q272
           (try rw [← Nbq11.out] at hx272_2)
           obtain rfl : ad270 = ad272 := (by injection e272)
           have HR272_0 := Aside0.mk hi272_0
           have HC272_0 := Aside0.mk hl272_0
           clear hi272_0 hl272_0
           have HR272_1 := Aside0.mk hi272_1
           have HC272_1 := Aside0.mk hl272_1
           clear hi272_1 hl272_1
           replace p272 := eq_true p272
           replace q272 := eq_true q272
           have ea_ := Option.some.inj (hx270_0.symm.trans hx272_0)
           injection ea_ with ea_ en_ ec_
           subst ea_
           subst ec_
           clear en_
           have ea_ := Option.some.inj (hx270_1.symm.trans hx272_1)
           injection ea_ with ea_ en_ ec_
           subst ea_
           subst ec_
           clear en_
           have p273 : 0 ≤ (x5_1 : Int) := of_decide_eq_true (by first | (with_reducible assumption) | assumption)
           have q273 : x5_1 < (l0.length : Int) := of_decide_eq_true (by first | (with_reducible assumption) | assumption)
           obtain ⟨ad273, A273_0, c273_0, A273_1, c273_1, e273, hx273_0, hx273_1, hx273_2, hl273_0, hi273_0, hl273_1, hi273_1⟩ := at_T49 HR0.out x5_1 p273 q273
           (try rw [← Nbq11.out] at hx273_2)
           obtain rfl : ad269 = ad273 := (by injection e273)
           have HR273_0 := Aside0.mk hi273_0
           have HC273_0 := Aside0.mk hl273_0
           clear hi273_0 hl273_0
           have HR273_1 := Aside0.mk hi273_1
           have HC273_1 := Aside0.mk hl273_1
           clear hi273_1 hl273_1
           replace p273 := eq_true p273
           replace q273 := eq_true q273
           have ea_ := Option.some.inj (hx269_0.symm.trans hx273_0)
           injection ea_ with ea_ en_ ec_
           subst ea_
           subst ec_
           clear en_
           have ea_ := Option.some.inj (hx269_1.symm.trans hx273_1)
           injection ea_ with ea_ en_ ec_
           subst ea_
           subst ec_
           clear en_
           have p274 : 0 ≤ (x5_1 : Int) := of_decide_eq_true (by first | (with_reducible assumption) | assumption)
           have q274 : x5_1 < (l0.length : Int) := of_decide_eq_true (by first | (with_reducible assumption) | assumption)
           obtain ⟨ad274, A274_0, c274_0, A274_1, c274_1, e274, hx274_0, hx274_1, hx274_2, hl274_0, hi274_0, hl274_1, hi274_1⟩ := at_T49 HR0.out x5_1 p274 q274
           (try rw [← Nbq11.out] at hx274_2)
           obtain rfl : ad269 = ad274 := (by injection e274)
           have HR274_0 := Aside0.mk hi274_0
           have HC274_0 := Aside0.mk hl274_0
           clear hi274_0 hl274_0
           have HR274_1 := Aside0.mk hi274_1
           have HC274_1 := Aside0.mk hl274_1
           clear hi274_1 hl274_1
           replace p274 := eq_true p274
           replace q274 := eq_true q274
           have ea_ := Option.some.inj (hx269_0.symm.trans hx274_0)
           injection ea_ with ea_ en_ ec_
           subst ea_
           subst ec_
           clear en_
           have ea_ := Option.some.inj (hx269_1.symm.trans hx274_1)
           injection ea_ with ea_ en_ ec_
           subst ea_
           subst ec_
           clear en_
           have hcv18 := Kd.C_string (P := Try.prog) (A := A269_1) (c := c269_1) Try.underlying23 Try.underlying5 Try.underlying9 HR274_1.out
           have p275 : 0 ≤ (x5_1 : Int) := of_decide_eq_true (by first | (with_reducible assumption) | assumption)
           have q275 : x5_1 < (l1.length : Int) := of_decide_eq_true (by first | (with_reducible assumption) | assumption)
           obtain ⟨ad275, A275_0, c275_0, A275_1, c275_1, e275, hx275_0, hx275_1, hx275_2, hl275_0, hi275_0, hl275_1, hi275_1⟩ := at_T49 HR1.out x5_1 p275 q275
           (try rw [← Nbq11.out] at hx275_2)
           obtain rfl : ad270 = ad275 := (by injection e275)
           have HR275_0 := Aside0.mk hi275_0
           have HC275_0 := Aside0.mk hl275_0
           clear hi275_0 hl275_0
           have HR275_1 := Aside0.mk hi275_1
           have HC275_1 := Aside0.mk hl275_1
           clear hi275_1 hl275_1
           replace p275 := eq_true p275
           replace q275 := eq_true q275
           have ea_ := Option.some.inj (hx270_0.symm.trans hx275_0)
           injection ea_ with ea_ en_ ec_
           subst ea_
           subst ec_
           clear en_
           have ea_ := Option.some.inj (hx270_1.symm.trans hx275_1)
           injection ea_ with ea_ en_ ec_
           subst ea_
           subst ec_
           clear en_
           have hcv19 := Kd.C_string (P := Try.prog) (A := A270_1) (c := c270_1) Try.underlying23 Try.underlying5 Try.underlying9 HR275_1.out
           go_wp2
           have c8z := c8b0
           rw [← Nbq11.out] at c8z
           have hz_ : (rd_T49 l1 x5_1).f2 = false := by simpa using c8z
           clear c8z
           have hxz_ := hx270_2
           rw [hz_] at hxz_
           clear hz_
           refine start_ (n := 49) (S := fun w' => w'.cell? (ad269.add (x5_1.toNat * 3)) = some (.slice A269_0 (rd_T49 l0 x5_1).f0.length c269_0) ∧ w'.cell? ⟨(ad269.add (x5_1.toNat * 3)).block, (ad269.add (x5_1.toNat * 3)).off + 1, none⟩ = some (.slice A269_1 (rd_T49 l0 x5_1).f1.length c269_1) ∧ w'.cell? ⟨(ad269.add (x5_1.toNat * 3)).block, (ad269.add (x5_1.toNat * 3)).off + 2, none⟩ = some (.bool false) ∧ w'.cell? (ad270.add (x5_1.toNat * 3)) = some (.slice A270_0 (rd_T49 l1 x5_1).f0.length c270_0) ∧ w'.cell? ⟨(ad270.add (x5_1.toNat * 3)).block, (ad270.add (x5_1.toNat * 3)).off + 1, none⟩ = some (.slice A270_1 (rd_T49 l1 x5_1).f1.length c270_1) ∧ w'.cell? ⟨(ad270.add (x5_1.toNat * 3)).block, (ad270.add (x5_1.toNat * 3)).off + 2, none⟩ = some (.bool false) ∧ Kd.C (Kd.int .u8) w' A269_0 (rd_T49 l0 x5_1).f0.length (rd_T49 l0 x5_1).f0 ∧ Kd.C (Kd.int .u8) w' A270_0 (rd_T49 l1 x5_1).f0.length (rd_T49 l1 x5_1).f0 ∧ Kd.C (Kd.int .u8) w' A269_1 (rd_T49 l0 x5_1).f1.length (rd_T49 l0 x5_1).f1 ∧ Kd.C (Kd.int .u8) w' A270_1 (rd_T49 l1 x5_1).f1.length (rd_T49 l1 x5_1).f1) (ds := []) (bA 49 0) (by kernel_rfl) rfl rfl ⟨hx269_0, hx269_1, hx269_2, hx270_0, hx270_1, hxz_, (by first | exact Kd.C_drewN HR269_0.out _ | exact Kd.C_drew (Kd.C_drewN HR269_0.out _) | exact Kd.C_drew HR269_0.out | exact HR269_0.out), (by first | exact Kd.C_drewN HR270_0.out _ | exact Kd.C_drew (Kd.C_drewN HR270_0.out _) | exact Kd.C_drew HR270_0.out | exact HR270_0.out), (by first | exact Kd.C_drewN HR269_1.out _ | exact Kd.C_drew (Kd.C_drewN HR269_1.out _) | exact Kd.C_drew HR269_1.out | exact HR269_1.out), (by first | exact Kd.C_drewN HR270_1.out _ | exact Kd.C_drew (Kd.C_drewN HR270_1.out _) | exact Kd.C_drew HR270_1.out | exact HR270_1.out)⟩ (fun hHeld => ?_)
           refine norm_ (by rfl) ?_
           refine pK 0 (some 17) (bA 49 1) ?_
           refine pK 1 (some 18) (bA 49 3) ?_
           refine pK 2 (some 19) (bA 49 7) ?_
           refine pK 3 (some 20) (bA 49 15) ?_
           refine tK 4 (some 21) (bA 49 31) rfl rfl hHeld (by rintro w' ⟨s0, s1, s2, s3, s4, s5, s6, s7, s8, s9⟩; go_simp; with_reducible rfl) ?_
           refine tK 5 (some 22) (bA 49 63) rfl rfl hHeld (by rintro w' ⟨s0, s1, s2, s3, s4, s5, s6, s7, s8, s9⟩; have e_ := Kd.C_string (P := Try.prog) (c := c269_0) Try.underlying23 Try.underlying5 Try.underlying9 s6; go_simp; with_reducible rfl) ?_
           refine pK 6 (some 23) (bA 49 127) ?_
           refine pK 7 (some 24) (bA 49 255) ?_
           refine pK 8 (some 25) (bA 49 511) ?_
           refine pK 9 (some 26) (bA 49 1023) ?_
           refine tK 10 (some 27) (bA 49 2047) rfl rfl hHeld (by rintro w' ⟨s0, s1, s2, s3, s4, s5, s6, s7, s8, s9⟩; go_simp; with_reducible rfl) ?_
           refine tK 11 (some 28) (bA 49 4095) rfl rfl hHeld (by rintro w' ⟨s0, s1, s2, s3, s4, s5, s6, s7, s8, s9⟩; have e_ := Kd.C_string (P := Try.prog) (c := c270_0) Try.underlying23 Try.underlying5 Try.underlying9 s7; go_simp; with_reducible rfl) ?_
           refine pK 12 (some 29) (bA 49 8191) ?_
           refine pK 13 (some 30) (bA 49 16383) ?_
           refine pK 14 (some 31) (bA 49 32767) ?_
           refine pK 15 (some 32) (bA 49 65535) ?_
           refine pK 16 (some 33) (bA 49 131071) ?_
           refine pK 17 (some 34) (bA 49 262143) ?_
           refine tK 18 (some 35) (bA 49 524287) rfl rfl hHeld (by rintro w' ⟨s0, s1, s2, s3, s4, s5, s6, s7, s8, s9⟩; go_simp; with_reducible rfl) ?_
           refine pK 19 (some 36) (bA 49 1048575) ?_
           refine pK 20 (some 37) (bA 49 2097151) ?_
           refine pK 21 (some 38) (bA 49 4194303) ?_
           refine pK 22 (some 39) (bA 49 8388607) ?_
           refine tK 23 (some 40) (bA 49 16777215) rfl rfl hHeld (by rintro w' ⟨s0, s1, s2, s3, s4, s5, s6, s7, s8, s9⟩; go_simp; with_reducible rfl) ?_
           refine pK 24 (some 41) (bA 49 33554431) ?_
           refine pK 25 (some 42) (bA 49 67108863) ?_
           refine pK 26 (some 43) (bA 49 134217727) ?_
           refine pK 27 (some 44) (bA 49 268435455) ?_
           refine pK 28 (some 45) (bA 49 536870911) ?_
           refine pK 29 (some 46) (bA 49 1073741823) ?_
           refine pK 30 (some 47) (bA 49 2147483647) ?_
           refine tK 31 (some 48) (bA 49 4294967295) rfl rfl hHeld (by rintro w' ⟨s0, s1, s2, s3, s4, s5, s6, s7, s8, s9⟩; go_simp; with_reducible rfl) ?_
           refine pK 32 (some 49) (bA 49 8589934591) ?_
           refine pK 33 (some 50) (bA 49 17179869183) ?_
           refine pK 34 (some 51) (bA 49 34359738367) ?_
           refine pK 35 (some 52) (bA 49 68719476735) ?_
           refine pK 36 (some 53) (bA 49 137438953471) ?_
           refine pK 37 (some 54) (bA 49 274877906943) ?_
           refine tK 38 (some 55) (bA 49 549755813887) rfl rfl hHeld (by rintro w' ⟨s0, s1, s2, s3, s4, s5, s6, s7, s8, s9⟩; go_simp; with_reducible rfl) ?_
           refine tK 39 (some 56) (bA 49 1099511627775) rfl rfl hHeld (by rintro w' ⟨s0, s1, s2, s3, s4, s5, s6, s7, s8, s9⟩; have e_ := Kd.C_string (P := Try.prog) (c := c269_1) Try.underlying23 Try.underlying5 Try.underlying9 s8; go_simp; with_reducible rfl) ?_
           refine pK 40 (some 57) (bA 49 2199023255551) ?_
           refine pK 41 (some 58) (bA 49 4398046511103) ?_
           refine pK 42 (some 59) (bA 49 8796093022207) ?_
           refine pK 43 (some 60) (bA 49 17592186044415) ?_
           refine tK 44 (some 61) (bA 49 35184372088831) rfl rfl hHeld (by rintro w' ⟨s0, s1, s2, s3, s4, s5, s6, s7, s8, s9⟩; go_simp; with_reducible rfl) ?_
           refine tK 45 (some 62) (bA 49 70368744177663) rfl rfl hHeld (by rintro w' ⟨s0, s1, s2, s3, s4, s5, s6, s7, s8, s9⟩; have e_ := Kd.C_string (P := Try.prog) (c := c270_1) Try.underlying23 Try.underlying5 Try.underlying9 s9; go_simp; with_reducible rfl) ?_
           refine pK 46 (some 63) (bA 49 140737488355327) ?_
           refine pK 47 (some 64) (bA 49 281474976710655) ?_
           refine pK 48 (some 65) (bA 49 562949953421311) ?_
           refine done_ (by kernel_rfl) ?_
           clear hHeld
           go_wp2
           go_roundg k1
           case measure => have := HK1.out; omega
           case rel => exact ⟨(wrap64 (x5_1 + 1)), (by first | rfl | (simp; done) | (simp [*]; done)), H', ⟨by have := HK1.out; omega⟩, by repeat (first | exact Drawn0.refl _ | apply Drawn0.step)⟩
          ·rw [if_neg c15] at H
           have c15b0 : ((strOfNums ((rd_T49 l0 x5_1).f1)).toList == (strOfNums ((rd_T49 l1 x5_1).f1)).toList) = false := beq_eq_false_iff_ne.mpr c15
           have c15b1 : ((strOfNums ((rd_T49 l0 x5_1).f1)).toList != (strOfNums ((rd_T49 l1 x5_1).f1)).toList) = true := bne_iff_ne.mpr c15
           obtain rfl := Option.some.inj H
           have p269 : 0 ≤ (x5_1 : Int) := of_decide_eq_true (by first | (with_reducible assumption) | assumption)
           have q269 : x5_1 < (l0.length : Int) := of_decide_eq_true (by first | (with_reducible assumption) | assumption)
           obtain ⟨ad269, A269_0, c269_0, A269_1, c269_1, e269, hx269_0, hx269_1, hx269_2, hl269_0, hi269_0, hl269_1, hi269_1⟩ := at_T49 HR0.out x5_1 p269 q269
           (try rw [← Nbq11.out] at hx269_2)
           cases e269
           have HR269_0 := Aside0.mk hi269_0
           have HC269_0 := Aside0.mk hl269_0
           clear hi269_0 hl269_0
           have HR269_1 := Aside0.mk hi269_1
           have HC269_1 := Aside0.mk hl269_1
           clear hi269_1 hl269_1
           replace p269 := eq_true p269
           replace q269 := eq_true q269
           have hcv20 := Kd.C_string (P := Try.prog) (A := A269_0) (c := c269_0) Try.underlying23 Try.underlying5 Try.underlying9 HR269_0.out
           have p270 : 0 ≤ (x5_1 : Int) := of_decide_eq_true (by first | (with_reducible assumption) | assumption)
           have q270 : x5_1 < (l1.length : Int) := of_decide_eq_true (by first | (with_reducible assumption) | assumption)
           obtain ⟨ad270, A270_0, c270_0, A270_1, c270_1, e270, hx270_0, hx270_1, hx270_2, hl270_0, hi270_0, hl270_1, hi270_1⟩ := at_T49 HR1.out x5_1 p270 q270
           (try rw [← Nbq11.out] at hx270_2)
           cases e270
           have HR270_0 := Aside0.mk hi270_0
           have HC270_0 := Aside0.mk hl270_0
           clear hi270_0 hl270_0
           have HR270_1 := Aside0.mk hi270_1
           have HC270_1 := Aside0.mk hl270_1
           clear hi270_1 hl270_1
           replace p270 := eq_true p270
           replace q270 := eq_true q270
           have hcv21 := Kd.C_string (P := Try.prog) (A := A270_0) (c := c270_0) Try.underlying23 Try.underlying5 Try.underlying9 HR270_0.out
           have p271 : 0 ≤ (x5_1 : Int) := of_decide_eq_true (by first | (with_reducible assumption) | assumption)
           have q271 : x5_1 < (l0.length : Int) := of_decide_eq_true (by first | (with_reducible assumption) | assumption)
           obtain ⟨ad271, A271_0, c271_0, A271_1, c271_1, e271, hx271_0, hx271_1, hx271_2, hl271_0, hi271_0, hl271_1, hi271_1⟩ := at_T49 HR0.out x5_1 p271 q271
           (try rw [← Nbq11.out] at hx271_2)
           obtain rfl : ad269 = ad271 := (by injection e271)
           have HR271_0 := Aside0.mk hi271_0
           have HC271_0 := Aside0.mk hl271_0
           clear hi271_0 hl271_0
           have HR271_1 := Aside0.mk hi271_1
           have HC271_1 := Aside0.mk hl271_1
           clear hi271_1 hl271_1
           replace p271 := eq_true p271
           replace q271 := eq_true q271
           have ea_ := Option.some.inj (hx269_0.symm.trans hx271_0)
           injection ea_ with ea_ en_ ec_
           subst ea_
           subst ec_
           clear en_
           have ea_ := Option.some.inj (hx269_1.symm.trans hx271_1)
           injection ea_ with ea_ en_ ec_
           subst ea_
           subst ec_
           clear en_
           have p272 : 0 ≤ (x5_1 : Int) := of_decide_eq_true (by first | (with_reducible assumption) | assumption)
           have q272 : x5_1 < (l1.length : Int) := of_decide_eq_true (by first | (with_reducible assumption) | assumption)
           obtain ⟨ad272, A272_0, c272_0, A272_1, c272_1, e272, hx272_0, hx272_1, hx272_2, hl272_0, hi272_0, hl272_1, hi272_1⟩ := at_T49 HR1.out x5_1 p272 q272
           (try rw [← Nbq11.out] at hx272_2)
           obtain rfl : ad270 = ad272 := (by injection e272)
           have HR272_0 := Aside0.mk hi272_0
           have HC272_0 := Aside0.mk hl272_0
           clear hi272_0 hl272_0
           have HR272_1 := Aside0.mk hi272_1
           have HC272_1 := Aside0.mk hl272_1
           clear hi272_1 hl272_1
           replace p272 := eq_true p272
           replace q272 := eq_true q272
           have ea_ := Option.some.inj (hx270_0.symm.trans hx272_0)
           injection ea_ with ea_ en_ ec_
           subst ea_
           subst ec_
           clear en_
           have ea_ := Option.some.inj (hx270_1.symm.trans hx272_1)
           injection ea_ with ea_ en_ ec_
           subst ea_
           subst ec_
           clear en_
           have p273 : 0 ≤ (x5_1 : Int) := of_decide_eq_true (by first | (with_reducible assumption) | assumption)
           have q273 : x5_1 < (l0.length : Int) := of_decide_eq_true (by first | (with_reducible assumption) | assumption)
           obtain ⟨ad273, A273_0, c273_0, A273_1, c273_1, e273, hx273_0, hx273_1, hx273_2, hl273_0, hi273_0, hl273_1, hi273_1⟩ := at_T49 HR0.out x5_1 p273 q273
           (try rw [← Nbq11.out] at hx273_2)
           obtain rfl : ad269 = ad273 := (by injection e273)
           have HR273_0 := Aside0.mk hi273_0
           have HC273_0 := Aside0.mk hl273_0
           clear hi273_0 hl273_0
           have HR273_1 := Aside0.mk hi273_1
           have HC273_1 := Aside0.mk hl273_1
           clear hi273_1 hl273_1
           replace p273 := eq_true p273
           replace q273 := eq_true q273
           have ea_ := Option.some.inj (hx269_0.symm.trans hx273_0)
           injection ea_ with ea_ en_ ec_
           subst ea_
           subst ec_
           clear en_
           have ea_ := Option.some.inj (hx269_1.symm.trans hx273_1)
           injection ea_ with ea_ en_ ec_
           subst ea_
           subst ec_
           clear en_
           have p274 : 0 ≤ (x5_1 : Int) := of_decide_eq_true (by first | (with_reducible assumption) | assumption)
           have q274 : x5_1 < (l0.length : Int) := of_decide_eq_true (by first | (with_reducible assumption) | assumption)
           obtain ⟨ad274, A274_0, c274_0, A274_1, c274_1, e274, hx274_0, hx274_1, hx274_2, hl274_0, hi274_0, hl274_1, hi274_1⟩ := at_T49 HR0.out x5_1 p274 q274
           (try rw [← Nbq11.out] at hx274_2)
           obtain rfl : ad269 = ad274 := (by injection e274)
           have HR274_0 := Aside0.mk hi274_0
           have HC274_0 := Aside0.mk hl274_0
           clear hi274_0 hl274_0
           have HR274_1 := Aside0.mk hi274_1
           have HC274_1 := Aside0.mk hl274_1
           clear hi274_1 hl274_1
           replace p274 := eq_true p274
           replace q274 := eq_true q274
           have ea_ := Option.some.inj (hx269_0.symm.trans hx274_0)
           injection ea_ with ea_ en_ ec_
           subst ea_
           subst ec_
           clear en_
           have ea_ := Option.some.inj (hx269_1.symm.trans hx274_1)
           injection ea_ with ea_ en_ ec_
           subst ea_
           subst ec_
           clear en_
           have hcv22 := Kd.C_string (P := Try.prog) (A := A269_1) (c := c269_1) Try.underlying23 Try.underlying5 Try.underlying9 HR274_1.out
           have p275 : 0 ≤ (x5_1 : Int) := of_decide_eq_true (by first | (with_reducible assumption) | assumption)
           have q275 : x5_1 < (l1.length : Int) := of_decide_eq_true (by first | (with_reducible assumption) | assumption)
           obtain ⟨ad275, A275_0, c275_0, A275_1, c275_1, e275, hx275_0, hx275_1, hx275_2, hl275_0, hi275_0, hl275_1, hi275_1⟩ := at_T49 HR1.out x5_1 p275 q275
           (try rw [← Nbq11.out] at hx275_2)
           obtain rfl : ad270 = ad275 := (by injection e275)
           have HR275_0 := Aside0.mk hi275_0
           have HC275_0 := Aside0.mk hl275_0
           clear hi275_0 hl275_0
           have HR275_1 := Aside0.mk hi275_1
           have HC275_1 := Aside0.mk hl275_1
           clear hi275_1 hl275_1
           replace p275 := eq_true p275
           replace q275 := eq_true q275
           have ea_ := Option.some.inj (hx270_0.symm.trans hx275_0)
           injection ea_ with ea_ en_ ec_
           subst ea_
           subst ec_
           clear en_
           have ea_ := Option.some.inj (hx270_1.symm.trans hx275_1)
           injection ea_ with ea_ en_ ec_
           subst ea_
           subst ec_
           clear en_
           have hcv23 := Kd.C_string (P := Try.prog) (A := A270_1) (c := c270_1) Try.underlying23 Try.underlying5 Try.underlying9 HR275_1.out
           go_wp2
           have c8z := c8b0
           rw [← Nbq11.out] at c8z
           have hz_ : (rd_T49 l1 x5_1).f2 = false := by simpa using c8z
           clear c8z
           have hxz_ := hx270_2
           rw [hz_] at hxz_
           clear hz_
           refine start_ (n := 49) (S := fun w' => w'.cell? (ad269.add (x5_1.toNat * 3)) = some (.slice A269_0 (rd_T49 l0 x5_1).f0.length c269_0) ∧ w'.cell? ⟨(ad269.add (x5_1.toNat * 3)).block, (ad269.add (x5_1.toNat * 3)).off + 1, none⟩ = some (.slice A269_1 (rd_T49 l0 x5_1).f1.length c269_1) ∧ w'.cell? ⟨(ad269.add (x5_1.toNat * 3)).block, (ad269.add (x5_1.toNat * 3)).off + 2, none⟩ = some (.bool false) ∧ w'.cell? (ad270.add (x5_1.toNat * 3)) = some (.slice A270_0 (rd_T49 l1 x5_1).f0.length c270_0) ∧ w'.cell? ⟨(ad270.add (x5_1.toNat * 3)).block, (ad270.add (x5_1.toNat * 3)).off + 1, none⟩ = some (.slice A270_1 (rd_T49 l1 x5_1).f1.length c270_1) ∧ w'.cell? ⟨(ad270.add (x5_1.toNat * 3)).block, (ad270.add (x5_1.toNat * 3)).off + 2, none⟩ = some (.bool false) ∧ Kd.C (Kd.int .u8) w' A269_0 (rd_T49 l0 x5_1).f0.length (rd_T49 l0 x5_1).f0 ∧ Kd.C (Kd.int .u8) w' A270_0 (rd_T49 l1 x5_1).f0.length (rd_T49 l1 x5_1).f0 ∧ Kd.C (Kd.int .u8) w' A269_1 (rd_T49 l0 x5_1).f1.length (rd_T49 l0 x5_1).f1 ∧ Kd.C (Kd.int .u8) w' A270_1 (rd_T49 l1 x5_1).f1.length (rd_T49 l1 x5_1).f1) (ds := []) (bA 49 0) (by kernel_rfl) rfl rfl ⟨hx269_0, hx269_1, hx269_2, hx270_0, hx270_1, hxz_, (by first | exact Kd.C_drewN HR269_0.out _ | exact Kd.C_drew (Kd.C_drewN HR269_0.out _) | exact Kd.C_drew HR269_0.out | exact HR269_0.out), (by first | exact Kd.C_drewN HR270_0.out _ | exact Kd.C_drew (Kd.C_drewN HR270_0.out _) | exact Kd.C_drew HR270_0.out | exact HR270_0.out), (by first | exact Kd.C_drewN HR269_1.out _ | exact Kd.C_drew (Kd.C_drewN HR269_1.out _) | exact Kd.C_drew HR269_1.out | exact HR269_1.out), (by first | exact Kd.C_drewN HR270_1.out _ | exact Kd.C_drew (Kd.C_drewN HR270_1.out _) | exact Kd.C_drew HR270_1.out | exact HR270_1.out)⟩ (fun hHeld => ?_)
           refine norm_ (by rfl) ?_
           refine pK 0 (some 17) (bA 49 1) ?_
           refine pK 1 (some 18) (bA 49 3) ?_
           refine pK 2 (some 19) (bA 49 7) ?_
           refine pK 3 (some 20) (bA 49 15) ?_
           refine tK 4 (some 21) (bA 49 31) rfl rfl hHeld (by rintro w' ⟨s0, s1, s2, s3, s4, s5, s6, s7, s8, s9⟩; go_simp; with_reducible rfl) ?_
           refine tK 5 (some 22) (bA 49 63) rfl rfl hHeld (by rintro w' ⟨s0, s1, s2, s3, s4, s5, s6, s7, s8, s9⟩; have e_ := Kd.C_string (P := Try.prog) (c := c269_0) Try.underlying23 Try.underlying5 Try.underlying9 s6; go_simp; with_reducible rfl) ?_
           refine pK 6 (some 23) (bA 49 127) ?_
           refine pK 7 (some 24) (bA 49 255) ?_
           refine pK 8 (some 25) (bA 49 511) ?_
           refine pK 9 (some 26) (bA 49 1023) ?_
           refine tK 10 (some 27) (bA 49 2047) rfl rfl hHeld (by rintro w' ⟨s0, s1, s2, s3, s4, s5, s6, s7, s8, s9⟩; go_simp; with_reducible rfl) ?_
           refine tK 11 (some 28) (bA 49 4095) rfl rfl hHeld (by rintro w' ⟨s0, s1, s2, s3, s4, s5, s6, s7, s8, s9⟩; have e_ := Kd.C_string (P := Try.prog) (c := c270_0) Try.underlying23 Try.underlying5 Try.underlying9 s7; go_simp; with_reducible rfl) ?_
           refine pK 12 (some 29) (bA 49 8191) ?_
           refine pK 13 (some 30) (bA 49 16383) ?_
           refine pK 14 (some 31) (bA 49 32767) ?_
           refine pK 15 (some 32) (bA 49 65535) ?_
           refine pK 16 (some 33) (bA 49 131071) ?_
           refine pK 17 (some 34) (bA 49 262143) ?_
           refine tK 18 (some 35) (bA 49 524287) rfl rfl hHeld (by rintro w' ⟨s0, s1, s2, s3, s4, s5, s6, s7, s8, s9⟩; go_simp; with_reducible rfl) ?_
           refine pK 19 (some 36) (bA 49 1048575) ?_
           refine pK 20 (some 37) (bA 49 2097151) ?_
           refine pK 21 (some 38) (bA 49 4194303) ?_
           refine pK 22 (some 39) (bA 49 8388607) ?_
           refine tK 23 (some 40) (bA 49 16777215) rfl rfl hHeld (by rintro w' ⟨s0, s1, s2, s3, s4, s5, s6, s7, s8, s9⟩; go_simp; with_reducible rfl) ?_
           refine pK 24 (some 41) (bA 49 33554431) ?_
           refine pK 25 (some 42) (bA 49 67108863) ?_
           refine pK 26 (some 43) (bA 49 134217727) ?_
           refine pK 27 (some 44) (bA 49 268435455) ?_
           refine pK 28 (some 45) (bA 49 536870911) ?_
           refine pK 29 (some 46) (bA 49 1073741823) ?_
           refine pK 30 (some 47) (bA 49 2147483647) ?_
           refine tK 31 (some 48) (bA 49 4294967295) rfl rfl hHeld (by rintro w' ⟨s0, s1, s2, s3, s4, s5, s6, s7, s8, s9⟩; go_simp; with_reducible rfl) ?_
           refine pK 32 (some 49) (bA 49 8589934591) ?_
           refine pK 33 (some 50) (bA 49 17179869183) ?_
           refine pK 34 (some 51) (bA 49 34359738367) ?_
           refine pK 35 (some 52) (bA 49 68719476735) ?_
           refine pK 36 (some 53) (bA 49 137438953471) ?_
           refine pK 37 (some 54) (bA 49 274877906943) ?_
           refine tK 38 (some 55) (bA 49 549755813887) rfl rfl hHeld (by rintro w' ⟨s0, s1, s2, s3, s4, s5, s6, s7, s8, s9⟩; go_simp; with_reducible rfl) ?_
           refine tK 39 (some 56) (bA 49 1099511627775) rfl rfl hHeld (by rintro w' ⟨s0, s1, s2, s3, s4, s5, s6, s7, s8, s9⟩; have e_ := Kd.C_string (P := Try.prog) (c := c269_1) Try.underlying23 Try.underlying5 Try.underlying9 s8; go_simp; with_reducible rfl) ?_
           refine pK 40 (some 57) (bA 49 2199023255551) ?_
           refine pK 41 (some 58) (bA 49 4398046511103) ?_
           refine pK 42 (some 59) (bA 49 8796093022207) ?_
           refine pK 43 (some 60) (bA 49 17592186044415) ?_
           refine tK 44 (some 61) (bA 49 35184372088831) rfl rfl hHeld (by rintro w' ⟨s0, s1, s2, s3, s4, s5, s6, s7, s8, s9⟩; go_simp; with_reducible rfl) ?_
           refine tK 45 (some 62) (bA 49 70368744177663) rfl rfl hHeld (by rintro w' ⟨s0, s1, s2, s3, s4, s5, s6, s7, s8, s9⟩; have e_ := Kd.C_string (P := Try.prog) (c := c270_1) Try.underlying23 Try.underlying5 Try.underlying9 s9; go_simp; with_reducible rfl) ?_
           refine pK 46 (some 63) (bA 49 140737488355327) ?_
           refine pK 47 (some 64) (bA 49 281474976710655) ?_
           refine pK 48 (some 65) (bA 49 562949953421311) ?_
           refine done_ (by kernel_rfl) ?_
           clear hHeld
           go_wp2
           go_ret
           exact ⟨by first | rfl | (simp; done) | (simp [*]; done), by repeat (first | exact Drawn0.refl _ | apply Drawn0.step)⟩
       ·rw [if_neg c7] at H
        have c7b0 : ((strOfNums ((rd_T49 l0 x5_1).f0)).toList == (strOfNums ((rd_T49 l1 x5_1).f0)).toList) = false := beq_eq_false_iff_ne.mpr c7
        have c7b1 : ((strOfNums ((rd_T49 l0 x5_1).f0)).toList != (strOfNums ((rd_T49 l1 x5_1).f0)).toList) = true := bne_iff_ne.mpr c7
        obtain rfl := Option.some.inj H
        have p269 : 0 ≤ (x5_1 : Int) := of_decide_eq_true (by first | (with_reducible assumption) | assumption)
        have q269 : x5_1 < (l0.length : Int) := of_decide_eq_true (by first | (with_reducible assumption) | assumption)
        obtain ⟨ad269, A269_0, c269_0, A269_1, c269_1, e269, hx269_0, hx269_1, hx269_2, hl269_0, hi269_0, hl269_1, hi269_1⟩ := at_T49 HR0.out x5_1 p269 q269
        cases e269
        have HR269_0 := Aside0.mk hi269_0
        have HC269_0 := Aside0.mk hl269_0
        clear hi269_0 hl269_0
        have HR269_1 := Aside0.mk hi269_1
        have HC269_1 := Aside0.mk hl269_1
        clear hi269_1 hl269_1
        replace p269 := eq_true p269
        replace q269 := eq_true q269
        have hcv24 := Kd.C_string (P := Try.prog) (A := A269_0) (c := c269_0) Try.underlying23 Try.underlying5 Try.underlying9 HR269_0.out
        have p270 : 0 ≤ (x5_1 : Int) := of_decide_eq_true (by first | (with_reducible assumption) | assumption)
        have q270 : x5_1 < (l1.length : Int) := of_decide_eq_true (by first | (with_reducible assumption) | assumption)
        obtain ⟨ad270, A270_0, c270_0, A270_1, c270_1, e270, hx270_0, hx270_1, hx270_2, hl270_0, hi270_0, hl270_1, hi270_1⟩ := at_T49 HR1.out x5_1 p270 q270
        cases e270
        have HR270_0 := Aside0.mk hi270_0
        have HC270_0 := Aside0.mk hl270_0
        clear hi270_0 hl270_0
        have HR270_1 := Aside0.mk hi270_1
        have HC270_1 := Aside0.mk hl270_1
        clear hi270_1 hl270_1
        replace p270 := eq_true p270
        replace q270 := eq_true q270
        have hcv25 := Kd.C_string (P := Try.prog) (A := A270_0) (c := c270_0) Try.underlying23 Try.underlying5 Try.underlying9 HR270_0.out
        go_wp2
        refine start_ (n := 49) (S := fun w' => w'.cell? (ad269.add (x5_1.toNat * 3)) = some (.slice A269_0 (rd_T49 l0 x5_1).f0.length c269_0) ∧ w'.cell? ⟨(ad269.add (x5_1.toNat * 3)).block, (ad269.add (x5_1.toNat * 3)).off + 1, none⟩ = some (.slice A269_1 (rd_T49 l0 x5_1).f1.length c269_1) ∧ w'.cell? ⟨(ad269.add (x5_1.toNat * 3)).block, (ad269.add (x5_1.toNat * 3)).off + 2, none⟩ = some (.bool (rd_T49 l0 x5_1).f2) ∧ w'.cell? (ad270.add (x5_1.toNat * 3)) = some (.slice A270_0 (rd_T49 l1 x5_1).f0.length c270_0) ∧ w'.cell? ⟨(ad270.add (x5_1.toNat * 3)).block, (ad270.add (x5_1.toNat * 3)).off + 1, none⟩ = some (.slice A270_1 (rd_T49 l1 x5_1).f1.length c270_1) ∧ w'.cell? ⟨(ad270.add (x5_1.toNat * 3)).block, (ad270.add (x5_1.toNat * 3)).off + 2, none⟩ = some (.bool (rd_T49 l1 x5_1).f2) ∧ Kd.C (Kd.int .u8) w' A269_0 (rd_T49 l0 x5_1).f0.length (rd_T49 l0 x5_1).f0 ∧ Kd.C (Kd.int .u8) w' A270_0 (rd_T49 l1 x5_1).f0.length (rd_T49 l1 x5_1).f0 ∧ Kd.C (Kd.int .u8) w' A269_1 (rd_T49 l0 x5_1).f1.length (rd_T49 l0 x5_1).f1 ∧ Kd.C (Kd.int .u8) w' A270_1 (rd_T49 l1 x5_1).f1.length (rd_T49 l1 x5_1).f1) (ds := []) (bA 49 0) (by kernel_rfl) rfl rfl ⟨hx269_0, hx269_1, hx269_2, hx270_0, hx270_1, hx270_2, (by first | exact Kd.C_drewN HR269_0.out _ | exact Kd.C_drew (Kd.C_drewN HR269_0.out _) | exact Kd.C_drew HR269_0.out | exact HR269_0.out), (by first | exact Kd.C_drewN HR270_0.out _ | exact Kd.C_drew (Kd.C_drewN HR270_0.out _) | exact Kd.C_drew HR270_0.out | exact HR270_0.out), (by first | exact Kd.C_drewN HR269_1.out _ | exact Kd.C_drew (Kd.C_drewN HR269_1.out _) | exact Kd.C_drew HR269_1.out | exact HR269_1.out), (by first | exact Kd.C_drewN HR270_1.out _ | exact Kd.C_drew (Kd.C_drewN HR270_1.out _) | exact Kd.C_drew HR270_1.out | exact HR270_1.out)⟩ (fun hHeld => ?_)
        refine norm_ (by rfl) ?_
        refine pK 0 (some 17) (bA 49 1) ?_
        refine pK 1 (some 18) (bA 49 3) ?_
        refine pK 2 (some 19) (bA 49 7) ?_
        refine pK 3 (some 20) (bA 49 15) ?_
        refine tK 4 (some 21) (bA 49 31) rfl rfl hHeld (by rintro w' ⟨s0, s1, s2, s3, s4, s5, s6, s7, s8, s9⟩; go_simp; with_reducible rfl) ?_
        refine tK 5 (some 22) (bA 49 63) rfl rfl hHeld (by rintro w' ⟨s0, s1, s2, s3, s4, s5, s6, s7, s8, s9⟩; have e_ := Kd.C_string (P := Try.prog) (c := c269_0) Try.underlying23 Try.underlying5 Try.underlying9 s6; go_simp; with_reducible rfl) ?_
        refine pK 6 (some 23) (bA 49 127) ?_
        refine pK 7 (some 24) (bA 49 255) ?_
        refine pK 8 (some 25) (bA 49 511) ?_
        refine pK 9 (some 26) (bA 49 1023) ?_
        refine tK 10 (some 27) (bA 49 2047) rfl rfl hHeld (by rintro w' ⟨s0, s1, s2, s3, s4, s5, s6, s7, s8, s9⟩; go_simp; with_reducible rfl) ?_
        refine tK 11 (some 28) (bA 49 4095) rfl rfl hHeld (by rintro w' ⟨s0, s1, s2, s3, s4, s5, s6, s7, s8, s9⟩; have e_ := Kd.C_string (P := Try.prog) (c := c270_0) Try.underlying23 Try.underlying5 Try.underlying9 s7; go_simp; with_reducible rfl) ?_
        refine pK 12 (some 29) (bA 49 8191) ?_
        refine pK 13 (some 30) (bA 49 16383) ?_
        refine uK 14 (some 31) (bA 49 32767) ?_
        refine uK 15 (some 32) (bA 49 65535) ?_
        refine uK 16 (some 33) (bA 49 131071) ?_
        refine uK 17 (some 34) (bA 49 262143) ?_
        refine uK 18 (some 35) (bA 49 524287) ?_
        refine uK 19 (some 36) (bA 49 1048575) ?_
        refine uK 20 (some 37) (bA 49 2097151) ?_
        refine uK 21 (some 38) (bA 49 4194303) ?_
        refine uK 22 (some 39) (bA 49 8388607) ?_
        refine uK 23 (some 40) (bA 49 16777215) ?_
        refine uK 24 (some 41) (bA 49 33554431) ?_
        refine pK 25 (some 42) (bA 49 67108863) ?_
        refine pK 26 (some 43) (bA 49 134217727) ?_
        refine uK 27 (some 44) (bA 49 268435455) ?_
        refine uK 28 (some 45) (bA 49 536870911) ?_
        refine uK 29 (some 46) (bA 49 1073741823) ?_
        refine uK 30 (some 47) (bA 49 2147483647) ?_
        refine uK 31 (some 48) (bA 49 4294967295) ?_
        refine uK 32 (some 49) (bA 49 8589934591) ?_
        refine uK 33 (some 50) (bA 49 17179869183) ?_
        refine uK 34 (some 51) (bA 49 34359738367) ?_
        refine uK 35 (some 52) (bA 49 68719476735) ?_
        refine uK 36 (some 53) (bA 49 137438953471) ?_
        refine uK 37 (some 54) (bA 49 274877906943) ?_
        refine uK 38 (some 55) (bA 49 549755813887) ?_
        refine uK 39 (some 56) (bA 49 1099511627775) ?_
        refine uK 40 (some 57) (bA 49 2199023255551) ?_
        refine uK 41 (some 58) (bA 49 4398046511103) ?_
        refine uK 42 (some 59) (bA 49 8796093022207) ?_
        refine uK 43 (some 60) (bA 49 17592186044415) ?_
        refine uK 44 (some 61) (bA 49 35184372088831) ?_
        refine uK 45 (some 62) (bA 49 70368744177663) ?_
        refine uK 46 (some 63) (bA 49 140737488355327) ?_
        refine uK 47 (some 64) (bA 49 281474976710655) ?_
        refine pK 48 (some 65) (bA 49 562949953421311) ?_
        refine done_ (by kernel_rfl) ?_
        clear hHeld
        go_wp2
        go_ret
        exact ⟨by first | rfl | (simp; done) | (simp [*]; done), by repeat (first | exact Drawn0.refl _ | apply Drawn0.step)⟩
      ·rw [if_neg c6] at H
       exact absurd H (by simp)
     ·rw [if_neg c5] at H
      exact absurd H (by simp)
    ·rw [if_neg c4] at H
     have c4b0 : decide (x5_1 < (l0.length : Int)) = false := decide_eq_false c4
     clear c4
     obtain rfl := Option.some.inj H
     go_wp2
     repeat (go_quiet (fail); try go_wp2)
     go_ret
     exact ⟨by first | rfl | (simp; done) | (simp [*]; done), by repeat (first | exact Drawn0.refl _ | apply Drawn0.step)⟩
 ·rw [if_neg c3] at H
  have c3b0 : ((l0.length : Int) == (l1.length : Int)) = false := beq_eq_false_iff_ne.mpr c3
  have c3b1 : ((l0.length : Int) != (l1.length : Int)) = true := bne_iff_ne.mpr c3
  have c3b2 : (l0.length == l1.length) = false := by first | simpa using c3 | (simp at c3 ⊢; omega)
  obtain rfl := Option.some.inj H
  go_enter Try.func23, Try.ntmps23
  go_wp2
  repeat (go_quiet (fail); try go_wp2)
  go_ret
  exact ⟨by first | rfl | (simp; done) | (simp [*]; done), by repeat (first | exact Drawn0.refl _ | apply Drawn0.step)⟩

-- NOT PRINTED: function 63 (frame_read_1)

-- NOT PRINTED: function 67 (frame_rest_take)

-- NOT PRINTED: function 64 (frame_rest_number)

-- NOT PRINTED: function 65 (frame_rest_entry)

end Go.Proofs.Ytmimfnangdabmaa.PFrameNumbers

/- The walk of the Go functions that a law reaches, told as plain functions; a program of this session has written it. No condition beyond the statement's own. -/
import Derived.Test.YtmimfnangdabmaaPFrameBatchesx0
import Derived.Test.YtmimfnangdabmaaPFrameBatchesx1
import Derived.Test.YtmimfnangdabmaaPFrameBatchesx2
import Derived.Test.YtmimfnangdabmaaPFrameBatchesx4
namespace Go.Proofs.Ytmimfnangdabmaa.PFrameBatches
open Go.RowKit Go.Proofs.YtmimfnangdabmaaW.PrintWords Go.Proofs.YtmimfnangdabmaaW.PrintLast Go.Proofs.YtmimfnangdabmaaW.PrintMore
attribute [local go_sem] max2_int min2_int max_two min_two max_three min_three max_four min_four   -- for this text's walks alone
set_option linter.unusedVariables false
set_option linter.unusedSimpArgs false

/-! ### marigraphref4_May: function 55 -/
def marigraphref4_May.l0 : Nat → List (S49) → Int → Option (Bool)
 | 0, _, _ => none
 | k + 1, x0, x3 => if x3 < (x0.length : Int) then (if 0 ≤ x3 then (if (((rd_T49 x0 x3).f0).length : Int) < 1 then (some false) else (if (((rd_T49 x0 x3).f0).length : Int) > 255 then (some false) else (if ((rd_T49 x0 x3).f2 = true) then (marigraphref4_May.l0 k x0 (wrap64 (x3 + 1))) else (if (((rd_T49 x0 x3).f1).length : Int) > 4095 then (some false) else (marigraphref4_May.l0 k x0 (wrap64 (x3 + 1))))))) else (none)) else (some true)
def marigraphref4_May.f (k : Nat) (l0 : List (S49)) : Option (Bool) := if (l0.length : Int) > 8191 then (some false) else (marigraphref4_May.l0 k l0 0)
theorem marigraphref4_May.mono_l : ∀ k, (∀ y0 y1, LeO (marigraphref4_May.l0 k y0 y1) (marigraphref4_May.l0 (k + 1) y0 y1))
 | 0 => fun _ _ r h => by simp [marigraphref4_May.l0] at h
 | k + 1 => by
  have ih0 := marigraphref4_May.mono_l k
  ·intro y0 y1
   unfold marigraphref4_May.l0
   repeat' first
   | (with_reducible exact ih0 _ _)
   | (with_reducible exact LeO.refl _)
   | (with_reducible exact LeO.none _)
   | (with_reducible refine LeO.ite ?_ ?_)
   | (with_reducible refine LeO.bind ?_ (fun _ => ?_))
   | exact ih0 _ _
   | exact LeO.none _
   | refine LeO.ite ?_ ?_
   | refine LeO.bind ?_ (fun _ => ?_)
theorem marigraphref4_May.mono : ∀ a0 k, LeO (marigraphref4_May.f k a0) (marigraphref4_May.f (k + 1) a0) := by
 intro a0 k
 have ih0 := marigraphref4_May.mono_l k
 unfold marigraphref4_May.f
 repeat' first
   | (with_reducible exact ih0 _ _)
   | (with_reducible exact LeO.refl _)
   | (with_reducible exact LeO.none _)
   | (with_reducible refine LeO.ite ?_ ?_)
   | (with_reducible refine LeO.bind ?_ (fun _ => ?_))
   | exact ih0 _ _
   | exact LeO.none _
   | refine LeO.ite ?_ ?_
   | refine LeO.bind ?_ (fun _ => ?_)
set_option maxHeartbeats 8000000 in
set_option maxRecDepth 100000 in
theorem marigraphref4_May.calls (k : Nat) (A0 : Option Addr) (c0 : Nat) (l0 : List (S49)) (r : Bool) (w : World) (hr0 : Kd.C k49 w A0 l0.length l0) (hc0 : l0.length ≤ c0) (h : marigraphref4_May.f k l0 = some r) :
  Calls Try.prog 55 #[.slice A0 l0.length c0] w fun e w' => e = .returned (.bool r) ∧ Drawn0 w w' := by
 have HR0 := Aside0.mk hr0
 have HC0 := Aside0.mk hc0
 clear hr0 hc0
 have H : (if (l0.length : Int) > 8191 then (some false) else (marigraphref4_May.l0 k l0 0)) = some r := h
 clear h
 by_cases c2 : (l0.length : Int) > 8191
 ·rw [if_pos c2] at H
  have c2b0 : decide (8191 < (l0.length : Int)) = true := decide_eq_true c2
  have c2b1 : decide (8191 < l0.length) = true := decide_eq_true (by omega)
  clear c2
  obtain rfl := Option.some.inj H
  go_enter Try.func55, Try.ntmps55
  go_wp2
  go_ret
  exact ⟨by first | rfl | (simp; done) | (simp [*]; done), by repeat (first | exact Drawn0.refl _ | apply Drawn0.step)⟩
 ·rw [if_neg c2] at H
  have c2b0 : decide (8191 < (l0.length : Int)) = false := decide_eq_false c2
  have c2b1 : decide (8191 < l0.length) = false := decide_eq_false (by omega)
  clear c2
  have H' := Aside0.mk H
  clear H
  go_enter Try.func55, Try.ntmps55
  go_wp2
  go_loopg [3] k (fun kq v3 w' => ∃ (x3_1 : Int), v3 = .int .i64 x3_1 ∧ Aside0 (marigraphref4_May.l0 kq l0 x3_1 = some r) ∧ Aside0 (kq ≤ k) ∧ Drawn0 w w')
  case atStart => exact ⟨(0), (by first | rfl | (simp; done) | (simp [*]; done)), H', ⟨Nat.le_refl _⟩, by repeat (first | exact Drawn0.refl _ | apply Drawn0.step)⟩
  case round =>
   clear H'
   try clear c2
   try clear c2b0
   try clear c2b1
   try clear p2
   obtain ⟨x3_1, rfl, HA, HK1, ⟨m1, rfl⟩⟩ := hrel
   cases gk with
   | zero => exact absurd HA.out (by simp [marigraphref4_May.l0])
   | succ k1 =>
    have H := HA.out
    clear HA
    simp only [marigraphref4_May.l0] at H
    by_cases c3 : x3_1 < (l0.length : Int)
    ·rw [if_pos c3] at H
     have c3b0 : decide (x3_1 < (l0.length : Int)) = true := decide_eq_true c3
     clear c3
     by_cases c4 : 0 ≤ x3_1
     ·rw [if_pos c4] at H
      have c4b0 : decide (0 ≤ x3_1) = true := decide_eq_true c4
      clear c4
      by_cases c5 : (((rd_T49 l0 x3_1).f0).length : Int) < 1
      ·rw [if_pos c5] at H
       have c5b0 : decide ((((rd_T49 l0 x3_1).f0).length : Int) < 1) = true := decide_eq_true c5
       have c5b1 : decide (((rd_T49 l0 x3_1).f0).length < 1) = true := decide_eq_true (by omega)
       clear c5
       obtain rfl := Option.some.inj H
       have p232 : 0 ≤ (x3_1 : Int) := of_decide_eq_true (by first | (with_reducible assumption) | assumption)
       have q232 : x3_1 < (l0.length : Int) := of_decide_eq_true (by first | (with_reducible assumption) | assumption)
       obtain ⟨ad232, A232_0, c232_0, A232_1, c232_1, e232, hx232_0, hx232_1, hx232_2, hl232_0, hi232_0, hl232_1, hi232_1⟩ := at_T49 HR0.out x3_1 p232 q232
       cases e232
       have HR232_0 := Aside0.mk hi232_0
       have HC232_0 := Aside0.mk hl232_0
       clear hi232_0 hl232_0
       have HR232_1 := Aside0.mk hi232_1
       have HC232_1 := Aside0.mk hl232_1
       clear hi232_1 hl232_1
       replace p232 := eq_true p232
       replace q232 := eq_true q232
       go_wp2
       go_ret
       exact ⟨by first | rfl | (simp; done) | (simp [*]; done), by repeat (first | exact Drawn0.refl _ | apply Drawn0.step)⟩
      ·rw [if_neg c5] at H
       have c5b0 : decide ((((rd_T49 l0 x3_1).f0).length : Int) < 1) = false := decide_eq_false c5
       have c5b1 : decide (((rd_T49 l0 x3_1).f0).length < 1) = false := decide_eq_false (by omega)
       clear c5
       by_cases c6 : (((rd_T49 l0 x3_1).f0).length : Int) > 255
       ·rw [if_pos c6] at H
        have c6b0 : decide (255 < (((rd_T49 l0 x3_1).f0).length : Int)) = true := decide_eq_true c6
        have c6b1 : decide (255 < ((rd_T49 l0 x3_1).f0).length) = true := decide_eq_true (by omega)
        clear c6
        obtain rfl := Option.some.inj H
        have p232 : 0 ≤ (x3_1 : Int) := of_decide_eq_true (by first | (with_reducible assumption) | assumption)
        have q232 : x3_1 < (l0.length : Int) := of_decide_eq_true (by first | (with_reducible assumption) | assumption)
        obtain ⟨ad232, A232_0, c232_0, A232_1, c232_1, e232, hx232_0, hx232_1, hx232_2, hl232_0, hi232_0, hl232_1, hi232_1⟩ := at_T49 HR0.out x3_1 p232 q232
        cases e232
        have HR232_0 := Aside0.mk hi232_0
        have HC232_0 := Aside0.mk hl232_0
        clear hi232_0 hl232_0
        have HR232_1 := Aside0.mk hi232_1
        have HC232_1 := Aside0.mk hl232_1
        clear hi232_1 hl232_1
        replace p232 := eq_true p232
        replace q232 := eq_true q232
        have p233 : 0 ≤ (x3_1 : Int) := of_decide_eq_true (by first | (with_reducible assumption) | assumption)
        have q233 : x3_1 < (l0.length : Int) := of_decide_eq_true (by first | (with_reducible assumption) | assumption)
        obtain ⟨ad233, A233_0, c233_0, A233_1, c233_1, e233, hx233_0, hx233_1, hx233_2, hl233_0, hi233_0, hl233_1, hi233_1⟩ := at_T49 HR0.out x3_1 p233 q233
        obtain rfl : ad232 = ad233 := (by injection e233)
        have HR233_0 := Aside0.mk hi233_0
        have HC233_0 := Aside0.mk hl233_0
        clear hi233_0 hl233_0
        have HR233_1 := Aside0.mk hi233_1
        have HC233_1 := Aside0.mk hl233_1
        clear hi233_1 hl233_1
        replace p233 := eq_true p233
        replace q233 := eq_true q233
        have ea_ := Option.some.inj (hx232_0.symm.trans hx233_0)
        injection ea_ with ea_ en_ ec_
        subst ea_
        subst ec_
        clear en_
        have ea_ := Option.some.inj (hx232_1.symm.trans hx233_1)
        injection ea_ with ea_ en_ ec_
        subst ea_
        subst ec_
        clear en_
        go_wp2
        go_ret
        exact ⟨by first | rfl | (simp; done) | (simp [*]; done), by repeat (first | exact Drawn0.refl _ | apply Drawn0.step)⟩
       ·rw [if_neg c6] at H
        have c6b0 : decide (255 < (((rd_T49 l0 x3_1).f0).length : Int)) = false := decide_eq_false c6
        have c6b1 : decide (255 < ((rd_T49 l0 x3_1).f0).length) = false := decide_eq_false (by omega)
        clear c6
        obtain ⟨bq7, hbq7⟩ : ∃ b_ : Bool, b_ = ((rd_T49 l0 x3_1).f2) := ⟨_, rfl⟩
        replace H : (if (bq7 = true) then (marigraphref4_May.l0 k1 l0 (wrap64 (x3_1 + 1))) else (if (((rd_T49 l0 x3_1).f1).length : Int) > 4095 then (some false) else (marigraphref4_May.l0 k1 l0 (wrap64 (x3_1 + 1))))) = some r := by rw [← hbq7] at H; exact H
        have Nbq7 := Aside0.mk hbq7
        clear hbq7
        by_cases c8 : (bq7 = true)
        ·subst c8
         have H1 : (marigraphref4_May.l0 k1 l0 (wrap64 (x3_1 + 1))) = some r := by rw [if_pos rfl] at H; exact H
         clear H
         have H := H1
         clear H1
         have H' := Aside0.mk H
         clear H
         have p232 : 0 ≤ (x3_1 : Int) := of_decide_eq_true (by first | (with_reducible assumption) | assumption)
         have q232 : x3_1 < (l0.length : Int) := of_decide_eq_true (by first | (with_reducible assumption) | assumption)
         obtain ⟨ad232, A232_0, c232_0, A232_1, c232_1, e232, hx232_0, hx232_1, hx232_2, hl232_0, hi232_0, hl232_1, hi232_1⟩ := at_T49 HR0.out x3_1 p232 q232
         (try rw [← Nbq7.out] at hx232_2)
         cases e232
         have HR232_0 := Aside0.mk hi232_0
         have HC232_0 := Aside0.mk hl232_0
         clear hi232_0 hl232_0
         have HR232_1 := Aside0.mk hi232_1
         have HC232_1 := Aside0.mk hl232_1
         clear hi232_1 hl232_1
         replace p232 := eq_true p232
         replace q232 := eq_true q232
         have p233 : 0 ≤ (x3_1 : Int) := of_decide_eq_true (by first | (with_reducible assumption) | assumption)
         have q233 : x3_1 < (l0.length : Int) := of_decide_eq_true (by first | (with_reducible assumption) | assumption)
         obtain ⟨ad233, A233_0, c233_0, A233_1, c233_1, e233, hx233_0, hx233_1, hx233_2, hl233_0, hi233_0, hl233_1, hi233_1⟩ := at_T49 HR0.out x3_1 p233 q233
         (try rw [← Nbq7.out] at hx233_2)
         obtain rfl : ad232 = ad233 := (by injection e233)
         have HR233_0 := Aside0.mk hi233_0
         have HC233_0 := Aside0.mk hl233_0
         clear hi233_0 hl233_0
         have HR233_1 := Aside0.mk hi233_1
         have HC233_1 := Aside0.mk hl233_1
         clear hi233_1 hl233_1
         replace p233 := eq_true p233
         replace q233 := eq_true q233
         have ea_ := Option.some.inj (hx232_0.symm.trans hx233_0)
         injection ea_ with ea_ en_ ec_
         subst ea_
         subst ec_
         clear en_
         have ea_ := Option.some.inj (hx232_1.symm.trans hx233_1)
         injection ea_ with ea_ en_ ec_
         subst ea_
         subst ec_
         clear en_
         have p234 : 0 ≤ (x3_1 : Int) := of_decide_eq_true (by first | (with_reducible assumption) | assumption)
         have q234 : x3_1 < (l0.length : Int) := of_decide_eq_true (by first | (with_reducible assumption) | assumption)
         obtain ⟨ad234, A234_0, c234_0, A234_1, c234_1, e234, hx234_0, hx234_1, hx234_2, hl234_0, hi234_0, hl234_1, hi234_1⟩ := at_T49 HR0.out x3_1 p234 q234
         (try rw [← Nbq7.out] at hx234_2)
         obtain rfl : ad232 = ad234 := (by injection e234)
         have HR234_0 := Aside0.mk hi234_0
         have HC234_0 := Aside0.mk hl234_0
         clear hi234_0 hl234_0
         have HR234_1 := Aside0.mk hi234_1
         have HC234_1 := Aside0.mk hl234_1
         clear hi234_1 hl234_1
         replace p234 := eq_true p234
         replace q234 := eq_true q234
         have ea_ := Option.some.inj (hx232_0.symm.trans hx234_0)
         injection ea_ with ea_ en_ ec_
         subst ea_
         subst ec_
         clear en_
         have ea_ := Option.some.inj (hx232_1.symm.trans hx234_1)
         injection ea_ with ea_ en_ ec_
         subst ea_
         subst ec_
         clear en_
         go_wp2
         go_roundg k1
         case measure => have := HK1.out; omega
         case rel => exact ⟨(wrap64 (x3_1 + 1)), (by first | rfl | (simp; done) | (simp [*]; done)), H', ⟨by have := HK1.out; omega⟩, by repeat (first | exact Drawn0.refl _ | apply Drawn0.step)⟩
        ·replace c8 := Bool.eq_false_iff.mpr c8
         subst c8
         have H1 : (if (((rd_T49 l0 x3_1).f1).length : Int) > 4095 then (some false) else (marigraphref4_May.l0 k1 l0 (wrap64 (x3_1 + 1)))) = some r := by rw [if_neg (show ¬ (false = true) by decide)] at H; exact H
         clear H
         have H := H1
         clear H1
         by_cases c9 : (((rd_T49 l0 x3_1).f1).length : Int) > 4095
         ·rw [if_pos c9] at H
          have c9b0 : decide (4095 < (((rd_T49 l0 x3_1).f1).length : Int)) = true := decide_eq_true c9
          have c9b1 : decide (4095 < ((rd_T49 l0 x3_1).f1).length) = true := decide_eq_true (by omega)
          clear c9
          obtain rfl := Option.some.inj H
          have p232 : 0 ≤ (x3_1 : Int) := of_decide_eq_true (by first | (with_reducible assumption) | assumption)
          have q232 : x3_1 < (l0.length : Int) := of_decide_eq_true (by first | (with_reducible assumption) | assumption)
          obtain ⟨ad232, A232_0, c232_0, A232_1, c232_1, e232, hx232_0, hx232_1, hx232_2, hl232_0, hi232_0, hl232_1, hi232_1⟩ := at_T49 HR0.out x3_1 p232 q232
          (try rw [← Nbq7.out] at hx232_2)
          cases e232
          have HR232_0 := Aside0.mk hi232_0
          have HC232_0 := Aside0.mk hl232_0
          clear hi232_0 hl232_0
          have HR232_1 := Aside0.mk hi232_1
          have HC232_1 := Aside0.mk hl232_1
          clear hi232_1 hl232_1
          replace p232 := eq_true p232
          replace q232 := eq_true q232
          have p233 : 0 ≤ (x3_1 : Int) := of_decide_eq_true (by first | (with_reducible assumption) | assumption)
          have q233 : x3_1 < (l0.length : Int) := of_decide_eq_true (by first | (with_reducible assumption) | assumption)
          obtain ⟨ad233, A233_0, c233_0, A233_1, c233_1, e233, hx233_0, hx233_1, hx233_2, hl233_0, hi233_0, hl233_1, hi233_1⟩ := at_T49 HR0.out x3_1 p233 q233
          (try rw [← Nbq7.out] at hx233_2)
          obtain rfl : ad232 = ad233 := (by injection e233)
          have HR233_0 := Aside0.mk hi233_0
          have HC233_0 := Aside0.mk hl233_0
          clear hi233_0 hl233_0
          have HR233_1 := Aside0.mk hi233_1
          have HC233_1 := Aside0.mk hl233_1
          clear hi233_1 hl233_1
          replace p233 := eq_true p233
          replace q233 := eq_true q233
          have ea_ := Option.some.inj (hx232_0.symm.trans hx233_0)
          injection ea_ with ea_ en_ ec_
          subst ea_
          subst ec_
          clear en_
          have ea_ := Option.some.inj (hx232_1.symm.trans hx233_1)
          injection ea_ with ea_ en_ ec_
          subst ea_
          subst ec_
          clear en_
          have p234 : 0 ≤ (x3_1 : Int) := of_decide_eq_true (by first | (with_reducible assumption) | assumption)
          have q234 : x3_1 < (l0.length : Int) := of_decide_eq_true (by first | (with_reducible assumption) | assumption)
          obtain ⟨ad234, A234_0, c234_0, A234_1, c234_1, e234, hx234_0, hx234_1, hx234_2, hl234_0, hi234_0, hl234_1, hi234_1⟩ := at_T49 HR0.out x3_1 p234 q234
          (try rw [← Nbq7.out] at hx234_2)
          obtain rfl : ad232 = ad234 := (by injection e234)
          have HR234_0 := Aside0.mk hi234_0
          have HC234_0 := Aside0.mk hl234_0
          clear hi234_0 hl234_0
          have HR234_1 := Aside0.mk hi234_1
          have HC234_1 := Aside0.mk hl234_1
          clear hi234_1 hl234_1
          replace p234 := eq_true p234
          replace q234 := eq_true q234
          have ea_ := Option.some.inj (hx232_0.symm.trans hx234_0)
          injection ea_ with ea_ en_ ec_
          subst ea_
          subst ec_
          clear en_
          have ea_ := Option.some.inj (hx232_1.symm.trans hx234_1)
          injection ea_ with ea_ en_ ec_
          subst ea_
          subst ec_
          clear en_
          have p235 : 0 ≤ (x3_1 : Int) := of_decide_eq_true (by first | (with_reducible assumption) | assumption)
          have q235 : x3_1 < (l0.length : Int) := of_decide_eq_true (by first | (with_reducible assumption) | assumption)
          obtain ⟨ad235, A235_0, c235_0, A235_1, c235_1, e235, hx235_0, hx235_1, hx235_2, hl235_0, hi235_0, hl235_1, hi235_1⟩ := at_T49 HR0.out x3_1 p235 q235
          (try rw [← Nbq7.out] at hx235_2)
          obtain rfl : ad232 = ad235 := (by injection e235)
          have HR235_0 := Aside0.mk hi235_0
          have HC235_0 := Aside0.mk hl235_0
          clear hi235_0 hl235_0
          have HR235_1 := Aside0.mk hi235_1
          have HC235_1 := Aside0.mk hl235_1
          clear hi235_1 hl235_1
          replace p235 := eq_true p235
          replace q235 := eq_true q235
          have ea_ := Option.some.inj (hx232_0.symm.trans hx235_0)
          injection ea_ with ea_ en_ ec_
          subst ea_
          subst ec_
          clear en_
          have ea_ := Option.some.inj (hx232_1.symm.trans hx235_1)
          injection ea_ with ea_ en_ ec_
          subst ea_
          subst ec_
          clear en_
          go_wp2
          go_ret
          exact ⟨by first | rfl | (simp; done) | (simp [*]; done), by repeat (first | exact Drawn0.refl _ | apply Drawn0.step)⟩
         ·rw [if_neg c9] at H
          have c9b0 : decide (4095 < (((rd_T49 l0 x3_1).f1).length : Int)) = false := decide_eq_false c9
          have c9b1 : decide (4095 < ((rd_T49 l0 x3_1).f1).length) = false := decide_eq_false (by omega)
          clear c9
          have H' := Aside0.mk H
          clear H
          have p232 : 0 ≤ (x3_1 : Int) := of_decide_eq_true (by first | (with_reducible assumption) | assumption)
          have q232 : x3_1 < (l0.length : Int) := of_decide_eq_true (by first | (with_reducible assumption) | assumption)
          obtain ⟨ad232, A232_0, c232_0, A232_1, c232_1, e232, hx232_0, hx232_1, hx232_2, hl232_0, hi232_0, hl232_1, hi232_1⟩ := at_T49 HR0.out x3_1 p232 q232
          (try rw [← Nbq7.out] at hx232_2)
          cases e232
          have HR232_0 := Aside0.mk hi232_0
          have HC232_0 := Aside0.mk hl232_0
          clear hi232_0 hl232_0
          have HR232_1 := Aside0.mk hi232_1
          have HC232_1 := Aside0.mk hl232_1
          clear hi232_1 hl232_1
          replace p232 := eq_true p232
          replace q232 := eq_true q232
          have p233 : 0 ≤ (x3_1 : Int) := of_decide_eq_true (by first | (with_reducible assumption) | assumption)
          have q233 : x3_1 < (l0.length : Int) := of_decide_eq_true (by first | (with_reducible assumption) | assumption)
          obtain ⟨ad233, A233_0, c233_0, A233_1, c233_1, e233, hx233_0, hx233_1, hx233_2, hl233_0, hi233_0, hl233_1, hi233_1⟩ := at_T49 HR0.out x3_1 p233 q233
          (try rw [← Nbq7.out] at hx233_2)
          obtain rfl : ad232 = ad233 := (by injection e233)
          have HR233_0 := Aside0.mk hi233_0
          have HC233_0 := Aside0.mk hl233_0
          clear hi233_0 hl233_0
          have HR233_1 := Aside0.mk hi233_1
          have HC233_1 := Aside0.mk hl233_1
          clear hi233_1 hl233_1
          replace p233 := eq_true p233
          replace q233 := eq_true q233
          have ea_ := Option.some.inj (hx232_0.symm.trans hx233_0)
          injection ea_ with ea_ en_ ec_
          subst ea_
          subst ec_
          clear en_
          have ea_ := Option.some.inj (hx232_1.symm.trans hx233_1)
          injection ea_ with ea_ en_ ec_
          subst ea_
          subst ec_
          clear en_
          have p234 : 0 ≤ (x3_1 : Int) := of_decide_eq_true (by first | (with_reducible assumption) | assumption)
          have q234 : x3_1 < (l0.length : Int) := of_decide_eq_true (by first | (with_reducible assumption) | assumption)
          obtain ⟨ad234, A234_0, c234_0, A234_1, c234_1, e234, hx234_0, hx234_1, hx234_2, hl234_0, hi234_0, hl234_1, hi234_1⟩ := at_T49 HR0.out x3_1 p234 q234
          (try rw [← Nbq7.out] at hx234_2)
          obtain rfl : ad232 = ad234 := (by injection e234)
          have HR234_0 := Aside0.mk hi234_0
          have HC234_0 := Aside0.mk hl234_0
          clear hi234_0 hl234_0
          have HR234_1 := Aside0.mk hi234_1
          have HC234_1 := Aside0.mk hl234_1
          clear hi234_1 hl234_1
          replace p234 := eq_true p234
          replace q234 := eq_true q234
          have ea_ := Option.some.inj (hx232_0.symm.trans hx234_0)
          injection ea_ with ea_ en_ ec_
          subst ea_
          subst ec_
          clear en_
          have ea_ := Option.some.inj (hx232_1.symm.trans hx234_1)
          injection ea_ with ea_ en_ ec_
          subst ea_
          subst ec_
          clear en_
          have p235 : 0 ≤ (x3_1 : Int) := of_decide_eq_true (by first | (with_reducible assumption) | assumption)
          have q235 : x3_1 < (l0.length : Int) := of_decide_eq_true (by first | (with_reducible assumption) | assumption)
          obtain ⟨ad235, A235_0, c235_0, A235_1, c235_1, e235, hx235_0, hx235_1, hx235_2, hl235_0, hi235_0, hl235_1, hi235_1⟩ := at_T49 HR0.out x3_1 p235 q235
          (try rw [← Nbq7.out] at hx235_2)
          obtain rfl : ad232 = ad235 := (by injection e235)
          have HR235_0 := Aside0.mk hi235_0
          have HC235_0 := Aside0.mk hl235_0
          clear hi235_0 hl235_0
          have HR235_1 := Aside0.mk hi235_1
          have HC235_1 := Aside0.mk hl235_1
          clear hi235_1 hl235_1
          replace p235 := eq_true p235
          replace q235 := eq_true q235
          have ea_ := Option.some.inj (hx232_0.symm.trans hx235_0)
          injection ea_ with ea_ en_ ec_
          subst ea_
          subst ec_
          clear en_
          have ea_ := Option.some.inj (hx232_1.symm.trans hx235_1)
          injection ea_ with ea_ en_ ec_
          subst ea_
          subst ec_
          clear en_
          go_wp2
          go_roundg k1
          case measure => have := HK1.out; omega
          case rel => exact ⟨(wrap64 (x3_1 + 1)), (by first | rfl | (simp; done) | (simp [*]; done)), H', ⟨by have := HK1.out; omega⟩, by repeat (first | exact Drawn0.refl _ | apply Drawn0.step)⟩
     ·rw [if_neg c4] at H
      exact absurd H (by simp)
    ·rw [if_neg c3] at H
     have c3b0 : decide (x3_1 < (l0.length : Int)) = false := decide_eq_false c3
     clear c3
     obtain rfl := Option.some.inj H
     go_wp2
     go_ret
     exact ⟨by first | rfl | (simp; done) | (simp [*]; done), by repeat (first | exact Drawn0.refl _ | apply Drawn0.step)⟩

/-! ### marigraphlaw4_batch: function 35 -/
def marigraphlaw4_batch.f (k : Nat) (l0 : List (S49)) : Option (Bool) := (frame_Batch.f k l0).bind fun bt236 => ((marigraphref4_May.f k l0).bind fun t240 => (if t240 = true then (if bt236.2 = 0 then ((marigraphref4_Batch.f k l0).bind fun t241 => (some ((strOfNums bt236.1).toList == (strOfNums t241).toList))) else (some false)) else (if bt236.2 = 3 then (some ((bt236.1.length : Int) == 0)) else (some false))))
theorem marigraphlaw4_batch.mono : ∀ a0 k, LeO (marigraphlaw4_batch.f k a0) (marigraphlaw4_batch.f (k + 1) a0) := by
 intro a0 k
 unfold marigraphlaw4_batch.f
 repeat' first
   | (with_reducible exact frame_Batch.mono _ _)
   | (with_reducible exact marigraphref4_Batch.mono _ _)
   | (with_reducible exact marigraphref4_May.mono _ _)
   | (with_reducible exact LeO.refl _)
   | (with_reducible exact LeO.none _)
   | (with_reducible refine LeO.ite ?_ ?_)
   | (with_reducible refine LeO.bind ?_ (fun _ => ?_))
   | exact frame_Batch.mono _ _
   | exact marigraphref4_Batch.mono _ _
   | exact marigraphref4_May.mono _ _
   | exact LeO.none _
   | refine LeO.ite ?_ ?_
   | refine LeO.bind ?_ (fun _ => ?_)
def marigraphlaw4_batch.T4 : Bool × List (List Nat × List Nat) := (true, [([], []), ([0], [0]), ([1], [1]), ([2], [2]), ([3, 2], [2, 3]), ([2], [2]), ([5, 2, 2], [2, 5]), ([6, 2], [2, 6]), ([4, 7, 2], [2, 4, 7]), ([2, 8], [2, 8]), ([9, 6, 0, 1, 2, 3, 4, 5, 6, 7, 8, 9], [9])])
def marigraphlaw4_batch.B4 : List Nat := [0, 1, 3, 7, 15, 7, 39, 103, 255, 511, 1023]
theorem marigraphlaw4_batch.tab4 : rtab .any (opsOf Try.f35 4) = marigraphlaw4_batch.T4 := by kernel_rfl
theorem marigraphlaw4_batch.bits4 : waitsOk marigraphlaw4_batch.T4.2 marigraphlaw4_batch.B4 = true := by kernel_rfl
set_option maxHeartbeats 8000000 in
set_option maxRecDepth 100000 in
theorem marigraphlaw4_batch.calls (k : Nat) (A0 : Option Addr) (c0 : Nat) (l0 : List (S49)) (r : Bool) (w : World) (hr0 : Kd.C k49 w A0 l0.length l0) (hc0 : l0.length ≤ c0) (h : marigraphlaw4_batch.f k l0 = some r) :
  Calls Try.prog 35 #[.slice A0 l0.length c0] w fun e w' => e = .returned (.bool r) ∧ Below w.heap.size w w' := by
 have HR0 := Aside0.mk hr0
 have HC0 := Aside0.mk hc0
 clear hr0 hc0
 have HB := Aside0.mk (Below.refl w.heap.size w)
 have H : ((frame_Batch.f k l0).bind fun bt236 => ((marigraphref4_May.f k l0).bind fun t240 => (if t240 = true then (if bt236.2 = 0 then ((marigraphref4_Batch.f k l0).bind fun t241 => (some ((strOfNums bt236.1).toList == (strOfNums t241).toList))) else (some false)) else (if bt236.2 = 3 then (some ((bt236.1.length : Int) == 0)) else (some false))))) = some r := h
 clear h
 replace H := Option.bind_eq_some_iff.mp H
 obtain ⟨⟨t236, t237⟩, A20, H⟩ := H
 replace H : ((marigraphref4_May.f k l0).bind fun t240 => (if t240 = true then (if t237 = 0 then ((marigraphref4_Batch.f k l0).bind fun t241 => (some ((strOfNums t236).toList == (strOfNums t241).toList))) else (some false)) else (if t237 = 3 then (some ((t236.length : Int) == 0)) else (some false)))) = some r := H
 have A2 := Aside0.mk A20
 clear A20
 replace H := Option.bind_eq_some_iff.mp H
 obtain ⟨t240, A30, H⟩ := H
 replace H : (if t240 = true then (if t237 = 0 then ((marigraphref4_Batch.f k l0).bind fun t241 => (some ((strOfNums t236).toList == (strOfNums t241).toList))) else (some false)) else (if t237 = 3 then (some ((t236.length : Int) == 0)) else (some false))) = some r := H
 have A3 := Aside0.mk A30
 clear A30
 by_cases c4 : t240 = true
 ·subst c4
  have H1 : (if t237 = 0 then ((marigraphref4_Batch.f k l0).bind fun t241 => (some ((strOfNums t236).toList == (strOfNums t241).toList))) else (some false)) = some r := by rw [if_pos rfl] at H; exact H
  clear H
  have H := H1
  clear H1
  by_cases c5 : t237 = 0
  ·rw [if_pos c5] at H
   have c5b0 : (t237 == 0) = true := beq_iff_eq.mpr c5
   have c5b1 : (t237 != 0) = false := bne_eq_false_iff_eq.mpr c5
   clear c5
   replace H := Option.bind_eq_some_iff.mp H
   obtain ⟨t241, A60, H⟩ := H
   replace H : (some ((strOfNums t236).toList == (strOfNums t241).toList)) = some r := H
   have A6 := Aside0.mk A60
   clear A60
   obtain rfl := Option.some.inj H
   go_enter Try.func35, Try.ntmps35
   try go_wp2_with (first | ((with_reducible refine gate_callee (f := 22) rfl ?_); refine goesL_ (some 7) rfl rfl Try.func22 (by kernel_rfl) rfl #[.slice A0 l0.length c0] rfl argN ?_; (with_reducible refine (frame_Batch.calls k _ _ l0 t236 t237 _ ?side1 ?side2 A2.out).mono ?_); (case side1 => repeat (first | exact HR0.out | (with_reducible refine Kd.C_alloc ?_ _) | (with_reducible refine Kd.C_drewN ?_ _) | (with_reducible refine Kd.C_drew ?_))); (case side2 => exact HC0.out); rintro e w7 ⟨v238, rfl, ho0, hb⟩; refine ⟨_, rfl, ?_⟩; have n0_ := Aside0.mk (Kd.R_lower ho0 (below_size (belN HB.out))); have n1_ := Aside0.mk (below_step (belN HB.out) hb); clear HB; have HO239 := n0_; have HB := n1_; clear n0_ n1_; (try clear hb); (try clear ho0)) | ((with_reducible refine gate_callee (f := 55) rfl ?_); refine goesL_ (some 11) rfl rfl Try.func55 (by kernel_rfl) rfl #[.slice A0 l0.length c0] rfl argN ?_; (with_reducible refine (marigraphref4_May.calls k _ _ l0 true _ ?side1 ?side2 A3.out).mono ?_); (case side1 => repeat (first | exact (Kd.C_below HR0.out HB.out) | (with_reducible refine Kd.C_alloc ?_ _) | (with_reducible refine Kd.C_drewN ?_ _) | (with_reducible refine Kd.C_drew ?_))); (case side2 => exact HC0.out); rintro e w' ⟨rfl, ⟨nd, rfl⟩⟩; refine ⟨_, rfl, ?_⟩))
   (try (rw [drewN_self w7]; generalize hq_ : World.drewN w7 _ = w7; have n0_ := Aside0.mk (Kd.R_at hq_ HO239.out); have n1_ := Aside0.mk (below_at hq_ HB.out); clear hq_ HO239 HB; have HO239 := n0_; have HB := n1_; clear n0_ n1_))
   have n0_ := Aside0.mk (Kd.R_drew HO239.out)
   have n1_ := Aside0.mk (below_drew1 HB.out)
   clear HO239
   clear HB
   have HO239 := n0_
   have HB := n1_
   clear n0_ n1_
   refine start_ (n := 11) (S := fun w' => (convert 23 9 (v238)).run Try.prog w' = .ok (.string (strOfNums t236)) w') (ds := []) #[false, false, false, false, false, false, false, false, false, false, false] (by kernel_rfl) rfl rfl ((own_string (P := Try.prog) Try.underlying23 Try.underlying5 Try.underlying9 (Kd.own_of_R HO239.out))) (fun hHeld => ?_); refine with_tabW marigraphlaw4_batch.tab4 marigraphlaw4_batch.bits4 (fun HT_ HW_ => ?_)
   generalize w7.drew = w8 at HO239 HB hHeld ⊢
   have HV9 := HO239
   refine pA 0 (some 20) (bA 11 1) HT_.out ?_
   refine pA 1 (some 21) (bA 11 3) HT_.out ?_
   refine pA 2 (some 22) (bA 11 7) HT_.out ?_
   refine pA 3 (some 23) (bA 11 15) HT_.out ?_
   refine pA 5 (some 25) (bA 11 47) HT_.out ?_
   refine take_ (i := 4) (N := some 24) (v := ?_) (a' := ?_) (bA 11 63) rfl rfl (take_ofW HT_.out HW_.out (by kernel_rfl)) (fun _ _ _ h => h) (Or.inl ⟨by rfl, ?_⟩) hHeld ?_ ?_
   rotate_left
   ·intro w' s0
    go_simp
    with_reducible rfl
   rotate_left
   ·simp only [Act.put, List.setIfInBounds_toArray, List.set_cons_zero, List.set_cons_succ, i64_w, i32_w]
    rfl
   refine one_ (i := 6) (N := some 26) (bA 11 127) rfl rfl (one_of HT_.out (by kernel_rfl)) (by decide) (fun K hK => ?_)
   refine goes_ Try.func34 (by kernel_rfl) rfl #[.slice A0 l0.length c0] (by rfl) rfl rfl argN ?_
   with_reducible refine (marigraphref4_Batch.calls k _ _ l0 t241 _ ?side1 ?side2 A6.out).mono ?_
   (case side1 => repeat (first | exact (Kd.C_below HR0.out HB.out) | (with_reducible refine Kd.C_alloc ?_ _) | (with_reducible refine Kd.C_drewN ?_ _) | (with_reducible refine Kd.C_drew ?_)))
   (case side2 => exact HC0.out)
   rintro e w10 ⟨v242, rfl, ho0, hb⟩
   have HV9 := Aside0.mk (Kd.R_below (rowN HV9.out) hb)
   refine ⟨_, rfl, ?_⟩
   have n0_ := Aside0.mk (Kd.R_elder' (rowN HO239.out) (Kd.R_base ho0) hb)
   have n1_ := Aside0.mk (Kd.R_lower (Kd.R_new' ho0 (Kd.R_lt (rowN HO239.out))) (below_size (belN HB.out)))
   have n2_ := Aside0.mk (below_step (belN HB.out) hb)
   clear HO239
   clear HB
   have HO239 := n0_
   have HO243 := n1_
   have HB := n2_
   clear n0_ n1_ n2_
   (try clear hb)
   (try clear ho0)
   refine hK.out _ _ ((own_string (P := Try.prog) Try.underlying23 Try.underlying5 Try.underlying9 (Kd.own_of_R (rowN HV9.out)))) (fun hHeld => ?_)
   clear hK K
   refine norm_ (a' := ?_) ?_ ?_
   rotate_left
   ·show Act.put _ (some 26) _ = _
    simp only [Act.put, List.setIfInBounds_toArray, List.set_cons_zero, List.set_cons_succ, i64_w, i32_w]
    rfl
   refine one_ (i := 7) (N := some 27) (bA 11 255) rfl rfl (one_of HT_.out (by kernel_rfl)) (by decide) (fun K hK => ?_)
   have hcv11 := own_string (P := Try.prog) Try.underlying23 Try.underlying5 Try.underlying9 (Kd.own_of_R HO243.out)
   refine value_ (w1 := ?_) (v := ?_) (by rfl) rfl ?_ ?_
   rotate_left 2
   ·go_simp
    constructor
    ·rfl
    ·rfl
   clear hcv11
   refine hK.out _ _ ((own_string (P := Try.prog) Try.underlying23 Try.underlying5 Try.underlying9 (Kd.own_of_R (rowN HV9.out)))) (fun hHeld => ?_)
   clear hK K
   refine norm_ (a' := ?_) ?_ ?_
   rotate_left
   ·show Act.put _ (some 27) _ = _
    simp only [Act.put, List.setIfInBounds_toArray, List.set_cons_zero, List.set_cons_succ, i64_w, i32_w]
    rfl
   refine pA 8 (some 28) (bA 11 511) HT_.out ?_
   refine pA 9 (some 29) (bA 11 1023) HT_.out ?_
   refine pA 10 (some 2) (bA 11 2047) HT_.out ?_
   refine done_ (done_of HT_.out (by kernel_rfl)) ?_
   try go_wp2
   go_ret
   exact ⟨by first | rfl | (simp [errW_none, errW_some] <;> rfl) | (simp [*, errW_none, errW_some] <;> rfl), (belN HB.out)⟩
  ·rw [if_neg c5] at H
   have c5b0 : (t237 == 0) = false := beq_eq_false_iff_ne.mpr c5
   have c5b1 : (t237 != 0) = true := bne_iff_ne.mpr c5
   obtain rfl := Option.some.inj H
   go_enter Try.func35, Try.ntmps35
   try go_wp2_with (first | ((with_reducible refine gate_callee (f := 22) rfl ?_); refine goesL_ (some 7) rfl rfl Try.func22 (by kernel_rfl) rfl #[.slice A0 l0.length c0] rfl argN ?_; (with_reducible refine (frame_Batch.calls k _ _ l0 t236 t237 _ ?side1 ?side2 A2.out).mono ?_); (case side1 => repeat (first | exact HR0.out | (with_reducible refine Kd.C_alloc ?_ _) | (with_reducible refine Kd.C_drewN ?_ _) | (with_reducible refine Kd.C_drew ?_))); (case side2 => exact HC0.out); rintro e w13 ⟨v238, rfl, ho0, hb⟩; refine ⟨_, rfl, ?_⟩; have n0_ := Aside0.mk (Kd.R_lower ho0 (below_size (belN HB.out))); have n1_ := Aside0.mk (below_step (belN HB.out) hb); clear HB; have HO239 := n0_; have HB := n1_; clear n0_ n1_; (try clear hb); (try clear ho0)) | ((with_reducible refine gate_callee (f := 55) rfl ?_); refine goesL_ (some 11) rfl rfl Try.func55 (by kernel_rfl) rfl #[.slice A0 l0.length c0] rfl argN ?_; (with_reducible refine (marigraphref4_May.calls k _ _ l0 true _ ?side1 ?side2 A3.out).mono ?_); (case side1 => repeat (first | exact (Kd.C_below HR0.out HB.out) | (with_reducible refine Kd.C_alloc ?_ _) | (with_reducible refine Kd.C_drewN ?_ _) | (with_reducible refine Kd.C_drew ?_))); (case side2 => exact HC0.out); rintro e w' ⟨rfl, ⟨nd, rfl⟩⟩; refine ⟨_, rfl, ?_⟩))
   (try (rw [drewN_self w13]; generalize hq_ : World.drewN w13 _ = w13; have n0_ := Aside0.mk (Kd.R_at hq_ HO239.out); have n1_ := Aside0.mk (below_at hq_ HB.out); clear hq_ HO239 HB; have HO239 := n0_; have HB := n1_; clear n0_ n1_))
   have n0_ := Aside0.mk (Kd.R_drew HO239.out)
   have n1_ := Aside0.mk (below_drew1 HB.out)
   clear HO239
   clear HB
   have HO239 := n0_
   have HB := n1_
   clear n0_ n1_
   refine start_ (n := 11) (S := fun w' => True) (ds := []) #[false, false, false, false, false, false, false, false, false, false, false] (by kernel_rfl) rfl rfl trivial (fun hHeld => ?_); refine with_tabW marigraphlaw4_batch.tab4 marigraphlaw4_batch.bits4 (fun HT_ HW_ => ?_)
   generalize w13.drew = w14 at HO239 HB hHeld ⊢
   refine pA 0 (some 20) (bA 11 1) HT_.out ?_
   refine pA 1 (some 21) (bA 11 3) HT_.out ?_
   refine pA 2 (some 22) (bA 11 7) HT_.out ?_
   refine pU 3 (some 23) (bA 11 15) HT_.out ?_
   refine pU 4 (some 24) (bA 11 31) HT_.out ?_
   refine pU 5 (some 25) (bA 11 63) HT_.out ?_
   refine pU 6 (some 26) (bA 11 127) HT_.out ?_
   refine pU 7 (some 27) (bA 11 255) HT_.out ?_
   refine pU 8 (some 28) (bA 11 511) HT_.out ?_
   refine pA 9 (some 29) (bA 11 1023) HT_.out ?_
   refine pA 10 (some 2) (bA 11 2047) HT_.out ?_
   refine done_ (done_of HT_.out (by kernel_rfl)) ?_
   try go_wp2
   go_ret
   exact ⟨by first | rfl | (simp [errW_none, errW_some] <;> rfl) | (simp [*, errW_none, errW_some] <;> rfl), (belN HB.out)⟩
 ·replace c4 := Bool.eq_false_iff.mpr c4
  subst c4
  have H1 : (if t237 = 3 then (some ((t236.length : Int) == 0)) else (some false)) = some r := by rw [if_neg (show ¬ (false = true) by decide)] at H; exact H
  clear H
  have H := H1
  clear H1
  by_cases c15 : t237 = 3
  ·rw [if_pos c15] at H
   have c15b0 : (t237 == 3) = true := beq_iff_eq.mpr c15
   have c15b1 : (t237 != 3) = false := bne_eq_false_iff_eq.mpr c15
   clear c15
   obtain rfl := Option.some.inj H
   go_enter Try.func35, Try.ntmps35
   go_wp2_with (first | ((with_reducible refine gate_callee (f := 22) rfl ?_); refine goesL_ (some 7) rfl rfl Try.func22 (by kernel_rfl) rfl #[.slice A0 l0.length c0] rfl argN ?_; (with_reducible refine (frame_Batch.calls k _ _ l0 t236 t237 _ ?side1 ?side2 A2.out).mono ?_); (case side1 => repeat (first | exact HR0.out | (with_reducible refine Kd.C_alloc ?_ _) | (with_reducible refine Kd.C_drewN ?_ _) | (with_reducible refine Kd.C_drew ?_))); (case side2 => exact HC0.out); rintro e w16 ⟨v238, rfl, ho0, hb⟩; refine ⟨_, rfl, ?_⟩; have n0_ := Aside0.mk (Kd.R_lower ho0 (below_size (belN HB.out))); have n1_ := Aside0.mk (below_step (belN HB.out) hb); clear HB; have HO239 := n0_; have HB := n1_; clear n0_ n1_; (try clear hb); (try clear ho0)) | ((with_reducible refine gate_callee (f := 55) rfl ?_); refine goesL_ (some 11) rfl rfl Try.func55 (by kernel_rfl) rfl #[.slice A0 l0.length c0] rfl argN ?_; (with_reducible refine (marigraphref4_May.calls k _ _ l0 false _ ?side1 ?side2 A3.out).mono ?_); (case side1 => repeat (first | exact (Kd.C_below HR0.out HB.out) | (with_reducible refine Kd.C_alloc ?_ _) | (with_reducible refine Kd.C_drewN ?_ _) | (with_reducible refine Kd.C_drew ?_))); (case side2 => exact HC0.out); rintro e w' ⟨rfl, ⟨nd, rfl⟩⟩; refine ⟨_, rfl, ?_⟩; obtain ⟨Ao17, co17, eo17⟩ := Kd.R_slice HO239.out; subst eo17))
   go_ret
   exact ⟨by first | rfl | (simp [errW_none, errW_some] <;> rfl) | (simp [*, errW_none, errW_some] <;> rfl), (belN HB.out)⟩
  ·rw [if_neg c15] at H
   have c15b0 : (t237 == 3) = false := beq_eq_false_iff_ne.mpr c15
   have c15b1 : (t237 != 3) = true := bne_iff_ne.mpr c15
   obtain rfl := Option.some.inj H
   go_enter Try.func35, Try.ntmps35
   go_wp2_with (first | ((with_reducible refine gate_callee (f := 22) rfl ?_); refine goesL_ (some 7) rfl rfl Try.func22 (by kernel_rfl) rfl #[.slice A0 l0.length c0] rfl argN ?_; (with_reducible refine (frame_Batch.calls k _ _ l0 t236 t237 _ ?side1 ?side2 A2.out).mono ?_); (case side1 => repeat (first | exact HR0.out | (with_reducible refine Kd.C_alloc ?_ _) | (with_reducible refine Kd.C_drewN ?_ _) | (with_reducible refine Kd.C_drew ?_))); (case side2 => exact HC0.out); rintro e w18 ⟨v238, rfl, ho0, hb⟩; refine ⟨_, rfl, ?_⟩; have n0_ := Aside0.mk (Kd.R_lower ho0 (below_size (belN HB.out))); have n1_ := Aside0.mk (below_step (belN HB.out) hb); clear HB; have HO239 := n0_; have HB := n1_; clear n0_ n1_; (try clear hb); (try clear ho0)) | ((with_reducible refine gate_callee (f := 55) rfl ?_); refine goesL_ (some 11) rfl rfl Try.func55 (by kernel_rfl) rfl #[.slice A0 l0.length c0] rfl argN ?_; (with_reducible refine (marigraphref4_May.calls k _ _ l0 false _ ?side1 ?side2 A3.out).mono ?_); (case side1 => repeat (first | exact (Kd.C_below HR0.out HB.out) | (with_reducible refine Kd.C_alloc ?_ _) | (with_reducible refine Kd.C_drewN ?_ _) | (with_reducible refine Kd.C_drew ?_))); (case side2 => exact HC0.out); rintro e w' ⟨rfl, ⟨nd, rfl⟩⟩; refine ⟨_, rfl, ?_⟩))
   go_ret
   exact ⟨by first | rfl | (simp [errW_none, errW_some] <;> rfl) | (simp [*, errW_none, errW_some] <;> rfl), (belN HB.out)⟩

end Go.Proofs.Ytmimfnangdabmaa.PFrameBatches

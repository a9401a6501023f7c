/- The walk of the Go functions that a law reaches, told as plain functions; a program of this session has written it. No condition beyond the statement's own. -/
import Derived.Test.YtmimfnangdabmaaPFrameNumbersx0
import Derived.Test.YtmimfnangdabmaaPFrameNumbersx1
import Derived.Test.YtmimfnangdabmaaPFrameNumbersx3
import Derived.Test.YtmimfnangdabmaaPFrameNumbersx4
namespace Go.Proofs.Ytmimfnangdabmaa.PFrameNumbers
open Go.RowKit Go.Proofs.YtmimfnangdabmaaW.PrintWords Go.Proofs.YtmimfnangdabmaaW.PrintLast Go.Proofs.YtmimfnangdabmaaW.PrintMore
attribute [local go_sem] max2_int min2_int max_two min_two max_three min_three max_four min_four   -- for this text's walks alone
set_option linter.unusedVariables false
set_option linter.unusedSimpArgs false

/-! ### marigraphref4_May: function 55 -/
def marigraphref4_May.l0 : Nat → List (S49) → Int → Option (Bool)
 | 0, _, _ => none
 | k + 1, x0, x3 => if x3 < (x0.length : Int) then (if 0 ≤ x3 then (if (((rd_T49 x0 x3).f0).length : Int) < 1 then (some false) else (if (((rd_T49 x0 x3).f0).length : Int) > 255 then (some false) else (if ((rd_T49 x0 x3).f2 = true) then (marigraphref4_May.l0 k x0 (wrap64 (x3 + 1))) else (if (((rd_T49 x0 x3).f1).length : Int) > 4095 then (some false) else (marigraphref4_May.l0 k x0 (wrap64 (x3 + 1))))))) else (none)) else (some true)
def marigraphref4_May.f (k : Nat) (l0 : List (S49)) : Option (Bool) := if (l0.length : Int) > 8191 then (some false) else (marigraphref4_May.l0 k l0 0)
theorem marigraphref4_May.mono_l : ∀ k, (∀ y0 y1, LeO (marigraphref4_May.l0 k y0 y1) (marigraphref4_May.l0 (k + 1) y0 y1))
 | 0 => fun _ _ r h => by simp [marigraphref4_May.l0] at h
 | k + 1 => by
  have ih0 := marigraphref4_May.mono_l k
  ·intro y0 y1
   unfold marigraphref4_May.l0
   repeat' first
   | (with_reducible exact ih0 _ _)
   | (with_reducible exact LeO.refl _)
   | (with_reducible exact LeO.none _)
   | (with_reducible refine LeO.ite ?_ ?_)
   | (with_reducible refine LeO.bind ?_ (fun _ => ?_))
   | exact ih0 _ _
   | exact LeO.none _
   | refine LeO.ite ?_ ?_
   | refine LeO.bind ?_ (fun _ => ?_)
theorem marigraphref4_May.mono : ∀ a0 k, LeO (marigraphref4_May.f k a0) (marigraphref4_May.f (k + 1) a0) := by
 intro a0 k
 have ih0 := marigraphref4_May.mono_l k
 unfold marigraphref4_May.f
 repeat' first
   | (with_reducible exact ih0 _ _)
   | (with_reducible exact LeO.refl _)
   | (with_reducible exact LeO.none _)
   | (with_reducible refine LeO.ite ?_ ?_)
   | (with_reducible refine LeO.bind ?_ (fun _ => ?_))
   | exact ih0 _ _
   | exact LeO.none _
   | refine LeO.ite ?_ ?_
   | refine LeO.bind ?_ (fun _ => ?_)
set_option maxHeartbeats 8000000 in
set_option maxRecDepth 100000 in
theorem marigraphref4_May.calls (k : Nat) (A0 : Option Addr) (c0 : Nat) (l0 : List (S49)) (r : Bool) (w : World) (hr0 : Kd.C k49 w A0 l0.length l0) (hc0 : l0.length ≤ c0) (h : marigraphref4_May.f k l0 = some r) :
  Calls Try.prog 55 #[.slice A0 l0.length c0] w fun e w' => e = .returned (.bool r) ∧ Drawn0 w w' := by
 have HR0 := Aside0.mk hr0
 have HC0 := Aside0.mk hc0
 clear hr0 hc0
 have H : (if (l0.length : Int) > 8191 then (some false) else (marigraphref4_May.l0 k l0 0)) = some r := h
 clear h
 by_cases c2 : (l0.length : Int) > 8191
 ·rw [if_pos c2] at H
  have c2b0 : decide (8191 < (l0.length : Int)) = true := decide_eq_true c2
  have c2b1 : decide (8191 < l0.length) = true := decide_eq_true (by omega)
  clear c2
  obtain rfl := Option.some.inj H
  go_enter Try.func55, Try.ntmps55
  go_wp2
  go_ret
  exact ⟨by first | rfl | (simp; done) | (simp [*]; done), by repeat (first | exact Drawn0.refl _ | apply Drawn0.step)⟩
 ·rw [if_neg c2] at H
  have c2b0 : decide (8191 < (l0.length : Int)) = false := decide_eq_false c2
  have c2b1 : decide (8191 < l0.length) = false := decide_eq_false (by omega)
  clear c2
  have H' := Aside0.mk H
  clear H
  go_enter Try.func55, Try.ntmps55
  go_wp2
  go_loopg [3] k (fun kq v3 w' => ∃ (x3_1 : Int), v3 = .int .i64 x3_1 ∧ Aside0 (marigraphref4_May.l0 kq l0 x3_1 = some r) ∧ Aside0 (kq ≤ k) ∧ Drawn0 w w')
  case atStart => exact ⟨(0), (by first | rfl | (simp; done) | (simp [*]; done)), H', ⟨Nat.le_refl _⟩, by repeat (first | exact Drawn0.refl _ | apply Drawn0.step)⟩
  case round =>
   clear H'
   try clear c2
   try clear c2b0
   try clear c2b1
   try clear p2
   obtain ⟨x3_1, rfl, HA, HK1, ⟨m1, rfl⟩⟩ := hrel
   cases gk with
   | zero => exact absurd HA.out (by simp [marigraphref4_May.l0])
   | succ k1 =>
    have H := HA.out
    clear HA
    simp only [marigraphref4_May.l0] at H
    by_cases c3 : x3_1 < (l0.length : Int)
    ·rw [if_pos c3] at H
     have c3b0 : decide (x3_1 < (l0.length : Int)) = true := decide_eq_true c3
     clear c3
     by_cases c4 : 0 ≤ x3_1
     ·rw [if_pos c4] at H
      have c4b0 : decide (0 ≤ x3_1) = true := decide_eq_true c4
      clear c4
      by_cases c5 : (((rd_T49 l0 x3_1).f0).length : Int) < 1
      ·rw [if_pos c5] at H
       have c5b0 : decide ((((rd_T49 l0 x3_1).f0).length : Int) < 1) = true := decide_eq_true c5
       have c5b1 : decide (((rd_T49 l0 x3_1).f0).length < 1) = true := decide_eq_true (by omega)
       clear c5
       obtain rfl := Option.some.inj H
       have p257 : 0 ≤ (x3_1 : Int) := of_decide_eq_true (by first | (with_reducible assumption) | assumption)
       have q257 : x3_1 < (l0.length : Int) := of_decide_eq_true (by first | (with_reducible assumption) | assumption)
       obtain ⟨ad257, A257_0, c257_0, A257_1, c257_1, e257, hx257_0, hx257_1, hx257_2, hl257_0, hi257_0, hl257_1, hi257_1⟩ := at_T49 HR0.out x3_1 p257 q257
       cases e257
       have HR257_0 := Aside0.mk hi257_0
       have HC257_0 := Aside0.mk hl257_0
       clear hi257_0 hl257_0
       have HR257_1 := Aside0.mk hi257_1
       have HC257_1 := Aside0.mk hl257_1
       clear hi257_1 hl257_1
       replace p257 := eq_true p257
       replace q257 := eq_true q257
       go_wp2
       go_ret
       exact ⟨by first | rfl | (simp; done) | (simp [*]; done), by repeat (first | exact Drawn0.refl _ | apply Drawn0.step)⟩
      ·rw [if_neg c5] at H
       have c5b0 : decide ((((rd_T49 l0 x3_1).f0).length : Int) < 1) = false := decide_eq_false c5
       have c5b1 : decide (((rd_T49 l0 x3_1).f0).length < 1) = false := decide_eq_false (by omega)
       clear c5
       by_cases c6 : (((rd_T49 l0 x3_1).f0).length : Int) > 255
       ·rw [if_pos c6] at H
        have c6b0 : decide (255 < (((rd_T49 l0 x3_1).f0).length : Int)) = true := decide_eq_true c6
        have c6b1 : decide (255 < ((rd_T49 l0 x3_1).f0).length) = true := decide_eq_true (by omega)
        clear c6
        obtain rfl := Option.some.inj H
        have p257 : 0 ≤ (x3_1 : Int) := of_decide_eq_true (by first | (with_reducible assumption) | assumption)
        have q257 : x3_1 < (l0.length : Int) := of_decide_eq_true (by first | (with_reducible assumption) | assumption)
        obtain ⟨ad257, A257_0, c257_0, A257_1, c257_1, e257, hx257_0, hx257_1, hx257_2, hl257_0, hi257_0, hl257_1, hi257_1⟩ := at_T49 HR0.out x3_1 p257 q257
        cases e257
        have HR257_0 := Aside0.mk hi257_0
        have HC257_0 := Aside0.mk hl257_0
        clear hi257_0 hl257_0
        have HR257_1 := Aside0.mk hi257_1
        have HC257_1 := Aside0.mk hl257_1
        clear hi257_1 hl257_1
        replace p257 := eq_true p257
        replace q257 := eq_true q257
        have p258 : 0 ≤ (x3_1 : Int) := of_decide_eq_true (by first | (with_reducible assumption) | assumption)
        have q258 : x3_1 < (l0.length : Int) := of_decide_eq_true (by first | (with_reducible assumption) | assumption)
        obtain ⟨ad258, A258_0, c258_0, A258_1, c258_1, e258, hx258_0, hx258_1, hx258_2, hl258_0, hi258_0, hl258_1, hi258_1⟩ := at_T49 HR0.out x3_1 p258 q258
        obtain rfl : ad257 = ad258 := (by injection e258)
        have HR258_0 := Aside0.mk hi258_0
        have HC258_0 := Aside0.mk hl258_0
        clear hi258_0 hl258_0
        have HR258_1 := Aside0.mk hi258_1
        have HC258_1 := Aside0.mk hl258_1
        clear hi258_1 hl258_1
        replace p258 := eq_true p258
        replace q258 := eq_true q258
        have ea_ := Option.some.inj (hx257_0.symm.trans hx258_0)
        injection ea_ with ea_ en_ ec_
        subst ea_
        subst ec_
        clear en_
        have ea_ := Option.some.inj (hx257_1.symm.trans hx258_1)
        injection ea_ with ea_ en_ ec_
        subst ea_
        subst ec_
        clear en_
        go_wp2
        go_ret
        exact ⟨by first | rfl | (simp; done) | (simp [*]; done), by repeat (first | exact Drawn0.refl _ | apply Drawn0.step)⟩
       ·rw [if_neg c6] at H
        have c6b0 : decide (255 < (((rd_T49 l0 x3_1).f0).length : Int)) = false := decide_eq_false c6
        have c6b1 : decide (255 < ((rd_T49 l0 x3_1).f0).length) = false := decide_eq_false (by omega)
        clear c6
        obtain ⟨bq7, hbq7⟩ : ∃ b_ : Bool, b_ = ((rd_T49 l0 x3_1).f2) := ⟨_, rfl⟩
        replace H : (if (bq7 = true) then (marigraphref4_May.l0 k1 l0 (wrap64 (x3_1 + 1))) else (if (((rd_T49 l0 x3_1).f1).length : Int) > 4095 then (some false) else (marigraphref4_May.l0 k1 l0 (wrap64 (x3_1 + 1))))) = some r := by rw [← hbq7] at H; exact H
        have Nbq7 := Aside0.mk hbq7
        clear hbq7
        by_cases c8 : (bq7 = true)
        ·subst c8
         have H1 : (marigraphref4_May.l0 k1 l0 (wrap64 (x3_1 + 1))) = some r := by rw [if_pos rfl] at H; exact H
         clear H
         have H := H1
         clear H1
         have H' := Aside0.mk H
         clear H
         have p257 : 0 ≤ (x3_1 : Int) := of_decide_eq_true (by first | (with_reducible assumption) | assumption)
         have q257 : x3_1 < (l0.length : Int) := of_decide_eq_true (by first | (with_reducible assumption) | assumption)
         obtain ⟨ad257, A257_0, c257_0, A257_1, c257_1, e257, hx257_0, hx257_1, hx257_2, hl257_0, hi257_0, hl257_1, hi257_1⟩ := at_T49 HR0.out x3_1 p257 q257
         (try rw [← Nbq7.out] at hx257_2)
         cases e257
         have HR257_0 := Aside0.mk hi257_0
         have HC257_0 := Aside0.mk hl257_0
         clear hi257_0 hl257_0
         have HR257_1 := Aside0.mk hi257_1
         have HC257_1 := Aside0.mk hl257_1
         clear hi257_1 hl257_1
         replace p257 := eq_true p257
         replace q257 := eq_true q257
         have p258 : 0 ≤ (x3_1 : Int) := of_decide_eq_true (by first | (with_reducible assumption) | assumption)
         have q258 : x3_1 < (l0.length : Int) := of_decide_eq_true (by first | (with_reducible assumption) | assumption)
         obtain ⟨ad258, A258_0, c258_0, A258_1, c258_1, e258, hx258_0, hx258_1, hx258_2, hl258_0, hi258_0, hl258_1, hi258_1⟩ := at_T49 HR0.out x3_1 p258 q258
         (try rw [← Nbq7.out] at hx258_2)
         obtain rfl : ad257 = ad258 := (by injection e258)
         have HR258_0 := Aside0.mk hi258_0
         have HC258_0 := Aside0.mk hl258_0
         clear hi258_0 hl258_0
         have HR258_1 := Aside0.mk hi258_1
         have HC258_1 := Aside0.mk hl258_1
         clear hi258_1 hl258_1
         replace p258 := eq_true p258
         replace q258 := eq_true q258
         have ea_ := Option.some.inj (hx257_0.symm.trans hx258_0)
         injection ea_ with ea_ en_ ec_
         subst ea_
         subst ec_
         clear en_
         have ea_ := Option.some.inj (hx257_1.symm.trans hx258_1)
         injection ea_ with ea_ en_ ec_
         subst ea_
         subst ec_
         clear en_
         have p259 : 0 ≤ (x3_1 : Int) := of_decide_eq_true (by first | (with_reducible assumption) | assumption)
         have q259 : x3_1 < (l0.length : Int) := of_decide_eq_true (by first | (with_reducible assumption) | assumption)
         obtain ⟨ad259, A259_0, c259_0, A259_1, c259_1, e259, hx259_0, hx259_1, hx259_2, hl259_0, hi259_0, hl259_1, hi259_1⟩ := at_T49 HR0.out x3_1 p259 q259
         (try rw [← Nbq7.out] at hx259_2)
         obtain rfl : ad257 = ad259 := (by injection e259)
         have HR259_0 := Aside0.mk hi259_0
         have HC259_0 := Aside0.mk hl259_0
         clear hi259_0 hl259_0
         have HR259_1 := Aside0.mk hi259_1
         have HC259_1 := Aside0.mk hl259_1
         clear hi259_1 hl259_1
         replace p259 := eq_true p259
         replace q259 := eq_true q259
         have ea_ := Option.some.inj (hx257_0.symm.trans hx259_0)
         injection ea_ with ea_ en_ ec_
         subst ea_
         subst ec_
         clear en_
         have ea_ := Option.some.inj (hx257_1.symm.trans hx259_1)
         injection ea_ with ea_ en_ ec_
         subst ea_
         subst ec_
         clear en_
         go_wp2
         go_roundg k1
         case measure => have := HK1.out; omega
         case rel => exact ⟨(wrap64 (x3_1 + 1)), (by first | rfl | (simp; done) | (simp [*]; done)), H', ⟨by have := HK1.out; omega⟩, by repeat (first | exact Drawn0.refl _ | apply Drawn0.step)⟩
        ·replace c8 := Bool.eq_false_iff.mpr c8
         subst c8
         have H1 : (if (((rd_T49 l0 x3_1).f1).length : Int) > 4095 then (some false) else (marigraphref4_May.l0 k1 l0 (wrap64 (x3_1 + 1)))) = some r := by rw [if_neg (show ¬ (false = true) by decide)] at H; exact H
         clear H
         have H := H1
         clear H1
         by_cases c9 : (((rd_T49 l0 x3_1).f1).length : Int) > 4095
         ·rw [if_pos c9] at H
          have c9b0 : decide (4095 < (((rd_T49 l0 x3_1).f1).length : Int)) = true := decide_eq_true c9
          have c9b1 : decide (4095 < ((rd_T49 l0 x3_1).f1).length) = true := decide_eq_true (by omega)
          clear c9
          obtain rfl := Option.some.inj H
          have p257 : 0 ≤ (x3_1 : Int) := of_decide_eq_true (by first | (with_reducible assumption) | assumption)
          have q257 : x3_1 < (l0.length : Int) := of_decide_eq_true (by first | (with_reducible assumption) | assumption)
          obtain ⟨ad257, A257_0, c257_0, A257_1, c257_1, e257, hx257_0, hx257_1, hx257_2, hl257_0, hi257_0, hl257_1, hi257_1⟩ := at_T49 HR0.out x3_1 p257 q257
          (try rw [← Nbq7.out] at hx257_2)
          cases e257
          have HR257_0 := Aside0.mk hi257_0
          have HC257_0 := Aside0.mk hl257_0
          clear hi257_0 hl257_0
          have HR257_1 := Aside0.mk hi257_1
          have HC257_1 := Aside0.mk hl257_1
          clear hi257_1 hl257_1
          replace p257 := eq_true p257
          replace q257 := eq_true q257
          have p258 : 0 ≤ (x3_1 : Int) := of_decide_eq_true (by first | (with_reducible assumption) | assumption)
          have q258 : x3_1 < (l0.length : Int) := of_decide_eq_true (by first | (with_reducible assumption) | assumption)
          obtain ⟨ad258, A258_0, c258_0, A258_1, c258_1, e258, hx258_0, hx258_1, hx258_2, hl258_0, hi258_0, hl258_1, hi258_1⟩ := at_T49 HR0.out x3_1 p258 q258
          (try rw [← Nbq7.out] at hx258_2)
          obtain rfl : ad257 = ad258 := (by injection e258)
          have HR258_0 := Aside0.mk hi258_0
          have HC258_0 := Aside0.mk hl258_0
          clear hi258_0 hl258_0
          have HR258_1 := Aside0.mk hi258_1
          have HC258_1 := Aside0.mk hl258_1
          clear hi258_1 hl258_1
          replace p258 := eq_true p258
          replace q258 := eq_true q258
          have ea_ := Option.some.inj (hx257_0.symm.trans hx258_0)
          injection ea_ with ea_ en_ ec_
          subst ea_
          subst ec_
          clear en_
          have ea_ := Option.some.inj (hx257_1.symm.trans hx258_1)
          injection ea_ with ea_ en_ ec_
          subst ea_
          subst ec_
          clear en_
          have p259 : 0 ≤ (x3_1 : Int) := of_decide_eq_true (by first | (with_reducible assumption) | assumption)
          have q259 : x3_1 < (l0.length : Int) := of_decide_eq_true (by first | (with_reducible assumption) | assumption)
          obtain ⟨ad259, A259_0, c259_0, A259_1, c259_1, e259, hx259_0, hx259_1, hx259_2, hl259_0, hi259_0, hl259_1, hi259_1⟩ := at_T49 HR0.out x3_1 p259 q259
          (try rw [← Nbq7.out] at hx259_2)
          obtain rfl : ad257 = ad259 := (by injection e259)
          have HR259_0 := Aside0.mk hi259_0
          have HC259_0 := Aside0.mk hl259_0
          clear hi259_0 hl259_0
          have HR259_1 := Aside0.mk hi259_1
          have HC259_1 := Aside0.mk hl259_1
          clear hi259_1 hl259_1
          replace p259 := eq_true p259
          replace q259 := eq_true q259
          have ea_ := Option.some.inj (hx257_0.symm.trans hx259_0)
          injection ea_ with ea_ en_ ec_
          subst ea_
          subst ec_
          clear en_
          have ea_ := Option.some.inj (hx257_1.symm.trans hx259_1)
          injection ea_ with ea_ en_ ec_
          subst ea_
          subst ec_
          clear en_
          have p260 : 0 ≤ (x3_1 : Int) := of_decide_eq_true (by first | (with_reducible assumption) | assumption)
          have q260 : x3_1 < (l0.length : Int) := of_decide_eq_true (by first | (with_reducible assumption) | assumption)
          obtain ⟨ad260, A260_0, c260_0, A260_1, c260_1, e260, hx260_0, hx260_1, hx260_2, hl260_0, hi260_0, hl260_1, hi260_1⟩ := at_T49 HR0.out x3_1 p260 q260
          (try rw [← Nbq7.out] at hx260_2)
          obtain rfl : ad257 = ad260 := (by injection e260)
          have HR260_0 := Aside0.mk hi260_0
          have HC260_0 := Aside0.mk hl260_0
          clear hi260_0 hl260_0
          have HR260_1 := Aside0.mk hi260_1
          have HC260_1 := Aside0.mk hl260_1
          clear hi260_1 hl260_1
          replace p260 := eq_true p260
          replace q260 := eq_true q260
          have ea_ := Option.some.inj (hx257_0.symm.trans hx260_0)
          injection ea_ with ea_ en_ ec_
          subst ea_
          subst ec_
          clear en_
          have ea_ := Option.some.inj (hx257_1.symm.trans hx260_1)
          injection ea_ with ea_ en_ ec_
          subst ea_
          subst ec_
          clear en_
          go_wp2
          go_ret
          exact ⟨by first | rfl | (simp; done) | (simp [*]; done), by repeat (first | exact Drawn0.refl _ | apply Drawn0.step)⟩
         ·rw [if_neg c9] at H
          have c9b0 : decide (4095 < (((rd_T49 l0 x3_1).f1).length : Int)) = false := decide_eq_false c9
          have c9b1 : decide (4095 < ((rd_T49 l0 x3_1).f1).length) = false := decide_eq_false (by omega)
          clear c9
          have H' := Aside0.mk H
          clear H
          have p257 : 0 ≤ (x3_1 : Int) := of_decide_eq_true (by first | (with_reducible assumption) | assumption)
          have q257 : x3_1 < (l0.length : Int) := of_decide_eq_true (by first | (with_reducible assumption) | assumption)
          obtain ⟨ad257, A257_0, c257_0, A257_1, c257_1, e257, hx257_0, hx257_1, hx257_2, hl257_0, hi257_0, hl257_1, hi257_1⟩ := at_T49 HR0.out x3_1 p257 q257
          (try rw [← Nbq7.out] at hx257_2)
          cases e257
          have HR257_0 := Aside0.mk hi257_0
          have HC257_0 := Aside0.mk hl257_0
          clear hi257_0 hl257_0
          have HR257_1 := Aside0.mk hi257_1
          have HC257_1 := Aside0.mk hl257_1
          clear hi257_1 hl257_1
          replace p257 := eq_true p257
          replace q257 := eq_true q257
          have p258 : 0 ≤ (x3_1 : Int) := of_decide_eq_true (by first | (with_reducible assumption) | assumption)
          have q258 : x3_1 < (l0.length : Int) := of_decide_eq_true (by first | (with_reducible assumption) | assumption)
          obtain ⟨ad258, A258_0, c258_0, A258_1, c258_1, e258, hx258_0, hx258_1, hx258_2, hl258_0, hi258_0, hl258_1, hi258_1⟩ := at_T49 HR0.out x3_1 p258 q258
          (try rw [← Nbq7.out] at hx258_2)
          obtain rfl : ad257 = ad258 := (by injection e258)
          have HR258_0 := Aside0.mk hi258_0
          have HC258_0 := Aside0.mk hl258_0
          clear hi258_0 hl258_0
          have HR258_1 := Aside0.mk hi258_1
          have HC258_1 := Aside0.mk hl258_1
          clear hi258_1 hl258_1
          replace p258 := eq_true p258
          replace q258 := eq_true q258
          have ea_ := Option.some.inj (hx257_0.symm.trans hx258_0)
          injection ea_ with ea_ en_ ec_
          subst ea_
          subst ec_
          clear en_
          have ea_ := Option.some.inj (hx257_1.symm.trans hx258_1)
          injection ea_ with ea_ en_ ec_
          subst ea_
          subst ec_
          clear en_
          have p259 : 0 ≤ (x3_1 : Int) := of_decide_eq_true (by first | (with_reducible assumption) | assumption)
          have q259 : x3_1 < (l0.length : Int) := of_decide_eq_true (by first | (with_reducible assumption) | assumption)
          obtain ⟨ad259, A259_0, c259_0, A259_1, c259_1, e259, hx259_0, hx259_1, hx259_2, hl259_0, hi259_0, hl259_1, hi259_1⟩ := at_T49 HR0.out x3_1 p259 q259
          (try rw [← Nbq7.out] at hx259_2)
          obtain rfl : ad257 = ad259 := (by injection e259)
          have HR259_0 := Aside0.mk hi259_0
          have HC259_0 := Aside0.mk hl259_0
          clear hi259_0 hl259_0
          have HR259_1 := Aside0.mk hi259_1
          have HC259_1 := Aside0.mk hl259_1
          clear hi259_1 hl259_1
          replace p259 := eq_true p259
          replace q259 := eq_true q259
          have ea_ := Option.some.inj (hx257_0.symm.trans hx259_0)
          injection ea_ with ea_ en_ ec_
          subst ea_
          subst ec_
          clear en_
          have ea_ := Option.some.inj (hx257_1.symm.trans hx259_1)
          injection ea_ with ea_ en_ ec_
          subst ea_
          subst ec_
          clear en_
          have p260 : 0 ≤ (x3_1 : Int) := of_decide_eq_true (by first | (with_reducible assumption) | assumption)
          have q260 : x3_1 < (l0.length : Int) := of_decide_eq_true (by first | (with_reducible assumption) | assumption)
          obtain ⟨ad260, A260_0, c260_0, A260_1, c260_1, e260, hx260_0, hx260_1, hx260_2, hl260_0, hi260_0, hl260_1, hi260_1⟩ := at_T49 HR0.out x3_1 p260 q260
          (try rw [← Nbq7.out] at hx260_2)
          obtain rfl : ad257 = ad260 := (by injection e260)
          have HR260_0 := Aside0.mk hi260_0
          have HC260_0 := Aside0.mk hl260_0
          clear hi260_0 hl260_0
          have HR260_1 := Aside0.mk hi260_1
          have HC260_1 := Aside0.mk hl260_1
          clear hi260_1 hl260_1
          replace p260 := eq_true p260
          replace q260 := eq_true q260
          have ea_ := Option.some.inj (hx257_0.symm.trans hx260_0)
          injection ea_ with ea_ en_ ec_
          subst ea_
          subst ec_
          clear en_
          have ea_ := Option.some.inj (hx257_1.symm.trans hx260_1)
          injection ea_ with ea_ en_ ec_
          subst ea_
          subst ec_
          clear en_
          go_wp2
          go_roundg k1
          case measure => have := HK1.out; omega
          case rel => exact ⟨(wrap64 (x3_1 + 1)), (by first | rfl | (simp; done) | (simp [*]; done)), H', ⟨by have := HK1.out; omega⟩, by repeat (first | exact Drawn0.refl _ | apply Drawn0.step)⟩
     ·rw [if_neg c4] at H
      exact absurd H (by simp)
    ·rw [if_neg c3] at H
     have c3b0 : decide (x3_1 < (l0.length : Int)) = false := decide_eq_false c3
     clear c3
     obtain rfl := Option.some.inj H
     go_wp2
     go_ret
     exact ⟨by first | rfl | (simp; done) | (simp [*]; done), by repeat (first | exact Drawn0.refl _ | apply Drawn0.step)⟩

/-! ### marigraphlaw4_batch: function 35 -/
def marigraphlaw4_batch.f (k : Nat) (l0 : List (S49)) : Option (Bool) := (frame_Batch.f k l0).bind fun bt261 => ((marigraphref4_May.f k l0).bind fun t265 => (if t265 = true then (if bt261.2 = 0 then ((marigraphref4_Batch.f k l0).bind fun t266 => (some ((strOfNums bt261.1).toList == (strOfNums t266).toList))) else (some false)) else (if bt261.2 = 3 then (some ((bt261.1.length : Int) == 0)) else (some false))))
theorem marigraphlaw4_batch.mono : ∀ a0 k, LeO (marigraphlaw4_batch.f k a0) (marigraphlaw4_batch.f (k + 1) a0) := by
 intro a0 k
 unfold marigraphlaw4_batch.f
 repeat' first
   | (with_reducible exact frame_Batch.mono _ _)
   | (with_reducible exact marigraphref4_Batch.mono _ _)
   | (with_reducible exact marigraphref4_May.mono _ _)
   | (with_reducible exact LeO.refl _)
   | (with_reducible exact LeO.none _)
   | (with_reducible refine LeO.ite ?_ ?_)
   | (with_reducible refine LeO.bind ?_ (fun _ => ?_))
   | exact frame_Batch.mono _ _
   | exact marigraphref4_Batch.mono _ _
   | exact marigraphref4_May.mono _ _
   | exact LeO.none _
   | refine LeO.ite ?_ ?_
   | refine LeO.bind ?_ (fun _ => ?_)
def marigraphlaw4_batch.T4 : Bool × List (List Nat × List Nat) := (true, [([], []), ([0], [0]), ([1], [1]), ([2], [2]), ([3, 2], [2, 3]), ([2], [2]), ([5, 2, 2], [2, 5]), ([6, 2], [2, 6]), ([4, 7, 2], [2, 4, 7]), ([2, 8], [2, 8]), ([9, 6, 0, 1, 2, 3, 4, 5, 6, 7, 8, 9], [9])])
def marigraphlaw4_batch.B4 : List Nat := [0, 1, 3, 7, 15, 7, 39, 103, 255, 511, 1023]
theorem marigraphlaw4_batch.tab4 : rtab .any (opsOf Try.f35 4) = marigraphlaw4_batch.T4 := by kernel_rfl
theorem marigraphlaw4_batch.bits4 : waitsOk marigraphlaw4_batch.T4.2 marigraphlaw4_batch.B4 = true := by kernel_rfl
set_option maxHeartbeats 8000000 in
set_option maxRecDepth 100000 in
theorem marigraphlaw4_batch.calls (k : Nat) (A0 : Option Addr) (c0 : Nat) (l0 : List (S49)) (r : Bool) (w : World) (hr0 : Kd.C k49 w A0 l0.length l0) (hc0 : l0.length ≤ c0) (h : marigraphlaw4_batch.f k l0 = some r) :
  Calls Try.prog 35 #[.slice A0 l0.length c0] w fun e w' => e = .returned (.bool r) ∧ Below w.heap.size w w' := by
 have HR0 := Aside0.mk hr0
 have HC0 := Aside0.mk hc0
 clear hr0 hc0
 have HB := Aside0.mk (Below.refl w.heap.size w)
 have H : ((frame_Batch.f k l0).bind fun bt261 => ((marigraphref4_May.f k l0).bind fun t265 => (if t265 = true then (if bt261.2 = 0 then ((marigraphref4_Batch.f k l0).bind fun t266 => (some ((strOfNums bt261.1).toList == (strOfNums t266).toList))) else (some false)) else (if bt261.2 = 3 then (some ((bt261.1.length : Int) == 0)) else (some false))))) = some r := h
 clear h
 replace H := Option.bind_eq_some_iff.mp H
 obtain ⟨⟨t261, t262⟩, A20, H⟩ := H
 replace H : ((marigraphref4_May.f k l0).bind fun t265 => (if t265 = true then (if t262 = 0 then ((marigraphref4_Batch.f k l0).bind fun t266 => (some ((strOfNums t261).toList == (strOfNums t266).toList))) else (some false)) else (if t262 = 3 then (some ((t261.length : Int) == 0)) else (some false)))) = some r := H
 have A2 := Aside0.mk A20
 clear A20
 replace H := Option.bind_eq_some_iff.mp H
 obtain ⟨t265, A30, H⟩ := H
 replace H : (if t265 = true then (if t262 = 0 then ((marigraphref4_Batch.f k l0).bind fun t266 => (some ((strOfNums t261).toList == (strOfNums t266).toList))) else (some false)) else (if t262 = 3 then (some ((t261.length : Int) == 0)) else (some false))) = some r := H
 have A3 := Aside0.mk A30
 clear A30
 by_cases c4 : t265 = true
 ·subst c4
  have H1 : (if t262 = 0 then ((marigraphref4_Batch.f k l0).bind fun t266 => (some ((strOfNums t261).toList == (strOfNums t266).toList))) else (some false)) = some r := by rw [if_pos rfl] at H; exact H
  clear H
  have H := H1
  clear H1
  by_cases c5 : t262 = 0
  ·rw [if_pos c5] at H
   have c5b0 : (t262 == 0) = true := beq_iff_eq.mpr c5
   have c5b1 : (t262 != 0) = false := bne_eq_false_iff_eq.mpr c5
   clear c5
   replace H := Option.bind_eq_some_iff.mp H
   obtain ⟨t266, A60, H⟩ := H
   replace H : (some ((strOfNums t261).toList == (strOfNums t266).toList)) = some r := H
   have A6 := Aside0.mk A60
   clear A60
   obtain rfl := Option.some.inj H
   go_enter Try.func35, Try.ntmps35
   try go_wp2_with (first | ((with_reducible refine gate_callee (f := 22) rfl ?_); refine goesL_ (some 7) rfl rfl Try.func22 (by kernel_rfl) rfl #[.slice A0 l0.length c0] rfl argN ?_; (with_reducible refine (frame_Batch.calls k _ _ l0 t261 t262 _ ?side1 ?side2 A2.out).mono ?_); (case side1 => repeat (first | exact HR0.out | (with_reducible refine Kd.C_alloc ?_ _) | (with_reducible refine Kd.C_drewN ?_ _) | (with_reducible refine Kd.C_drew ?_))); (case side2 => exact HC0.out); rintro e w7 ⟨v263, rfl, ho0, hb⟩; refine ⟨_, rfl, ?_⟩; have n0_ := Aside0.mk (Kd.R_lower ho0 (below_size (belN HB.out))); have n1_ := Aside0.mk (below_step (belN HB.out) hb); clear HB; have HO264 := n0_; have HB := n1_; clear n0_ n1_; (try clear hb); (try clear ho0)) | ((with_reducible refine gate_callee (f := 55) rfl ?_); refine goesL_ (some 11) rfl rfl Try.func55 (by kernel_rfl) rfl #[.slice A0 l0.length c0] rfl argN ?_; (with_reducible refine (marigraphref4_May.calls k _ _ l0 true _ ?side1 ?side2 A3.out).mono ?_); (case side1 => repeat (first | exact (Kd.C_below HR0.out HB.out) | (with_reducible refine Kd.C_alloc ?_ _) | (with_reducible refine Kd.C_drewN ?_ _) | (with_reducible refine Kd.C_drew ?_))); (case side2 => exact HC0.out); rintro e w' ⟨rfl, ⟨nd, rfl⟩⟩; refine ⟨_, rfl, ?_⟩))
   (try (rw [drewN_self w7]; generalize hq_ : World.drewN w7 _ = w7; have n0_ := Aside0.mk (Kd.R_at hq_ HO264.out); have n1_ := Aside0.mk (below_at hq_ HB.out); clear hq_ HO264 HB; have HO264 := n0_; have HB := n1_; clear n0_ n1_))
   have n0_ := Aside0.mk (Kd.R_drew HO264.out)
   have n1_ := Aside0.mk (below_drew1 HB.out)
   clear HO264
   clear HB
   have HO264 := n0_
   have HB := n1_
   clear n0_ n1_
   refine start_ (n := 11) (S := fun w' => (convert 23 9 (v263)).run Try.prog w' = .ok (.string (strOfNums t261)) w') (ds := []) #[false, false, false, false, false, false, false, false, false, false, false] (by kernel_rfl) rfl rfl ((own_string (P := Try.prog) Try.underlying23 Try.underlying5 Try.underlying9 (Kd.own_of_R HO264.out))) (fun hHeld => ?_); refine with_tabW marigraphlaw4_batch.tab4 marigraphlaw4_batch.bits4 (fun HT_ HW_ => ?_)
   generalize w7.drew = w8 at HO264 HB hHeld ⊢
   have HV9 := HO264
   refine pA 0 (some 20) (bA 11 1) HT_.out ?_
   refine pA 1 (some 21) (bA 11 3) HT_.out ?_
   refine pA 2 (some 22) (bA 11 7) HT_.out ?_
   refine pA 3 (some 23) (bA 11 15) HT_.out ?_
   refine pA 5 (some 25) (bA 11 47) HT_.out ?_
   refine take_ (i := 4) (N := some 24) (v := ?_) (a' := ?_) (bA 11 63) rfl rfl (take_ofW HT_.out HW_.out (by kernel_rfl)) (fun _ _ _ h => h) (Or.inl ⟨by rfl, ?_⟩) hHeld ?_ ?_
   rotate_left
   ·intro w' s0
    go_simp
    with_reducible rfl
   rotate_left
   ·simp only [Act.put, List.setIfInBounds_toArray, List.set_cons_zero, List.set_cons_succ, i64_w, i32_w]
    rfl
   refine one_ (i := 6) (N := some 26) (bA 11 127) rfl rfl (one_of HT_.out (by kernel_rfl)) (by decide) (fun K hK => ?_)
   refine goes_ Try.func34 (by kernel_rfl) rfl #[.slice A0 l0.length c0] (by rfl) rfl rfl argN ?_
   with_reducible refine (marigraphref4_Batch.calls k _ _ l0 t266 _ ?side1 ?side2 A6.out).mono ?_
   (case side1 => repeat (first | exact (Kd.C_below HR0.out HB.out) | (with_reducible refine Kd.C_alloc ?_ _) | (with_reducible refine Kd.C_drewN ?_ _) | (with_reducible refine Kd.C_drew ?_)))
   (case side2 => exact HC0.out)
   rintro e w10 ⟨v267, rfl, ho0, hb⟩
   have HV9 := Aside0.mk (Kd.R_below (rowN HV9.out) hb)
   refine ⟨_, rfl, ?_⟩
   have n0_ := Aside0.mk (Kd.R_elder' (rowN HO264.out) (Kd.R_base ho0) hb)
   have n1_ := Aside0.mk (Kd.R_lower (Kd.R_new' ho0 (Kd.R_lt (rowN HO264.out))) (below_size (belN HB.out)))
   have n2_ := Aside0.mk (below_step (belN HB.out) hb)
   clear HO264
   clear HB
   have HO264 := n0_
   have HO268 := n1_
   have HB := n2_
   clear n0_ n1_ n2_
   (try clear hb)
   (try clear ho0)
   refine hK.out _ _ ((own_string (P := Try.prog) Try.underlying23 Try.underlying5 Try.underlying9 (Kd.own_of_R (rowN HV9.out)))) (fun hHeld => ?_)
   clear hK K
   refine norm_ (a' := ?_) ?_ ?_
   rotate_left
   ·show Act.put _ (some 26) _ = _
    simp only [Act.put, List.setIfInBounds_toArray, List.set_cons_zero, List.set_cons_succ, i64_w, i32_w]
    rfl
   refine one_ (i := 7) (N := some 27) (bA 11 255) rfl rfl (one_of HT_.out (by kernel_rfl)) (by decide) (fun K hK => ?_)
   have hcv11 := own_string (P := Try.prog) Try.underlying23 Try.underlying5 Try.underlying9 (Kd.own_of_R HO268.out)
   refine value_ (w1 := ?_) (v := ?_) (by rfl) rfl ?_ ?_
   rotate_left 2
   ·go_simp
    constructor
    ·rfl
    ·rfl
   clear hcv11
   refine hK.out _ _ ((own_string (P := Try.prog) Try.underlying23 Try.underlying5 Try.underlying9 (Kd.own_of_R (rowN HV9.out)))) (fun hHeld => ?_)
   clear hK K
   refine norm_ (a' := ?_) ?_ ?_
   rotate_left
   ·show Act.put _ (some 27) _ = _
    simp only [Act.put, List.setIfInBounds_toArray, List.set_cons_zero, List.set_cons_succ, i64_w, i32_w]
    rfl
   refine pA 8 (some 28) (bA 11 511) HT_.out ?_
   refine pA 9 (some 29) (bA 11 1023) HT_.out ?_
   refine pA 10 (some 2) (bA 11 2047) HT_.out ?_
   refine done_ (done_of HT_.out (by kernel_rfl)) ?_
   try go_wp2
   go_ret
   exact ⟨by first | rfl | (simp [errW_none, errW_some] <;> rfl) | (simp [*, errW_none, errW_some] <;> rfl), (belN HB.out)⟩
  ·rw [if_neg c5] at H
   have c5b0 : (t262 == 0) = false := beq_eq_false_iff_ne.mpr c5
   have c5b1 : (t262 != 0) = true := bne_iff_ne.mpr c5
   obtain rfl := Option.some.inj H
   go_enter Try.func35, Try.ntmps35
   try go_wp2_with (first | ((with_reducible refine gate_callee (f := 22) rfl ?_); refine goesL_ (some 7) rfl rfl Try.func22 (by kernel_rfl) rfl #[.slice A0 l0.length c0] rfl argN ?_; (with_reducible refine (frame_Batch.calls k _ _ l0 t261 t262 _ ?side1 ?side2 A2.out).mono ?_); (case side1 => repeat (first | exact HR0.out | (with_reducible refine Kd.C_alloc ?_ _) | (with_reducible refine Kd.C_drewN ?_ _) | (with_reducible refine Kd.C_drew ?_))); (case side2 => exact HC0.out); rintro e w13 ⟨v263, rfl, ho0, hb⟩; refine ⟨_, rfl, ?_⟩; have n0_ := Aside0.mk (Kd.R_lower ho0 (below_size (belN HB.out))); have n1_ := Aside0.mk (below_step (belN HB.out) hb); clear HB; have HO264 := n0_; have HB := n1_; clear n0_ n1_; (try clear hb); (try clear ho0)) | ((with_reducible refine gate_callee (f := 55) rfl ?_); refine goesL_ (some 11) rfl rfl Try.func55 (by kernel_rfl) rfl #[.slice A0 l0.length c0] rfl argN ?_; (with_reducible refine (marigraphref4_May.calls k _ _ l0 true _ ?side1 ?side2 A3.out).mono ?_); (case side1 => repeat (first | exact (Kd.C_below HR0.out HB.out) | (with_reducible refine Kd.C_alloc ?_ _) | (with_reducible refine Kd.C_drewN ?_ _) | (with_reducible refine Kd.C_drew ?_))); (case side2 => exact HC0.out); rintro e w' ⟨rfl, ⟨nd, rfl⟩⟩; refine ⟨_, rfl, ?_⟩))
   (try (rw [drewN_self w13]; generalize hq_ : World.drewN w13 _ = w13; have n0_ := Aside0.mk (Kd.R_at hq_ HO264.out); have n1_ := Aside0.mk (below_at hq_ HB.out); clear hq_ HO264 HB; have HO264 := n0_; have HB := n1_; clear n0_ n1_))
   have n0_ := Aside0.mk (Kd.R_drew HO264.out)
   have n1_ := Aside0.mk (below_drew1 HB.out)
   clear HO264
   clear HB
   have HO264 := n0_
   have HB := n1_
   clear n0_ n1_
   refine start_ (n := 11) (S := fun w' => True) (ds := []) #[false, false, false, false, false, false, false, false, false, false, false] (by kernel_rfl) rfl rfl trivial (fun hHeld => ?_); refine with_tabW marigraphlaw4_batch.tab4 marigraphlaw4_batch.bits4 (fun HT_ HW_ => ?_)
   generalize w13.drew = w14 at HO264 HB hHeld ⊢
   refine pA 0 (some 20) (bA 11 1) HT_.out ?_
   refine pA 1 (some 21) (bA 11 3) HT_.out ?_
   refine pA 2 (some 22) (bA 11 7) HT_.out ?_
   refine pU 3 (some 23) (bA 11 15) HT_.out ?_
   refine pU 4 (some 24) (bA 11 31) HT_.out ?_
   refine pU 5 (some 25) (bA 11 63) HT_.out ?_
   refine pU 6 (some 26) (bA 11 127) HT_.out ?_
   refine pU 7 (some 27) (bA 11 255) HT_.out ?_
   refine pU 8 (some 28) (bA 11 511) HT_.out ?_
   refine pA 9 (some 29) (bA 11 1023) HT_.out ?_
   refine pA 10 (some 2) (bA 11 2047) HT_.out ?_
   refine done_ (done_of HT_.out (by kernel_rfl)) ?_
   try go_wp2
   go_ret
   exact ⟨by first | rfl | (simp [errW_none, errW_some] <;> rfl) | (simp [*, errW_none, errW_some] <;> rfl), (belN HB.out)⟩
 ·replace c4 := Bool.eq_false_iff.mpr c4
  subst c4
  have H1 : (if t262 = 3 then (some ((t261.length : Int) == 0)) else (some false)) = some r := by rw [if_neg (show ¬ (false = true) by decide)] at H; exact H
  clear H
  have H := H1
  clear H1
  by_cases c15 : t262 = 3
  ·rw [if_pos c15] at H
   have c15b0 : (t262 == 3) = true := beq_iff_eq.mpr c15
   have c15b1 : (t262 != 3) = false := bne_eq_false_iff_eq.mpr c15
   clear c15
   obtain rfl := Option.some.inj H
   go_enter Try.func35, Try.ntmps35
   go_wp2_with (first | ((with_reducible refine gate_callee (f := 22) rfl ?_); refine goesL_ (some 7) rfl rfl Try.func22 (by kernel_rfl) rfl #[.slice A0 l0.length c0] rfl argN ?_; (with_reducible refine (frame_Batch.calls k _ _ l0 t261 t262 _ ?side1 ?side2 A2.out).mono ?_); (case side1 => repeat (first | exact HR0.out | (with_reducible refine Kd.C_alloc ?_ _) | (with_reducible refine Kd.C_drewN ?_ _) | (with_reducible refine Kd.C_drew ?_))); (case side2 => exact HC0.out); rintro e w16 ⟨v263, rfl, ho0, hb⟩; refine ⟨_, rfl, ?_⟩; have n0_ := Aside0.mk (Kd.R_lower ho0 (below_size (belN HB.out))); have n1_ := Aside0.mk (below_step (belN HB.out) hb); clear HB; have HO264 := n0_; have HB := n1_; clear n0_ n1_; (try clear hb); (try clear ho0)) | ((with_reducible refine gate_callee (f := 55) rfl ?_); refine goesL_ (some 11) rfl rfl Try.func55 (by kernel_rfl) rfl #[.slice A0 l0.length c0] rfl argN ?_; (with_reducible refine (marigraphref4_May.calls k _ _ l0 false _ ?side1 ?side2 A3.out).mono ?_); (case side1 => repeat (first | exact (Kd.C_below HR0.out HB.out) | (with_reducible refine Kd.C_alloc ?_ _) | (with_reducible refine Kd.C_drewN ?_ _) | (with_reducible refine Kd.C_drew ?_))); (case side2 => exact HC0.out); rintro e w' ⟨rfl, ⟨nd, rfl⟩⟩; refine ⟨_, rfl, ?_⟩; obtain ⟨Ao17, co17, eo17⟩ := Kd.R_slice HO264.out; subst eo17))
   go_ret
   exact ⟨by first | rfl | (simp [errW_none, errW_some] <;> rfl) | (simp [*, errW_none, errW_some] <;> rfl), (belN HB.out)⟩
  ·rw [if_neg c15] at H
   have c15b0 : (t262 == 3) = false := beq_eq_false_iff_ne.mpr c15
   have c15b1 : (t262 != 3) = true := bne_iff_ne.mpr c15
   obtain rfl := Option.some.inj H
   go_enter Try.func35, Try.ntmps35
   go_wp2_with (first | ((with_reducible refine gate_callee (f := 22) rfl ?_); refine goesL_ (some 7) rfl rfl Try.func22 (by kernel_rfl) rfl #[.slice A0 l0.length c0] rfl argN ?_; (with_reducible refine (frame_Batch.calls k _ _ l0 t261 t262 _ ?side1 ?side2 A2.out).mono ?_); (case side1 => repeat (first | exact HR0.out | (with_reducible refine Kd.C_alloc ?_ _) | (with_reducible refine Kd.C_drewN ?_ _) | (with_reducible refine Kd.C_drew ?_))); (case side2 => exact HC0.out); rintro e w18 ⟨v263, rfl, ho0, hb⟩; refine ⟨_, rfl, ?_⟩; have n0_ := Aside0.mk (Kd.R_lower ho0 (below_size (belN HB.out))); have n1_ := Aside0.mk (below_step (belN HB.out) hb); clear HB; have HO264 := n0_; have HB := n1_; clear n0_ n1_; (try clear hb); (try clear ho0)) | ((with_reducible refine gate_callee (f := 55) rfl ?_); refine goesL_ (some 11) rfl rfl Try.func55 (by kernel_rfl) rfl #[.slice A0 l0.length c0] rfl argN ?_; (with_reducible refine (marigraphref4_May.calls k _ _ l0 false _ ?side1 ?side2 A3.out).mono ?_); (case side1 => repeat (first | exact (Kd.C_below HR0.out HB.out) | (with_reducible refine Kd.C_alloc ?_ _) | (with_reducible refine Kd.C_drewN ?_ _) | (with_reducible refine Kd.C_drew ?_))); (case side2 => exact HC0.out); rintro e w' ⟨rfl, ⟨nd, rfl⟩⟩; refine ⟨_, rfl, ?_⟩))
   go_ret
   exact ⟨by first | rfl | (simp [errW_none, errW_some] <;> rfl) | (simp [*, errW_none, errW_some] <;> rfl), (belN HB.out)⟩

end Go.Proofs.Ytmimfnangdabmaa.PFrameNumbers

/- The walk of the Go functions that a law reaches, told as plain functions; a program of this session has written it. No condition beyond the statement's own. -/
import Derived.Test.YtlmcnlaopolinaaPRateTellsx0
import Derived.Test.YtlmcnlaopolinaaPRateTellsx1
import Derived.Test.YtlmcnlaopolinaaPRateTellsx2
import Derived.Test.YtlmcnlaopolinaaPRateTellsx3
import Derived.Test.YtlmcnlaopolinaaPRateTellsx8
import Derived.Test.YtlmcnlaopolinaaPRateTellsx13
namespace Go.Proofs.Ytlmcnlaopolinaa.PRateTells
open Go.RowKit Go.Proofs.YtlmcnlaopolinaaW.PrintWords Go.Proofs.YtlmcnlaopolinaaW.PrintLast Go.Proofs.YtlmcnlaopolinaaW.PrintMore
attribute [local go_sem] max2_int min2_int max_two min_two max_three min_three max_four min_four   -- for this text's walks alone
set_option linter.unusedVariables false
set_option linter.unusedSimpArgs false

attribute [local go_sem high] eqA24 eqA26
/-! ### marigraphref21_Same: function 20 -/
def marigraphref21_Same.l0 : Nat → List (S26) → List (S26) → Int → Option (Bool)
 | 0, _, _, _ => none
 | k + 1, x0, x1, x5 => if x5 < (x0.length : Int) then (if 0 ≤ x5 then (if x5 < (x1.length : Int) then (if (!(((rd_T26 x0 x5).f0) == ((rd_T26 x1 x5).f0)) || ((!(((rd_T26 x0 x5).f1.f0) == ((rd_T26 x1 x5).f1.f0)) || (!(((rd_T26 x0 x5).f1.f1) == ((rd_T26 x1 x5).f1.f1)))))) = true then (some false) else (marigraphref21_Same.l0 k x0 x1 (wrap64 (x5 + 1)))) else (none)) else (none)) else (some true)
def marigraphref21_Same.f (k : Nat) (l0 : List (S26)) (l1 : List (S26)) : Option (Bool) := if (l0.length : Int) = (l1.length : Int) then (marigraphref21_Same.l0 k l0 l1 0) else (some false)
theorem marigraphref21_Same.mono_l : ∀ k, (∀ y0 y1 y2, LeO (marigraphref21_Same.l0 k y0 y1 y2) (marigraphref21_Same.l0 (k + 1) y0 y1 y2))
 | 0 => fun _ _ _ r h => by simp [marigraphref21_Same.l0] at h
 | k + 1 => by
  have ih0 := marigraphref21_Same.mono_l k
  ·intro y0 y1 y2
   unfold marigraphref21_Same.l0
   repeat' first
   | (with_reducible exact ih0 _ _ _)
   | (with_reducible exact LeO.refl _)
   | (with_reducible exact LeO.none _)
   | (with_reducible refine LeO.ite ?_ ?_)
   | (with_reducible refine LeO.bind ?_ (fun _ => ?_))
   | exact ih0 _ _ _
   | exact LeO.none _
   | refine LeO.ite ?_ ?_
   | refine LeO.bind ?_ (fun _ => ?_)
theorem marigraphref21_Same.mono : ∀ a0 a1 k, LeO (marigraphref21_Same.f k a0 a1) (marigraphref21_Same.f (k + 1) a0 a1) := by
 intro a0 a1 k
 have ih0 := marigraphref21_Same.mono_l k
 unfold marigraphref21_Same.f
 repeat' first
   | (with_reducible exact ih0 _ _ _)
   | (with_reducible exact LeO.refl _)
   | (with_reducible exact LeO.none _)
   | (with_reducible refine LeO.ite ?_ ?_)
   | (with_reducible refine LeO.bind ?_ (fun _ => ?_))
   | exact ih0 _ _ _
   | exact LeO.none _
   | refine LeO.ite ?_ ?_
   | refine LeO.bind ?_ (fun _ => ?_)
set_option maxHeartbeats 8000000 in
set_option maxRecDepth 100000 in
theorem marigraphref21_Same.calls (k : Nat) (A0 : Option Addr) (c0 : Nat) (l0 : List (S26)) (A1 : Option Addr) (c1 : Nat) (l1 : List (S26)) (r : Bool) (w : World) (hr0 : Kd.C k26 w A0 l0.length l0) (hc0 : l0.length ≤ c0) (hr1 : Kd.C k26 w A1 l1.length l1) (hc1 : l1.length ≤ c1) (h : marigraphref21_Same.f k l0 l1 = some r) :
  Calls Try.prog 20 #[.slice A0 l0.length c0, .slice A1 l1.length c1] w fun e w' => e = .returned (.bool r) ∧ Drawn0 w w' := by
 have hu26 := Try.underlying26
 have HR0 := Aside0.mk hr0
 have HC0 := Aside0.mk hc0
 clear hr0 hc0
 have HR1 := Aside0.mk hr1
 have HC1 := Aside0.mk hc1
 clear hr1 hc1
 have H : (if (l0.length : Int) = (l1.length : Int) then (marigraphref21_Same.l0 k l0 l1 0) else (some false)) = some r := h
 clear h
 by_cases c3 : (l0.length : Int) = (l1.length : Int)
 ·rw [if_pos c3] at H
  have c3b0 : ((l0.length : Int) == (l1.length : Int)) = true := beq_iff_eq.mpr c3
  have c3b1 : ((l0.length : Int) != (l1.length : Int)) = false := bne_eq_false_iff_eq.mpr c3
  have c3b2 : (l0.length == l1.length) = true := by first | simpa using c3 | (simp at c3 ⊢; omega)
  clear c3
  have H' := Aside0.mk H
  clear H
  go_enter Try.func20, Try.ntmps20
  go_wp2
  repeat (go_quiet (fail); try go_wp2)
  go_loopg [5] k (fun kq v5 w' => ∃ (x5_1 : Int), v5 = .int .i64 x5_1 ∧ Aside0 (marigraphref21_Same.l0 kq l0 l1 x5_1 = some r) ∧ Aside0 (kq ≤ k) ∧ Drawn0 w w')
  case atStart => exact ⟨(0), (by first | rfl | (simp; done) | (simp [*]; done)), H', ⟨Nat.le_refl _⟩, by repeat (first | exact Drawn0.refl _ | apply Drawn0.step)⟩
  case round =>
   clear H'
   try clear c1
   try clear c2
   try clear p2
   try clear c3
   try clear c3b0
   try clear c3b1
   try clear c3b2
   obtain ⟨x5_1, rfl, HA, HK1, ⟨m1, rfl⟩⟩ := hrel
   cases gk with
   | zero => exact absurd HA.out (by simp [marigraphref21_Same.l0])
   | succ k1 =>
    have H := HA.out
    clear HA
    simp only [marigraphref21_Same.l0] at H
    by_cases c4 : x5_1 < (l0.length : Int)
    ·rw [if_pos c4] at H
     have c4b0 : decide (x5_1 < (l0.length : Int)) = true := decide_eq_true c4
     clear c4
     by_cases c5 : 0 ≤ x5_1
     ·rw [if_pos c5] at H
      have c5b0 : decide (0 ≤ x5_1) = true := decide_eq_true c5
      clear c5
      by_cases c6 : x5_1 < (l1.length : Int)
      ·rw [if_pos c6] at H
       have c6b0 : decide (x5_1 < (l1.length : Int)) = true := decide_eq_true c6
       clear c6
       by_cases c7 : (!(((rd_T26 l0 x5_1).f0) == ((rd_T26 l1 x5_1).f0)) || ((!(((rd_T26 l0 x5_1).f1.f0) == ((rd_T26 l1 x5_1).f1.f0)) || (!(((rd_T26 l0 x5_1).f1.f1) == ((rd_T26 l1 x5_1).f1.f1)))))) = true
       ·rw [if_pos c7] at H
        have c7b0 : (!(((rd_T26 l0 x5_1).f0) == ((rd_T26 l1 x5_1).f0)) || ((!(((rd_T26 l0 x5_1).f1.f0) == ((rd_T26 l1 x5_1).f1.f0)) || (!(((rd_T26 l0 x5_1).f1.f1) == ((rd_T26 l1 x5_1).f1.f1)))))) = true := c7
        clear c7
        obtain rfl := Option.some.inj H
        have p298 : 0 ≤ (x5_1 : Int) := of_decide_eq_true (by first | (with_reducible assumption) | assumption)
        have q298 : x5_1 < (l0.length : Int) := of_decide_eq_true (by first | (with_reducible assumption) | assumption)
        obtain ⟨ad298, e298, hx298_0, hx298_1, hx298_2⟩ := at_T26 HR0.out x5_1 p298 q298
        cases e298
        replace p298 := eq_true p298
        replace q298 := eq_true q298
        have p299 : 0 ≤ (x5_1 : Int) := of_decide_eq_true (by first | (with_reducible assumption) | assumption)
        have q299 : x5_1 < (l1.length : Int) := of_decide_eq_true (by first | (with_reducible assumption) | assumption)
        obtain ⟨ad299, e299, hx299_0, hx299_1, hx299_2⟩ := at_T26 HR1.out x5_1 p299 q299
        cases e299
        replace p299 := eq_true p299
        replace q299 := eq_true q299
        go_wp2
        repeat (go_quiet (fail); try go_wp2)
        go_ret
        exact ⟨by first | rfl | (simp; done) | (simp [*]; done), by repeat (first | exact Drawn0.refl _ | apply Drawn0.step)⟩
       ·rw [if_neg c7] at H
        have c7b0 : (!(((rd_T26 l0 x5_1).f0) == ((rd_T26 l1 x5_1).f0)) || ((!(((rd_T26 l0 x5_1).f1.f0) == ((rd_T26 l1 x5_1).f1.f0)) || (!(((rd_T26 l0 x5_1).f1.f1) == ((rd_T26 l1 x5_1).f1.f1)))))) = false := by simpa using c7
        clear c7
        have H' := Aside0.mk H
        clear H
        have p298 : 0 ≤ (x5_1 : Int) := of_decide_eq_true (by first | (with_reducible assumption) | assumption)
        have q298 : x5_1 < (l0.length : Int) := of_decide_eq_true (by first | (with_reducible assumption) | assumption)
        obtain ⟨ad298, e298, hx298_0, hx298_1, hx298_2⟩ := at_T26 HR0.out x5_1 p298 q298
        cases e298
        replace p298 := eq_true p298
        replace q298 := eq_true q298
        have p299 : 0 ≤ (x5_1 : Int) := of_decide_eq_true (by first | (with_reducible assumption) | assumption)
        have q299 : x5_1 < (l1.length : Int) := of_decide_eq_true (by first | (with_reducible assumption) | assumption)
        obtain ⟨ad299, e299, hx299_0, hx299_1, hx299_2⟩ := at_T26 HR1.out x5_1 p299 q299
        cases e299
        replace p299 := eq_true p299
        replace q299 := eq_true q299
        go_wp2
        repeat (go_quiet (fail); try go_wp2)
        go_roundg k1
        case measure => have := HK1.out; omega
        case rel => exact ⟨(wrap64 (x5_1 + 1)), (by first | rfl | (simp; done) | (simp [*]; done)), H', ⟨by have := HK1.out; omega⟩, by repeat (first | exact Drawn0.refl _ | apply Drawn0.step)⟩
      ·rw [if_neg c6] at H
       exact absurd H (by simp)
     ·rw [if_neg c5] at H
      exact absurd H (by simp)
    ·rw [if_neg c4] at H
     have c4b0 : decide (x5_1 < (l0.length : Int)) = false := decide_eq_false c4
     clear c4
     obtain rfl := Option.some.inj H
     go_wp2
     repeat (go_quiet (fail); try go_wp2)
     go_ret
     exact ⟨by first | rfl | (simp; done) | (simp [*]; done), by repeat (first | exact Drawn0.refl _ | apply Drawn0.step)⟩
 ·rw [if_neg c3] at H
  have c3b0 : ((l0.length : Int) == (l1.length : Int)) = false := beq_eq_false_iff_ne.mpr c3
  have c3b1 : ((l0.length : Int) != (l1.length : Int)) = true := bne_iff_ne.mpr c3
  have c3b2 : (l0.length == l1.length) = false := by first | simpa using c3 | (simp at c3 ⊢; omega)
  obtain rfl := Option.some.inj H
  go_enter Try.func20, Try.ntmps20
  go_wp2
  repeat (go_quiet (fail); try go_wp2)
  go_ret
  exact ⟨by first | rfl | (simp; done) | (simp [*]; done), by repeat (first | exact Drawn0.refl _ | apply Drawn0.step)⟩

/-! ### marigraphlaw24_same: function 11 -/
def marigraphlaw24_same.f (k : Nat) (l0 : List (S26)) (a1 : Bool) (a2 : Int) : Option (Bool) := (rate_Do.f k l0 a1 a2).bind fun bt300 => ((marigraphref21_Rate.f k l0 a1 a2).bind fun bt304 => (if bt300.2 = bt304.2 then ((marigraphref21_Same.f k bt300.1 bt304.1).bind fun t308 => (some t308)) else (some false)))
theorem marigraphlaw24_same.mono : ∀ a0 a1 a2 k, LeO (marigraphlaw24_same.f k a0 a1 a2) (marigraphlaw24_same.f (k + 1) a0 a1 a2) := by
 intro a0 a1 a2 k
 unfold marigraphlaw24_same.f
 repeat' first
   | (with_reducible exact marigraphref21_Rate.mono _ _ _ _)
   | (with_reducible exact marigraphref21_Same.mono _ _ _)
   | (with_reducible exact rate_Do.mono _ _ _ _)
   | (with_reducible exact LeO.refl _)
   | (with_reducible exact LeO.none _)
   | (with_reducible refine LeO.ite ?_ ?_)
   | (with_reducible refine LeO.bind ?_ (fun _ => ?_))
   | exact marigraphref21_Rate.mono _ _ _ _
   | exact marigraphref21_Same.mono _ _ _
   | exact rate_Do.mono _ _ _ _
   | exact LeO.none _
   | refine LeO.ite ?_ ?_
   | refine LeO.bind ?_ (fun _ => ?_)
set_option maxHeartbeats 8000000 in
set_option maxRecDepth 100000 in
theorem marigraphlaw24_same.calls (k : Nat) (A0 : Option Addr) (c0 : Nat) (l0 : List (S26)) (a1 : Bool) (a2 : Int) (r : Bool) (w : World) (hr0 : Kd.C k26 w A0 l0.length l0) (hc0 : l0.length ≤ c0) (h : marigraphlaw24_same.f k l0 a1 a2 = some r) :
  Calls Try.prog 11 #[.slice A0 l0.length c0, .bool a1, .int .i64 a2] w fun e w' => e = .returned (.bool r) ∧ Below w.heap.size w w' := by
 have HR0 := Aside0.mk hr0
 have HC0 := Aside0.mk hc0
 clear hr0 hc0
 have HB := Aside0.mk (Below.refl w.heap.size w)
 have H : ((rate_Do.f k l0 a1 a2).bind fun bt300 => ((marigraphref21_Rate.f k l0 a1 a2).bind fun bt304 => (if bt300.2 = bt304.2 then ((marigraphref21_Same.f k bt300.1 bt304.1).bind fun t308 => (some t308)) else (some false)))) = some r := h
 clear h
 replace H := Option.bind_eq_some_iff.mp H
 obtain ⟨⟨t300, t301⟩, A40, H⟩ := H
 replace H : ((marigraphref21_Rate.f k l0 a1 a2).bind fun bt304 => (if t301 = bt304.2 then ((marigraphref21_Same.f k t300 bt304.1).bind fun t308 => (some t308)) else (some false))) = some r := H
 have A4 := Aside0.mk A40
 clear A40
 replace H := Option.bind_eq_some_iff.mp H
 obtain ⟨⟨t304, t305⟩, A50, H⟩ := H
 replace H : (if t301 = t305 then ((marigraphref21_Same.f k t300 t304).bind fun t308 => (some t308)) else (some false)) = some r := H
 have A5 := Aside0.mk A50
 clear A50
 by_cases c6 : t301 = t305
 ·rw [if_pos c6] at H
  have c6b0 : (t301 == t305) = true := beq_iff_eq.mpr c6
  have c6b1 : (t301 != t305) = false := bne_eq_false_iff_eq.mpr c6
  clear c6
  replace H := Option.bind_eq_some_iff.mp H
  obtain ⟨t308, A70, H⟩ := H
  replace H : (some t308) = some r := H
  have A7 := Aside0.mk A70
  clear A70
  obtain rfl := Option.some.inj H
  go_enter Try.func11, Try.ntmps11
  go_wp2_with (first | ((with_reducible refine gate_callee (f := 13) rfl ?_); refine goesL_ (some 15) rfl rfl Try.func13 (by kernel_rfl) rfl #[.slice A0 l0.length c0, .bool a1, .int .i64 a2] rfl argN ?_; (with_reducible refine (rate_Do.calls k _ _ l0 a1 a2 t300 t301 _ ?side1 ?side2 A4.out).mono ?_); (case side1 => repeat (first | exact HR0.out | (with_reducible refine Kd.C_alloc ?_ _) | (with_reducible refine Kd.C_drewN ?_ _) | (with_reducible refine Kd.C_drew ?_))); (case side2 => exact HC0.out); rintro e w8 ⟨v302, rfl, ho0, hb⟩; refine ⟨_, rfl, ?_⟩; have n0_ := Aside0.mk (Kd.R_lower ho0 (below_size (belN HB.out))); have n1_ := Aside0.mk (below_step (belN HB.out) hb); clear HB; have HO303 := n0_; have HB := n1_; clear n0_ n1_; (try clear hb); (try clear ho0)) | ((with_reducible refine gate_callee (f := 19) rfl ?_); refine goesL_ (some 22) rfl rfl Try.func19 (by kernel_rfl) rfl #[.slice A0 l0.length c0, .bool a1, .int .i64 a2] rfl argN ?_; (with_reducible refine (marigraphref21_Rate.calls k _ _ l0 a1 a2 t304 t305 _ ?side1 ?side2 A5.out).mono ?_); (case side1 => repeat (first | exact (Kd.C_below HR0.out HB.out) | (with_reducible refine Kd.C_alloc ?_ _) | (with_reducible refine Kd.C_drewN ?_ _) | (with_reducible refine Kd.C_drew ?_))); (case side2 => exact HC0.out); rintro e w9 ⟨v306, rfl, ho0, hb⟩; refine ⟨_, rfl, ?_⟩; have n0_ := Aside0.mk (Kd.R_elder' (rowN HO303.out) (Kd.R_base ho0) hb); have n1_ := Aside0.mk (Kd.R_lower (Kd.R_new' ho0 (Kd.R_lt (rowN HO303.out))) (below_size (belN HB.out))); have n2_ := Aside0.mk (below_step (belN HB.out) hb); clear HO303; clear HB; have HO303 := n0_; have HO307 := n1_; have HB := n2_; clear n0_ n1_ n2_; (try clear hb); (try clear ho0); obtain ⟨Ao10, co10, eo10⟩ := Kd.R_slice HO303.out; subst eo10; obtain ⟨Ao11, co11, eo11⟩ := Kd.R_slice HO307.out; subst eo11) | (go_at_call 20; (with_reducible refine (marigraphref21_Same.calls k _ _ t300 _ _ t304 t308 _ ?side1 ?side2 ?side3 ?side4 A7.out).mono ?_); (case side1 => repeat (first | exact (Kd.R_reads' HO303.out).2.2 | (with_reducible refine Kd.C_alloc ?_ _) | (with_reducible refine Kd.C_drewN ?_ _) | (with_reducible refine Kd.C_drew ?_))); (case side2 => exact (Kd.R_reads' HO303.out).2.1); (case side3 => repeat (first | exact (Kd.R_reads' HO307.out).2.2 | (with_reducible refine Kd.C_alloc ?_ _) | (with_reducible refine Kd.C_drewN ?_ _) | (with_reducible refine Kd.C_drew ?_))); (case side4 => exact (Kd.R_reads' HO307.out).2.1); rintro e w' ⟨rfl, ⟨nd, rfl⟩⟩))
  go_ret
  exact ⟨by first | rfl | (simp [errW_none, errW_some] <;> rfl) | (simp [*, errW_none, errW_some] <;> rfl), (belN HB.out)⟩
 ·rw [if_neg c6] at H
  have c6b0 : (t301 == t305) = false := beq_eq_false_iff_ne.mpr c6
  have c6b1 : (t301 != t305) = true := bne_iff_ne.mpr c6
  obtain rfl := Option.some.inj H
  go_enter Try.func11, Try.ntmps11
  go_wp2_with (first | ((with_reducible refine gate_callee (f := 13) rfl ?_); refine goesL_ (some 15) rfl rfl Try.func13 (by kernel_rfl) rfl #[.slice A0 l0.length c0, .bool a1, .int .i64 a2] rfl argN ?_; (with_reducible refine (rate_Do.calls k _ _ l0 a1 a2 t300 t301 _ ?side1 ?side2 A4.out).mono ?_); (case side1 => repeat (first | exact HR0.out | (with_reducible refine Kd.C_alloc ?_ _) | (with_reducible refine Kd.C_drewN ?_ _) | (with_reducible refine Kd.C_drew ?_))); (case side2 => exact HC0.out); rintro e w12 ⟨v302, rfl, ho0, hb⟩; refine ⟨_, rfl, ?_⟩; have n0_ := Aside0.mk (Kd.R_lower ho0 (below_size (belN HB.out))); have n1_ := Aside0.mk (below_step (belN HB.out) hb); clear HB; have HO303 := n0_; have HB := n1_; clear n0_ n1_; (try clear hb); (try clear ho0)) | ((with_reducible refine gate_callee (f := 19) rfl ?_); refine goesL_ (some 22) rfl rfl Try.func19 (by kernel_rfl) rfl #[.slice A0 l0.length c0, .bool a1, .int .i64 a2] rfl argN ?_; (with_reducible refine (marigraphref21_Rate.calls k _ _ l0 a1 a2 t304 t305 _ ?side1 ?side2 A5.out).mono ?_); (case side1 => repeat (first | exact (Kd.C_below HR0.out HB.out) | (with_reducible refine Kd.C_alloc ?_ _) | (with_reducible refine Kd.C_drewN ?_ _) | (with_reducible refine Kd.C_drew ?_))); (case side2 => exact HC0.out); rintro e w13 ⟨v306, rfl, ho0, hb⟩; refine ⟨_, rfl, ?_⟩; have n0_ := Aside0.mk (Kd.R_elder' (rowN HO303.out) (Kd.R_base ho0) hb); have n1_ := Aside0.mk (Kd.R_lower (Kd.R_new' ho0 (Kd.R_lt (rowN HO303.out))) (below_size (belN HB.out))); have n2_ := Aside0.mk (below_step (belN HB.out) hb); clear HO303; clear HB; have HO303 := n0_; have HO307 := n1_; have HB := n2_; clear n0_ n1_ n2_; (try clear hb); (try clear ho0)))
  go_ret
  exact ⟨by first | rfl | (simp [errW_none, errW_some] <;> rfl) | (simp [*, errW_none, errW_some] <;> rfl), (belN HB.out)⟩

/-! ### marigraphlaw24_known: function 12 -/
def marigraphlaw24_known.f (k : Nat)  : Option (Bool) := (rate_Do.f k (([(⟨0, (⟨1, 1⟩ : S24)⟩ : S26), (⟨10, (⟨6, 1⟩ : S24)⟩ : S26)] : List (S26))) false 0).bind fun bt312 => ((rate_Do.f k (([(⟨0, (⟨8, 1⟩ : S24)⟩ : S26), (⟨3, (⟨1, 1⟩ : S24)⟩ : S26)] : List (S26))) true 10).bind fun bt319 => (if bt312.2 = 0 then (if (bt312.1.length : Int) = 1 then (if 0 < (bt312.1.length : Int) then (if (((rd_T26 bt312.1 0).f0) == 10 && ((((rd_T26 bt312.1 0).f1.f0) == 1 && (((rd_T26 bt312.1 0).f1.f1) == 2)))) = true then (if bt319.2 = 0 then (if (bt319.1.length : Int) = 1 then (if 0 < (bt319.1.length : Int) then (some (((rd_T26 bt319.1 0).f1.f0) == 1 && (((rd_T26 bt319.1 0).f1.f1) == 1))) else (none)) else (some false)) else (some false)) else (some false)) else (none)) else (some false)) else (some false)))
theorem marigraphlaw24_known.mono : ∀ k, LeO (marigraphlaw24_known.f k ) (marigraphlaw24_known.f (k + 1) ) := by
 intro  k
 unfold marigraphlaw24_known.f
 repeat' first
   | (with_reducible exact rate_Do.mono _ _ _ _)
   | (with_reducible exact LeO.refl _)
   | (with_reducible exact LeO.none _)
   | (with_reducible refine LeO.ite ?_ ?_)
   | (with_reducible refine LeO.bind ?_ (fun _ => ?_))
   | exact rate_Do.mono _ _ _ _
   | exact LeO.none _
   | refine LeO.ite ?_ ?_
   | refine LeO.bind ?_ (fun _ => ?_)
set_option maxHeartbeats 8000000 in
set_option maxRecDepth 100000 in
theorem marigraphlaw24_known.calls (k : Nat)  (r : Bool) (w : World) (h : marigraphlaw24_known.f k  = some r) :
  Calls Try.prog 12 #[] w fun e w' => e = .returned (.bool r) ∧ Below w.heap.size w w' := by
 have hu24 := Try.underlying24
 have hu26 := Try.underlying26
 have HB := Aside0.mk (Below.refl w.heap.size w)
 have H : ((rate_Do.f k (([(⟨0, (⟨1, 1⟩ : S24)⟩ : S26), (⟨10, (⟨6, 1⟩ : S24)⟩ : S26)] : List (S26))) false 0).bind fun bt312 => ((rate_Do.f k (([(⟨0, (⟨8, 1⟩ : S24)⟩ : S26), (⟨3, (⟨1, 1⟩ : S24)⟩ : S26)] : List (S26))) true 10).bind fun bt319 => (if bt312.2 = 0 then (if (bt312.1.length : Int) = 1 then (if 0 < (bt312.1.length : Int) then (if (((rd_T26 bt312.1 0).f0) == 10 && ((((rd_T26 bt312.1 0).f1.f0) == 1 && (((rd_T26 bt312.1 0).f1.f1) == 2)))) = true then (if bt319.2 = 0 then (if (bt319.1.length : Int) = 1 then (if 0 < (bt319.1.length : Int) then (some (((rd_T26 bt319.1 0).f1.f0) == 1 && (((rd_T26 bt319.1 0).f1.f1) == 1))) else (none)) else (some false)) else (some false)) else (some false)) else (none)) else (some false)) else (some false)))) = some r := h
 clear h
 obtain ⟨y309, hy309⟩ : ∃ y_ : List (S26), y_ = (([(⟨0, (⟨1, 1⟩ : S24)⟩ : S26), (⟨10, (⟨6, 1⟩ : S24)⟩ : S26)] : List (S26))) := ⟨_, rfl⟩
 replace H : ((rate_Do.f k y309 false 0).bind fun bt312 => ((rate_Do.f k (([(⟨0, (⟨8, 1⟩ : S24)⟩ : S26), (⟨3, (⟨1, 1⟩ : S24)⟩ : S26)] : List (S26))) true 10).bind fun bt319 => (if bt312.2 = 0 then (if (bt312.1.length : Int) = 1 then (if 0 < (bt312.1.length : Int) then (if (((rd_T26 bt312.1 0).f0) == 10 && ((((rd_T26 bt312.1 0).f1.f0) == 1 && (((rd_T26 bt312.1 0).f1.f1) == 2)))) = true then (if bt319.2 = 0 then (if (bt319.1.length : Int) = 1 then (if 0 < (bt319.1.length : Int) then (some (((rd_T26 bt319.1 0).f1.f0) == 1 && (((rd_T26 bt319.1 0).f1.f1) == 1))) else (none)) else (some false)) else (some false)) else (some false)) else (none)) else (some false)) else (some false)))) = some r := by first | (rw [hy309]; with_reducible exact H) | (have H2_ := (Option.bind_some _ _).symm.trans H; rw [hy309]; with_reducible exact H2_) | (have H2_ := (Option.bind_some _ _).symm.trans H; with_reducible exact H2_) | with_reducible exact H | (rw [hy309]; exact H) | exact H
 have Ny309 := Aside0.mk hy309
 clear hy309
 replace H := Option.bind_eq_some_iff.mp H
 obtain ⟨⟨t312, t313⟩, A10, H⟩ := H
 replace H : ((rate_Do.f k (([(⟨0, (⟨8, 1⟩ : S24)⟩ : S26), (⟨3, (⟨1, 1⟩ : S24)⟩ : S26)] : List (S26))) true 10).bind fun bt319 => (if t313 = 0 then (if (t312.length : Int) = 1 then (if 0 < (t312.length : Int) then (if (((rd_T26 t312 0).f0) == 10 && ((((rd_T26 t312 0).f1.f0) == 1 && (((rd_T26 t312 0).f1.f1) == 2)))) = true then (if bt319.2 = 0 then (if (bt319.1.length : Int) = 1 then (if 0 < (bt319.1.length : Int) then (some (((rd_T26 bt319.1 0).f1.f0) == 1 && (((rd_T26 bt319.1 0).f1.f1) == 1))) else (none)) else (some false)) else (some false)) else (some false)) else (none)) else (some false)) else (some false))) = some r := H
 have A1 := Aside0.mk A10
 clear A10
 obtain ⟨y316, hy316⟩ : ∃ y_ : List (S26), y_ = (([(⟨0, (⟨8, 1⟩ : S24)⟩ : S26), (⟨3, (⟨1, 1⟩ : S24)⟩ : S26)] : List (S26))) := ⟨_, rfl⟩
 replace H : ((rate_Do.f k y316 true 10).bind fun bt319 => (if t313 = 0 then (if (t312.length : Int) = 1 then (if 0 < (t312.length : Int) then (if (((rd_T26 t312 0).f0) == 10 && ((((rd_T26 t312 0).f1.f0) == 1 && (((rd_T26 t312 0).f1.f1) == 2)))) = true then (if bt319.2 = 0 then (if (bt319.1.length : Int) = 1 then (if 0 < (bt319.1.length : Int) then (some (((rd_T26 bt319.1 0).f1.f0) == 1 && (((rd_T26 bt319.1 0).f1.f1) == 1))) else (none)) else (some false)) else (some false)) else (some false)) else (none)) else (some false)) else (some false))) = some r := by first | (rw [hy316]; with_reducible exact H) | (have H2_ := (Option.bind_some _ _).symm.trans H; rw [hy316]; with_reducible exact H2_) | (have H2_ := (Option.bind_some _ _).symm.trans H; with_reducible exact H2_) | with_reducible exact H | (rw [hy316]; exact H) | exact H
 have Ny316 := Aside0.mk hy316
 clear hy316
 replace H := Option.bind_eq_some_iff.mp H
 obtain ⟨⟨t319, t320⟩, A20, H⟩ := H
 replace H : (if t313 = 0 then (if (t312.length : Int) = 1 then (if 0 < (t312.length : Int) then (if (((rd_T26 t312 0).f0) == 10 && ((((rd_T26 t312 0).f1.f0) == 1 && (((rd_T26 t312 0).f1.f1) == 2)))) = true then (if t320 = 0 then (if (t319.length : Int) = 1 then (if 0 < (t319.length : Int) then (some (((rd_T26 t319 0).f1.f0) == 1 && (((rd_T26 t319 0).f1.f1) == 1))) else (none)) else (some false)) else (some false)) else (some false)) else (none)) else (some false)) else (some false)) = some r := H
 have A2 := Aside0.mk A20
 clear A20
 by_cases c3 : t313 = 0
 ·rw [if_pos c3] at H
  have c3b0 : (t313 == 0) = true := beq_iff_eq.mpr c3
  have c3b1 : (t313 != 0) = false := bne_eq_false_iff_eq.mpr c3
  clear c3
  by_cases c4 : (t312.length : Int) = 1
  ·rw [if_pos c4] at H
   have c4b0 : ((t312.length : Int) == 1) = true := beq_iff_eq.mpr c4
   have c4b1 : ((t312.length : Int) != 1) = false := bne_eq_false_iff_eq.mpr c4
   clear c4
   by_cases c5 : 0 < (t312.length : Int)
   ·rw [if_pos c5] at H
    have c5b0 : decide (0 < (t312.length : Int)) = true := decide_eq_true c5
    have c5b1 : decide (0 < t312.length) = true := decide_eq_true (by omega)
    clear c5
    by_cases c6 : (((rd_T26 t312 0).f0) == 10 && ((((rd_T26 t312 0).f1.f0) == 1 && (((rd_T26 t312 0).f1.f1) == 2)))) = true
    ·rw [if_pos c6] at H
     have c6b0 : (((rd_T26 t312 0).f0) == 10 && ((((rd_T26 t312 0).f1.f0) == 1 && (((rd_T26 t312 0).f1.f1) == 2)))) = true := c6
     (try (have c6b1 : decide (((rd_T26 t312 0).f0) = 10 && ((((rd_T26 t312 0).f1.f0) == 1 && (((rd_T26 t312 0).f1.f1) == 2)))) = true := by simpa using c6))
     (try (have c6b2 : (((rd_T26 t312 0).f0) == 10 && ((((rd_T26 t312 0).f1.f0) == 1 && (((rd_T26 t312 0).f1.f1) == 2)))) = true := by simpa using c6))
     clear c6
     by_cases c7 : t320 = 0
     ·rw [if_pos c7] at H
      have c7b0 : (t320 == 0) = true := beq_iff_eq.mpr c7
      have c7b1 : (t320 != 0) = false := bne_eq_false_iff_eq.mpr c7
      clear c7
      by_cases c8 : (t319.length : Int) = 1
      ·rw [if_pos c8] at H
       have c8b0 : ((t319.length : Int) == 1) = true := beq_iff_eq.mpr c8
       have c8b1 : ((t319.length : Int) != 1) = false := bne_eq_false_iff_eq.mpr c8
       clear c8
       by_cases c9 : 0 < (t319.length : Int)
       ·rw [if_pos c9] at H
        have c9b0 : decide (0 < (t319.length : Int)) = true := decide_eq_true c9
        have c9b1 : decide (0 < t319.length) = true := decide_eq_true (by omega)
        clear c9
        obtain rfl := Option.some.inj H
        go_enter Try.func12, Try.ntmps12
        go_wp2_with (first | ((with_reducible refine gate_dst (N := 10) rfl ?_); (try (refine gate_guard (by rfl) ?_; dsimp only)); refine Kd.R_lit k26 _ 26 ?hg (N := 10) ?hd (xs := ([(⟨0, (⟨1, 1⟩ : S24)⟩ : S26), (⟨10, (⟨6, 1⟩ : S24)⟩ : S26)] : List (S26))) (inner := [.int .i64 0, .int .i64 1, .int .i64 1, .int .i64 10, .int .i64 6, .int .i64 1]) (ok := fun _ => True) (okp := fun _ => True) ?hr ?hp (fun _ hk => hk) trivial (Below.refl _ _) (Nat.le_refl _) (by simp) ?_; (case hd => rfl); (case hg => rfl); (case hr => first | (go_simp; done) | (go_simp; rfl)); (case hp => exact (Reps.c3 (show Kd.M k26 _ _ _ (⟨0, (⟨1, 1⟩ : S24)⟩ : S26) [.int .i64 0, .int .i64 1, .int .i64 1] from (k26_mkM _ _ _ (⟨0, (⟨1, 1⟩ : S24)⟩ : S26) )) (Reps.c3 (show Kd.M k26 _ _ _ (⟨10, (⟨6, 1⟩ : S24)⟩ : S26) [.int .i64 10, .int .i64 6, .int .i64 1] from (k26_mkM _ _ _ (⟨10, (⟨6, 1⟩ : S24)⟩ : S26) )) (Reps.none _ _)))); intro v310 w10 ho11 hb hg_ hnew_; clear hg_ hnew_; (first | rw [← Ny309.out] at ho11 | (simp only [Int.reduceToNat] at ho11; rw [← Ny309.out] at ho11)); have n0_ := Aside0.mk (Kd.R_lower ho11 (below_size (belN HB.out))); have n1_ := Aside0.mk (below_step (belN HB.out) hb); clear HB; have HO311 := n0_; have HB := n1_; clear n0_ n1_; clear hb ho11; obtain ⟨Ao12, co12, eo12⟩ := Kd.R_slice HO311.out; subst eo12) | ((with_reducible refine gate_callee (f := 13) rfl ?_); refine goesL_ (some 11) rfl rfl Try.func13 (by kernel_rfl) rfl #[.slice Ao12 y309.length co12, .bool false, .int .i64 0] rfl argN ?_; (with_reducible refine (rate_Do.calls k _ _ y309 false 0 t312 t313 _ ?side1 ?side2 A1.out).mono ?_); (case side1 => repeat (first | exact (Kd.R_reads' HO311.out).2.2 | (with_reducible refine Kd.C_alloc ?_ _) | (with_reducible refine Kd.C_drewN ?_ _) | (with_reducible refine Kd.C_drew ?_))); (case side2 => exact (Kd.R_reads' HO311.out).2.1); rintro e w13 ⟨v314, rfl, ho0, hb⟩; refine ⟨_, rfl, ?_⟩; have n0_ := Aside0.mk (Kd.R_elder' (rowN HO311.out) (Kd.R_base ho0) hb); have n1_ := Aside0.mk (Kd.R_lower (Kd.R_new' ho0 (Kd.R_lt (rowN HO311.out))) (below_size (belN HB.out))); have n2_ := Aside0.mk (below_step (belN HB.out) hb); clear HO311; clear HB; have HO311 := n0_; have HO315 := n1_; have HB := n2_; clear n0_ n1_ n2_; (try clear hb); (try clear hk); (try clear ho0)) | ((with_reducible refine gate_dst (N := 19) rfl ?_); (try (refine gate_guard (by rfl) ?_; dsimp only)); refine Kd.R_lit k26 _ 26 ?hg (N := 19) ?hd (xs := ([(⟨0, (⟨8, 1⟩ : S24)⟩ : S26), (⟨3, (⟨1, 1⟩ : S24)⟩ : S26)] : List (S26))) (inner := [.int .i64 0, .int .i64 8, .int .i64 1, .int .i64 3, .int .i64 1, .int .i64 1]) (ok := fun _ => True) (okp := fun _ => True) ?hr ?hp (fun _ hk => hk) trivial (Below.refl _ _) (Nat.le_refl _) (by simp) ?_; (case hd => rfl); (case hg => rfl); (case hr => first | (go_simp; done) | (go_simp; rfl)); (case hp => exact (Reps.c3 (show Kd.M k26 _ _ _ (⟨0, (⟨8, 1⟩ : S24)⟩ : S26) [.int .i64 0, .int .i64 8, .int .i64 1] from (k26_mkM _ _ _ (⟨0, (⟨8, 1⟩ : S24)⟩ : S26) )) (Reps.c3 (show Kd.M k26 _ _ _ (⟨3, (⟨1, 1⟩ : S24)⟩ : S26) [.int .i64 3, .int .i64 1, .int .i64 1] from (k26_mkM _ _ _ (⟨3, (⟨1, 1⟩ : S24)⟩ : S26) )) (Reps.none _ _)))); intro v317 w14 ho15 hb hg_ hnew_; clear hg_ hnew_; (first | rw [← Ny316.out] at ho15 | (simp only [Int.reduceToNat] at ho15; rw [← Ny316.out] at ho15)); have n0_ := Aside0.mk (Kd.R_elder' (rowN HO311.out) (Kd.R_base ho15) hb); have n1_ := Aside0.mk (Kd.R_elder' (rowN HO315.out) (Kd.R_base ho15) hb); have n2_ := Aside0.mk (Kd.R_lower (Kd.R_new' (Kd.R_new' ho15 (Kd.R_lt (rowN HO311.out))) (Kd.R_lt (rowN HO315.out))) (below_size (belN HB.out))); have n3_ := Aside0.mk (below_step (belN HB.out) hb); clear HO311; clear HO315; clear HB; have HO311 := n0_; have HO315 := n1_; have HO318 := n2_; have HB := n3_; clear n0_ n1_ n2_ n3_; clear hb ho15; obtain ⟨Ao16, co16, eo16⟩ := Kd.R_slice HO318.out; subst eo16) | ((with_reducible refine gate_callee (f := 13) rfl ?_); refine goesL_ (some 20) rfl rfl Try.func13 (by kernel_rfl) rfl #[.slice Ao16 y316.length co16, .bool true, .int .i64 10] rfl argN ?_; (with_reducible refine (rate_Do.calls k _ _ y316 true 10 t319 t320 _ ?side1 ?side2 A2.out).mono ?_); (case side1 => repeat (first | exact (Kd.R_reads' HO318.out).2.2 | (with_reducible refine Kd.C_alloc ?_ _) | (with_reducible refine Kd.C_drewN ?_ _) | (with_reducible refine Kd.C_drew ?_))); (case side2 => exact (Kd.R_reads' HO318.out).2.1); rintro e w17 ⟨v321, rfl, ho0, hb⟩; refine ⟨_, rfl, ?_⟩; have n0_ := Aside0.mk (Kd.R_elder' (rowN HO311.out) (Kd.R_base ho0) hb); have n1_ := Aside0.mk (Kd.R_elder' (rowN HO315.out) (Kd.R_base ho0) hb); have n2_ := Aside0.mk (Kd.R_elder' (rowN HO318.out) (Kd.R_base ho0) hb); have n3_ := Aside0.mk (Kd.R_lower (Kd.R_new' (Kd.R_new' (Kd.R_new' ho0 (Kd.R_lt (rowN HO311.out))) (Kd.R_lt (rowN HO315.out))) (Kd.R_lt (rowN HO318.out))) (below_size (belN HB.out))); have n4_ := Aside0.mk (below_step (belN HB.out) hb); clear HO311; clear HO315; clear HO318; clear HB; have HO311 := n0_; have HO315 := n1_; have HO318 := n2_; have HO322 := n3_; have HB := n4_; clear n0_ n1_ n2_ n3_ n4_; (try clear hb); (try clear hk); (try clear ho0); obtain ⟨Ao18, co18, eo18⟩ := Kd.R_slice HO315.out; subst eo18; have p323 : 0 ≤ (0 : Int) := (by omega); have q323 : 0 < (t312.length : Int) := of_decide_eq_true (by first | (with_reducible assumption) | assumption); obtain ⟨ad323, e323, hx323_0, hx323_1, hx323_2⟩ := at_T26 (Kd.R_reads' HO315.out).2.2 0 p323 q323; cases e323; have qi323 : (0 < t312.length) = True := eq_true (by omega); (try rw [show ((0 : Int)).toNat = 0 from rfl] at hx323_0); (try rw [show 0 * 3 = 0 from rfl] at hx323_0); (try rw [Addr.add_zero'] at hx323_0); (try rw [show ((0 : Int)).toNat = 0 from rfl] at hx323_1); (try rw [show 0 * 3 = 0 from rfl] at hx323_1); (try rw [Addr.add_zero'] at hx323_1); (try rw [show ((0 : Int)).toNat = 0 from rfl] at hx323_2); (try rw [show 0 * 3 = 0 from rfl] at hx323_2); (try rw [Addr.add_zero'] at hx323_2); replace p323 := eq_true p323; replace q323 := eq_true q323; obtain ⟨Ao19, co19, eo19⟩ := Kd.R_slice HO322.out; subst eo19; have p324 : 0 ≤ (0 : Int) := (by omega); have q324 : 0 < (t319.length : Int) := of_decide_eq_true (by first | (with_reducible assumption) | assumption); obtain ⟨ad324, e324, hx324_0, hx324_1, hx324_2⟩ := at_T26 (Kd.R_reads' HO322.out).2.2 0 p324 q324; cases e324; have qi324 : (0 < t319.length) = True := eq_true (by omega); (try rw [show ((0 : Int)).toNat = 0 from rfl] at hx324_0); (try rw [show 0 * 3 = 0 from rfl] at hx324_0); (try rw [Addr.add_zero'] at hx324_0); (try rw [show ((0 : Int)).toNat = 0 from rfl] at hx324_1); (try rw [show 0 * 3 = 0 from rfl] at hx324_1); (try rw [Addr.add_zero'] at hx324_1); (try rw [show ((0 : Int)).toNat = 0 from rfl] at hx324_2); (try rw [show 0 * 3 = 0 from rfl] at hx324_2); (try rw [Addr.add_zero'] at hx324_2); replace p324 := eq_true p324; replace q324 := eq_true q324))
        go_ret
        exact ⟨by first | rfl | (simp [errW_none, errW_some] <;> rfl) | (simp [*, errW_none, errW_some] <;> rfl), (belN HB.out)⟩
       ·rw [if_neg c9] at H
        exact absurd H (by simp)
      ·rw [if_neg c8] at H
       have c8b0 : ((t319.length : Int) == 1) = false := beq_eq_false_iff_ne.mpr c8
       have c8b1 : ((t319.length : Int) != 1) = true := bne_iff_ne.mpr c8
       obtain rfl := Option.some.inj H
       go_enter Try.func12, Try.ntmps12
       go_wp2_with (first | ((with_reducible refine gate_dst (N := 10) rfl ?_); (try (refine gate_guard (by rfl) ?_; dsimp only)); refine Kd.R_lit k26 _ 26 ?hg (N := 10) ?hd (xs := ([(⟨0, (⟨1, 1⟩ : S24)⟩ : S26), (⟨10, (⟨6, 1⟩ : S24)⟩ : S26)] : List (S26))) (inner := [.int .i64 0, .int .i64 1, .int .i64 1, .int .i64 10, .int .i64 6, .int .i64 1]) (ok := fun _ => True) (okp := fun _ => True) ?hr ?hp (fun _ hk => hk) trivial (Below.refl _ _) (Nat.le_refl _) (by simp) ?_; (case hd => rfl); (case hg => rfl); (case hr => first | (go_simp; done) | (go_simp; rfl)); (case hp => exact (Reps.c3 (show Kd.M k26 _ _ _ (⟨0, (⟨1, 1⟩ : S24)⟩ : S26) [.int .i64 0, .int .i64 1, .int .i64 1] from (k26_mkM _ _ _ (⟨0, (⟨1, 1⟩ : S24)⟩ : S26) )) (Reps.c3 (show Kd.M k26 _ _ _ (⟨10, (⟨6, 1⟩ : S24)⟩ : S26) [.int .i64 10, .int .i64 6, .int .i64 1] from (k26_mkM _ _ _ (⟨10, (⟨6, 1⟩ : S24)⟩ : S26) )) (Reps.none _ _)))); intro v310 w20 ho21 hb hg_ hnew_; clear hg_ hnew_; (first | rw [← Ny309.out] at ho21 | (simp only [Int.reduceToNat] at ho21; rw [← Ny309.out] at ho21)); have n0_ := Aside0.mk (Kd.R_lower ho21 (below_size (belN HB.out))); have n1_ := Aside0.mk (below_step (belN HB.out) hb); clear HB; have HO311 := n0_; have HB := n1_; clear n0_ n1_; clear hb ho21; obtain ⟨Ao22, co22, eo22⟩ := Kd.R_slice HO311.out; subst eo22) | ((with_reducible refine gate_callee (f := 13) rfl ?_); refine goesL_ (some 11) rfl rfl Try.func13 (by kernel_rfl) rfl #[.slice Ao22 y309.length co22, .bool false, .int .i64 0] rfl argN ?_; (with_reducible refine (rate_Do.calls k _ _ y309 false 0 t312 t313 _ ?side1 ?side2 A1.out).mono ?_); (case side1 => repeat (first | exact (Kd.R_reads' HO311.out).2.2 | (with_reducible refine Kd.C_alloc ?_ _) | (with_reducible refine Kd.C_drewN ?_ _) | (with_reducible refine Kd.C_drew ?_))); (case side2 => exact (Kd.R_reads' HO311.out).2.1); rintro e w23 ⟨v314, rfl, ho0, hb⟩; refine ⟨_, rfl, ?_⟩; have n0_ := Aside0.mk (Kd.R_elder' (rowN HO311.out) (Kd.R_base ho0) hb); have n1_ := Aside0.mk (Kd.R_lower (Kd.R_new' ho0 (Kd.R_lt (rowN HO311.out))) (below_size (belN HB.out))); have n2_ := Aside0.mk (below_step (belN HB.out) hb); clear HO311; clear HB; have HO311 := n0_; have HO315 := n1_; have HB := n2_; clear n0_ n1_ n2_; (try clear hb); (try clear hk); (try clear ho0)) | ((with_reducible refine gate_dst (N := 19) rfl ?_); (try (refine gate_guard (by rfl) ?_; dsimp only)); refine Kd.R_lit k26 _ 26 ?hg (N := 19) ?hd (xs := ([(⟨0, (⟨8, 1⟩ : S24)⟩ : S26), (⟨3, (⟨1, 1⟩ : S24)⟩ : S26)] : List (S26))) (inner := [.int .i64 0, .int .i64 8, .int .i64 1, .int .i64 3, .int .i64 1, .int .i64 1]) (ok := fun _ => True) (okp := fun _ => True) ?hr ?hp (fun _ hk => hk) trivial (Below.refl _ _) (Nat.le_refl _) (by simp) ?_; (case hd => rfl); (case hg => rfl); (case hr => first | (go_simp; done) | (go_simp; rfl)); (case hp => exact (Reps.c3 (show Kd.M k26 _ _ _ (⟨0, (⟨8, 1⟩ : S24)⟩ : S26) [.int .i64 0, .int .i64 8, .int .i64 1] from (k26_mkM _ _ _ (⟨0, (⟨8, 1⟩ : S24)⟩ : S26) )) (Reps.c3 (show Kd.M k26 _ _ _ (⟨3, (⟨1, 1⟩ : S24)⟩ : S26) [.int .i64 3, .int .i64 1, .int .i64 1] from (k26_mkM _ _ _ (⟨3, (⟨1, 1⟩ : S24)⟩ : S26) )) (Reps.none _ _)))); intro v317 w24 ho25 hb hg_ hnew_; clear hg_ hnew_; (first | rw [← Ny316.out] at ho25 | (simp only [Int.reduceToNat] at ho25; rw [← Ny316.out] at ho25)); have n0_ := Aside0.mk (Kd.R_elder' (rowN HO311.out) (Kd.R_base ho25) hb); have n1_ := Aside0.mk (Kd.R_elder' (rowN HO315.out) (Kd.R_base ho25) hb); have n2_ := Aside0.mk (Kd.R_lower (Kd.R_new' (Kd.R_new' ho25 (Kd.R_lt (rowN HO311.out))) (Kd.R_lt (rowN HO315.out))) (below_size (belN HB.out))); have n3_ := Aside0.mk (below_step (belN HB.out) hb); clear HO311; clear HO315; clear HB; have HO311 := n0_; have HO315 := n1_; have HO318 := n2_; have HB := n3_; clear n0_ n1_ n2_ n3_; clear hb ho25; obtain ⟨Ao26, co26, eo26⟩ := Kd.R_slice HO318.out; subst eo26) | ((with_reducible refine gate_callee (f := 13) rfl ?_); refine goesL_ (some 20) rfl rfl Try.func13 (by kernel_rfl) rfl #[.slice Ao26 y316.length co26, .bool true, .int .i64 10] rfl argN ?_; (with_reducible refine (rate_Do.calls k _ _ y316 true 10 t319 t320 _ ?side1 ?side2 A2.out).mono ?_); (case side1 => repeat (first | exact (Kd.R_reads' HO318.out).2.2 | (with_reducible refine Kd.C_alloc ?_ _) | (with_reducible refine Kd.C_drewN ?_ _) | (with_reducible refine Kd.C_drew ?_))); (case side2 => exact (Kd.R_reads' HO318.out).2.1); rintro e w27 ⟨v321, rfl, ho0, hb⟩; refine ⟨_, rfl, ?_⟩; have n0_ := Aside0.mk (Kd.R_elder' (rowN HO311.out) (Kd.R_base ho0) hb); have n1_ := Aside0.mk (Kd.R_elder' (rowN HO315.out) (Kd.R_base ho0) hb); have n2_ := Aside0.mk (Kd.R_elder' (rowN HO318.out) (Kd.R_base ho0) hb); have n3_ := Aside0.mk (Kd.R_lower (Kd.R_new' (Kd.R_new' (Kd.R_new' ho0 (Kd.R_lt (rowN HO311.out))) (Kd.R_lt (rowN HO315.out))) (Kd.R_lt (rowN HO318.out))) (below_size (belN HB.out))); have n4_ := Aside0.mk (below_step (belN HB.out) hb); clear HO311; clear HO315; clear HO318; clear HB; have HO311 := n0_; have HO315 := n1_; have HO318 := n2_; have HO322 := n3_; have HB := n4_; clear n0_ n1_ n2_ n3_ n4_; (try clear hb); (try clear hk); (try clear ho0); obtain ⟨Ao28, co28, eo28⟩ := Kd.R_slice HO315.out; subst eo28; have p323 : 0 ≤ (0 : Int) := (by omega); have q323 : 0 < (t312.length : Int) := of_decide_eq_true (by first | (with_reducible assumption) | assumption); obtain ⟨ad323, e323, hx323_0, hx323_1, hx323_2⟩ := at_T26 (Kd.R_reads' HO315.out).2.2 0 p323 q323; cases e323; have qi323 : (0 < t312.length) = True := eq_true (by omega); (try rw [show ((0 : Int)).toNat = 0 from rfl] at hx323_0); (try rw [show 0 * 3 = 0 from rfl] at hx323_0); (try rw [Addr.add_zero'] at hx323_0); (try rw [show ((0 : Int)).toNat = 0 from rfl] at hx323_1); (try rw [show 0 * 3 = 0 from rfl] at hx323_1); (try rw [Addr.add_zero'] at hx323_1); (try rw [show ((0 : Int)).toNat = 0 from rfl] at hx323_2); (try rw [show 0 * 3 = 0 from rfl] at hx323_2); (try rw [Addr.add_zero'] at hx323_2); replace p323 := eq_true p323; replace q323 := eq_true q323; obtain ⟨Ao29, co29, eo29⟩ := Kd.R_slice HO322.out; subst eo29))
       go_ret
       exact ⟨by first | rfl | (simp [errW_none, errW_some] <;> rfl) | (simp [*, errW_none, errW_some] <;> rfl), (belN HB.out)⟩
     ·rw [if_neg c7] at H
      have c7b0 : (t320 == 0) = false := beq_eq_false_iff_ne.mpr c7
      have c7b1 : (t320 != 0) = true := bne_iff_ne.mpr c7
      obtain rfl := Option.some.inj H
      go_enter Try.func12, Try.ntmps12
      go_wp2_with (first | ((with_reducible refine gate_dst (N := 10) rfl ?_); (try (refine gate_guard (by rfl) ?_; dsimp only)); refine Kd.R_lit k26 _ 26 ?hg (N := 10) ?hd (xs := ([(⟨0, (⟨1, 1⟩ : S24)⟩ : S26), (⟨10, (⟨6, 1⟩ : S24)⟩ : S26)] : List (S26))) (inner := [.int .i64 0, .int .i64 1, .int .i64 1, .int .i64 10, .int .i64 6, .int .i64 1]) (ok := fun _ => True) (okp := fun _ => True) ?hr ?hp (fun _ hk => hk) trivial (Below.refl _ _) (Nat.le_refl _) (by simp) ?_; (case hd => rfl); (case hg => rfl); (case hr => first | (go_simp; done) | (go_simp; rfl)); (case hp => exact (Reps.c3 (show Kd.M k26 _ _ _ (⟨0, (⟨1, 1⟩ : S24)⟩ : S26) [.int .i64 0, .int .i64 1, .int .i64 1] from (k26_mkM _ _ _ (⟨0, (⟨1, 1⟩ : S24)⟩ : S26) )) (Reps.c3 (show Kd.M k26 _ _ _ (⟨10, (⟨6, 1⟩ : S24)⟩ : S26) [.int .i64 10, .int .i64 6, .int .i64 1] from (k26_mkM _ _ _ (⟨10, (⟨6, 1⟩ : S24)⟩ : S26) )) (Reps.none _ _)))); intro v310 w30 ho31 hb hg_ hnew_; clear hg_ hnew_; (first | rw [← Ny309.out] at ho31 | (simp only [Int.reduceToNat] at ho31; rw [← Ny309.out] at ho31)); have n0_ := Aside0.mk (Kd.R_lower ho31 (below_size (belN HB.out))); have n1_ := Aside0.mk (below_step (belN HB.out) hb); clear HB; have HO311 := n0_; have HB := n1_; clear n0_ n1_; clear hb ho31; obtain ⟨Ao32, co32, eo32⟩ := Kd.R_slice HO311.out; subst eo32) | ((with_reducible refine gate_callee (f := 13) rfl ?_); refine goesL_ (some 11) rfl rfl Try.func13 (by kernel_rfl) rfl #[.slice Ao32 y309.length co32, .bool false, .int .i64 0] rfl argN ?_; (with_reducible refine (rate_Do.calls k _ _ y309 false 0 t312 t313 _ ?side1 ?side2 A1.out).mono ?_); (case side1 => repeat (first | exact (Kd.R_reads' HO311.out).2.2 | (with_reducible refine Kd.C_alloc ?_ _) | (with_reducible refine Kd.C_drewN ?_ _) | (with_reducible refine Kd.C_drew ?_))); (case side2 => exact (Kd.R_reads' HO311.out).2.1); rintro e w33 ⟨v314, rfl, ho0, hb⟩; refine ⟨_, rfl, ?_⟩; have n0_ := Aside0.mk (Kd.R_elder' (rowN HO311.out) (Kd.R_base ho0) hb); have n1_ := Aside0.mk (Kd.R_lower (Kd.R_new' ho0 (Kd.R_lt (rowN HO311.out))) (below_size (belN HB.out))); have n2_ := Aside0.mk (below_step (belN HB.out) hb); clear HO311; clear HB; have HO311 := n0_; have HO315 := n1_; have HB := n2_; clear n0_ n1_ n2_; (try clear hb); (try clear hk); (try clear ho0)) | ((with_reducible refine gate_dst (N := 19) rfl ?_); (try (refine gate_guard (by rfl) ?_; dsimp only)); refine Kd.R_lit k26 _ 26 ?hg (N := 19) ?hd (xs := ([(⟨0, (⟨8, 1⟩ : S24)⟩ : S26), (⟨3, (⟨1, 1⟩ : S24)⟩ : S26)] : List (S26))) (inner := [.int .i64 0, .int .i64 8, .int .i64 1, .int .i64 3, .int .i64 1, .int .i64 1]) (ok := fun _ => True) (okp := fun _ => True) ?hr ?hp (fun _ hk => hk) trivial (Below.refl _ _) (Nat.le_refl _) (by simp) ?_; (case hd => rfl); (case hg => rfl); (case hr => first | (go_simp; done) | (go_simp; rfl)); (case hp => exact (Reps.c3 (show Kd.M k26 _ _ _ (⟨0, (⟨8, 1⟩ : S24)⟩ : S26) [.int .i64 0, .int .i64 8, .int .i64 1] from (k26_mkM _ _ _ (⟨0, (⟨8, 1⟩ : S24)⟩ : S26) )) (Reps.c3 (show Kd.M k26 _ _ _ (⟨3, (⟨1, 1⟩ : S24)⟩ : S26) [.int .i64 3, .int .i64 1, .int .i64 1] from (k26_mkM _ _ _ (⟨3, (⟨1, 1⟩ : S24)⟩ : S26) )) (Reps.none _ _)))); intro v317 w34 ho35 hb hg_ hnew_; clear hg_ hnew_; (first | rw [← Ny316.out] at ho35 | (simp only [Int.reduceToNat] at ho35; rw [← Ny316.out] at ho35)); have n0_ := Aside0.mk (Kd.R_elder' (rowN HO311.out) (Kd.R_base ho35) hb); have n1_ := Aside0.mk (Kd.R_elder' (rowN HO315.out) (Kd.R_base ho35) hb); have n2_ := Aside0.mk (Kd.R_lower (Kd.R_new' (Kd.R_new' ho35 (Kd.R_lt (rowN HO311.out))) (Kd.R_lt (rowN HO315.out))) (below_size (belN HB.out))); have n3_ := Aside0.mk (below_step (belN HB.out) hb); clear HO311; clear HO315; clear HB; have HO311 := n0_; have HO315 := n1_; have HO318 := n2_; have HB := n3_; clear n0_ n1_ n2_ n3_; clear hb ho35; obtain ⟨Ao36, co36, eo36⟩ := Kd.R_slice HO318.out; subst eo36) | ((with_reducible refine gate_callee (f := 13) rfl ?_); refine goesL_ (some 20) rfl rfl Try.func13 (by kernel_rfl) rfl #[.slice Ao36 y316.length co36, .bool true, .int .i64 10] rfl argN ?_; (with_reducible refine (rate_Do.calls k _ _ y316 true 10 t319 t320 _ ?side1 ?side2 A2.out).mono ?_); (case side1 => repeat (first | exact (Kd.R_reads' HO318.out).2.2 | (with_reducible refine Kd.C_alloc ?_ _) | (with_reducible refine Kd.C_drewN ?_ _) | (with_reducible refine Kd.C_drew ?_))); (case side2 => exact (Kd.R_reads' HO318.out).2.1); rintro e w37 ⟨v321, rfl, ho0, hb⟩; refine ⟨_, rfl, ?_⟩; have n0_ := Aside0.mk (Kd.R_elder' (rowN HO311.out) (Kd.R_base ho0) hb); have n1_ := Aside0.mk (Kd.R_elder' (rowN HO315.out) (Kd.R_base ho0) hb); have n2_ := Aside0.mk (Kd.R_elder' (rowN HO318.out) (Kd.R_base ho0) hb); have n3_ := Aside0.mk (Kd.R_lower (Kd.R_new' (Kd.R_new' (Kd.R_new' ho0 (Kd.R_lt (rowN HO311.out))) (Kd.R_lt (rowN HO315.out))) (Kd.R_lt (rowN HO318.out))) (below_size (belN HB.out))); have n4_ := Aside0.mk (below_step (belN HB.out) hb); clear HO311; clear HO315; clear HO318; clear HB; have HO311 := n0_; have HO315 := n1_; have HO318 := n2_; have HO322 := n3_; have HB := n4_; clear n0_ n1_ n2_ n3_ n4_; (try clear hb); (try clear hk); (try clear ho0); obtain ⟨Ao38, co38, eo38⟩ := Kd.R_slice HO315.out; subst eo38; have p323 : 0 ≤ (0 : Int) := (by omega); have q323 : 0 < (t312.length : Int) := of_decide_eq_true (by first | (with_reducible assumption) | assumption); obtain ⟨ad323, e323, hx323_0, hx323_1, hx323_2⟩ := at_T26 (Kd.R_reads' HO315.out).2.2 0 p323 q323; cases e323; have qi323 : (0 < t312.length) = True := eq_true (by omega); (try rw [show ((0 : Int)).toNat = 0 from rfl] at hx323_0); (try rw [show 0 * 3 = 0 from rfl] at hx323_0); (try rw [Addr.add_zero'] at hx323_0); (try rw [show ((0 : Int)).toNat = 0 from rfl] at hx323_1); (try rw [show 0 * 3 = 0 from rfl] at hx323_1); (try rw [Addr.add_zero'] at hx323_1); (try rw [show ((0 : Int)).toNat = 0 from rfl] at hx323_2); (try rw [show 0 * 3 = 0 from rfl] at hx323_2); (try rw [Addr.add_zero'] at hx323_2); replace p323 := eq_true p323; replace q323 := eq_true q323))
      go_ret
      exact ⟨by first | rfl | (simp [errW_none, errW_some] <;> rfl) | (simp [*, errW_none, errW_some] <;> rfl), (belN HB.out)⟩
    ·rw [if_neg c6] at H
     have c6b0 : (((rd_T26 t312 0).f0) == 10 && ((((rd_T26 t312 0).f1.f0) == 1 && (((rd_T26 t312 0).f1.f1) == 2)))) = false := by simpa using c6
     (try (have c6b1 : decide (((rd_T26 t312 0).f0) = 10 && ((((rd_T26 t312 0).f1.f0) == 1 && (((rd_T26 t312 0).f1.f1) == 2)))) = false := by simpa using c6))
     (try (have c6b2 : (((rd_T26 t312 0).f0) == 10 && ((((rd_T26 t312 0).f1.f0) == 1 && (((rd_T26 t312 0).f1.f1) == 2)))) = false := by simpa using c6))
     (try (have c6b3 : ¬ (((rd_T26 t312 0).f0) = 10 && ((((rd_T26 t312 0).f1.f0) == 1 && (((rd_T26 t312 0).f1.f1) == 2)))) := by simpa using c6))
     clear c6
     obtain rfl := Option.some.inj H
     go_enter Try.func12, Try.ntmps12
     go_wp2_with (first | ((with_reducible refine gate_dst (N := 10) rfl ?_); (try (refine gate_guard (by rfl) ?_; dsimp only)); refine Kd.R_lit k26 _ 26 ?hg (N := 10) ?hd (xs := ([(⟨0, (⟨1, 1⟩ : S24)⟩ : S26), (⟨10, (⟨6, 1⟩ : S24)⟩ : S26)] : List (S26))) (inner := [.int .i64 0, .int .i64 1, .int .i64 1, .int .i64 10, .int .i64 6, .int .i64 1]) (ok := fun _ => True) (okp := fun _ => True) ?hr ?hp (fun _ hk => hk) trivial (Below.refl _ _) (Nat.le_refl _) (by simp) ?_; (case hd => rfl); (case hg => rfl); (case hr => first | (go_simp; done) | (go_simp; rfl)); (case hp => exact (Reps.c3 (show Kd.M k26 _ _ _ (⟨0, (⟨1, 1⟩ : S24)⟩ : S26) [.int .i64 0, .int .i64 1, .int .i64 1] from (k26_mkM _ _ _ (⟨0, (⟨1, 1⟩ : S24)⟩ : S26) )) (Reps.c3 (show Kd.M k26 _ _ _ (⟨10, (⟨6, 1⟩ : S24)⟩ : S26) [.int .i64 10, .int .i64 6, .int .i64 1] from (k26_mkM _ _ _ (⟨10, (⟨6, 1⟩ : S24)⟩ : S26) )) (Reps.none _ _)))); intro v310 w39 ho40 hb hg_ hnew_; clear hg_ hnew_; (first | rw [← Ny309.out] at ho40 | (simp only [Int.reduceToNat] at ho40; rw [← Ny309.out] at ho40)); have n0_ := Aside0.mk (Kd.R_lower ho40 (below_size (belN HB.out))); have n1_ := Aside0.mk (below_step (belN HB.out) hb); clear HB; have HO311 := n0_; have HB := n1_; clear n0_ n1_; clear hb ho40; obtain ⟨Ao41, co41, eo41⟩ := Kd.R_slice HO311.out; subst eo41) | ((with_reducible refine gate_callee (f := 13) rfl ?_); refine goesL_ (some 11) rfl rfl Try.func13 (by kernel_rfl) rfl #[.slice Ao41 y309.length co41, .bool false, .int .i64 0] rfl argN ?_; (with_reducible refine (rate_Do.calls k _ _ y309 false 0 t312 t313 _ ?side1 ?side2 A1.out).mono ?_); (case side1 => repeat (first | exact (Kd.R_reads' HO311.out).2.2 | (with_reducible refine Kd.C_alloc ?_ _) | (with_reducible refine Kd.C_drewN ?_ _) | (with_reducible refine Kd.C_drew ?_))); (case side2 => exact (Kd.R_reads' HO311.out).2.1); rintro e w42 ⟨v314, rfl, ho0, hb⟩; refine ⟨_, rfl, ?_⟩; have n0_ := Aside0.mk (Kd.R_elder' (rowN HO311.out) (Kd.R_base ho0) hb); have n1_ := Aside0.mk (Kd.R_lower (Kd.R_new' ho0 (Kd.R_lt (rowN HO311.out))) (below_size (belN HB.out))); have n2_ := Aside0.mk (below_step (belN HB.out) hb); clear HO311; clear HB; have HO311 := n0_; have HO315 := n1_; have HB := n2_; clear n0_ n1_ n2_; (try clear hb); (try clear hk); (try clear ho0)) | ((with_reducible refine gate_dst (N := 19) rfl ?_); (try (refine gate_guard (by rfl) ?_; dsimp only)); refine Kd.R_lit k26 _ 26 ?hg (N := 19) ?hd (xs := ([(⟨0, (⟨8, 1⟩ : S24)⟩ : S26), (⟨3, (⟨1, 1⟩ : S24)⟩ : S26)] : List (S26))) (inner := [.int .i64 0, .int .i64 8, .int .i64 1, .int .i64 3, .int .i64 1, .int .i64 1]) (ok := fun _ => True) (okp := fun _ => True) ?hr ?hp (fun _ hk => hk) trivial (Below.refl _ _) (Nat.le_refl _) (by simp) ?_; (case hd => rfl); (case hg => rfl); (case hr => first | (go_simp; done) | (go_simp; rfl)); (case hp => exact (Reps.c3 (show Kd.M k26 _ _ _ (⟨0, (⟨8, 1⟩ : S24)⟩ : S26) [.int .i64 0, .int .i64 8, .int .i64 1] from (k26_mkM _ _ _ (⟨0, (⟨8, 1⟩ : S24)⟩ : S26) )) (Reps.c3 (show Kd.M k26 _ _ _ (⟨3, (⟨1, 1⟩ : S24)⟩ : S26) [.int .i64 3, .int .i64 1, .int .i64 1] from (k26_mkM _ _ _ (⟨3, (⟨1, 1⟩ : S24)⟩ : S26) )) (Reps.none _ _)))); intro v317 w43 ho44 hb hg_ hnew_; clear hg_ hnew_; (first | rw [← Ny316.out] at ho44 | (simp only [Int.reduceToNat] at ho44; rw [← Ny316.out] at ho44)); have n0_ := Aside0.mk (Kd.R_elder' (rowN HO311.out) (Kd.R_base ho44) hb); have n1_ := Aside0.mk (Kd.R_elder' (rowN HO315.out) (Kd.R_base ho44) hb); have n2_ := Aside0.mk (Kd.R_lower (Kd.R_new' (Kd.R_new' ho44 (Kd.R_lt (rowN HO311.out))) (Kd.R_lt (rowN HO315.out))) (below_size (belN HB.out))); have n3_ := Aside0.mk (below_step (belN HB.out) hb); clear HO311; clear HO315; clear HB; have HO311 := n0_; have HO315 := n1_; have HO318 := n2_; have HB := n3_; clear n0_ n1_ n2_ n3_; clear hb ho44; obtain ⟨Ao45, co45, eo45⟩ := Kd.R_slice HO318.out; subst eo45) | ((with_reducible refine gate_callee (f := 13) rfl ?_); refine goesL_ (some 20) rfl rfl Try.func13 (by kernel_rfl) rfl #[.slice Ao45 y316.length co45, .bool true, .int .i64 10] rfl argN ?_; (with_reducible refine (rate_Do.calls k _ _ y316 true 10 t319 t320 _ ?side1 ?side2 A2.out).mono ?_); (case side1 => repeat (first | exact (Kd.R_reads' HO318.out).2.2 | (with_reducible refine Kd.C_alloc ?_ _) | (with_reducible refine Kd.C_drewN ?_ _) | (with_reducible refine Kd.C_drew ?_))); (case side2 => exact (Kd.R_reads' HO318.out).2.1); rintro e w46 ⟨v321, rfl, ho0, hb⟩; refine ⟨_, rfl, ?_⟩; have n0_ := Aside0.mk (Kd.R_elder' (rowN HO311.out) (Kd.R_base ho0) hb); have n1_ := Aside0.mk (Kd.R_elder' (rowN HO315.out) (Kd.R_base ho0) hb); have n2_ := Aside0.mk (Kd.R_elder' (rowN HO318.out) (Kd.R_base ho0) hb); have n3_ := Aside0.mk (Kd.R_lower (Kd.R_new' (Kd.R_new' (Kd.R_new' ho0 (Kd.R_lt (rowN HO311.out))) (Kd.R_lt (rowN HO315.out))) (Kd.R_lt (rowN HO318.out))) (below_size (belN HB.out))); have n4_ := Aside0.mk (below_step (belN HB.out) hb); clear HO311; clear HO315; clear HO318; clear HB; have HO311 := n0_; have HO315 := n1_; have HO318 := n2_; have HO322 := n3_; have HB := n4_; clear n0_ n1_ n2_ n3_ n4_; (try clear hb); (try clear hk); (try clear ho0); obtain ⟨Ao47, co47, eo47⟩ := Kd.R_slice HO315.out; subst eo47; have p323 : 0 ≤ (0 : Int) := (by omega); have q323 : 0 < (t312.length : Int) := of_decide_eq_true (by first | (with_reducible assumption) | assumption); obtain ⟨ad323, e323, hx323_0, hx323_1, hx323_2⟩ := at_T26 (Kd.R_reads' HO315.out).2.2 0 p323 q323; cases e323; have qi323 : (0 < t312.length) = True := eq_true (by omega); (try rw [show ((0 : Int)).toNat = 0 from rfl] at hx323_0); (try rw [show 0 * 3 = 0 from rfl] at hx323_0); (try rw [Addr.add_zero'] at hx323_0); (try rw [show ((0 : Int)).toNat = 0 from rfl] at hx323_1); (try rw [show 0 * 3 = 0 from rfl] at hx323_1); (try rw [Addr.add_zero'] at hx323_1); (try rw [show ((0 : Int)).toNat = 0 from rfl] at hx323_2); (try rw [show 0 * 3 = 0 from rfl] at hx323_2); (try rw [Addr.add_zero'] at hx323_2); replace p323 := eq_true p323; replace q323 := eq_true q323))
     go_ret
     exact ⟨by first | rfl | (simp [errW_none, errW_some] <;> rfl) | (simp [*, errW_none, errW_some] <;> rfl), (belN HB.out)⟩
   ·rw [if_neg c5] at H
    exact absurd H (by simp)
  ·rw [if_neg c4] at H
   have c4b0 : ((t312.length : Int) == 1) = false := beq_eq_false_iff_ne.mpr c4
   have c4b1 : ((t312.length : Int) != 1) = true := bne_iff_ne.mpr c4
   obtain rfl := Option.some.inj H
   go_enter Try.func12, Try.ntmps12
   go_wp2_with (first | ((with_reducible refine gate_dst (N := 10) rfl ?_); (try (refine gate_guard (by rfl) ?_; dsimp only)); refine Kd.R_lit k26 _ 26 ?hg (N := 10) ?hd (xs := ([(⟨0, (⟨1, 1⟩ : S24)⟩ : S26), (⟨10, (⟨6, 1⟩ : S24)⟩ : S26)] : List (S26))) (inner := [.int .i64 0, .int .i64 1, .int .i64 1, .int .i64 10, .int .i64 6, .int .i64 1]) (ok := fun _ => True) (okp := fun _ => True) ?hr ?hp (fun _ hk => hk) trivial (Below.refl _ _) (Nat.le_refl _) (by simp) ?_; (case hd => rfl); (case hg => rfl); (case hr => first | (go_simp; done) | (go_simp; rfl)); (case hp => exact (Reps.c3 (show Kd.M k26 _ _ _ (⟨0, (⟨1, 1⟩ : S24)⟩ : S26) [.int .i64 0, .int .i64 1, .int .i64 1] from (k26_mkM _ _ _ (⟨0, (⟨1, 1⟩ : S24)⟩ : S26) )) (Reps.c3 (show Kd.M k26 _ _ _ (⟨10, (⟨6, 1⟩ : S24)⟩ : S26) [.int .i64 10, .int .i64 6, .int .i64 1] from (k26_mkM _ _ _ (⟨10, (⟨6, 1⟩ : S24)⟩ : S26) )) (Reps.none _ _)))); intro v310 w48 ho49 hb hg_ hnew_; clear hg_ hnew_; (first | rw [← Ny309.out] at ho49 | (simp only [Int.reduceToNat] at ho49; rw [← Ny309.out] at ho49)); have n0_ := Aside0.mk (Kd.R_lower ho49 (below_size (belN HB.out))); have n1_ := Aside0.mk (below_step (belN HB.out) hb); clear HB; have HO311 := n0_; have HB := n1_; clear n0_ n1_; clear hb ho49; obtain ⟨Ao50, co50, eo50⟩ := Kd.R_slice HO311.out; subst eo50) | ((with_reducible refine gate_callee (f := 13) rfl ?_); refine goesL_ (some 11) rfl rfl Try.func13 (by kernel_rfl) rfl #[.slice Ao50 y309.length co50, .bool false, .int .i64 0] rfl argN ?_; (with_reducible refine (rate_Do.calls k _ _ y309 false 0 t312 t313 _ ?side1 ?side2 A1.out).mono ?_); (case side1 => repeat (first | exact (Kd.R_reads' HO311.out).2.2 | (with_reducible refine Kd.C_alloc ?_ _) | (with_reducible refine Kd.C_drewN ?_ _) | (with_reducible refine Kd.C_drew ?_))); (case side2 => exact (Kd.R_reads' HO311.out).2.1); rintro e w51 ⟨v314, rfl, ho0, hb⟩; refine ⟨_, rfl, ?_⟩; have n0_ := Aside0.mk (Kd.R_elder' (rowN HO311.out) (Kd.R_base ho0) hb); have n1_ := Aside0.mk (Kd.R_lower (Kd.R_new' ho0 (Kd.R_lt (rowN HO311.out))) (below_size (belN HB.out))); have n2_ := Aside0.mk (below_step (belN HB.out) hb); clear HO311; clear HB; have HO311 := n0_; have HO315 := n1_; have HB := n2_; clear n0_ n1_ n2_; (try clear hb); (try clear hk); (try clear ho0)) | ((with_reducible refine gate_dst (N := 19) rfl ?_); (try (refine gate_guard (by rfl) ?_; dsimp only)); refine Kd.R_lit k26 _ 26 ?hg (N := 19) ?hd (xs := ([(⟨0, (⟨8, 1⟩ : S24)⟩ : S26), (⟨3, (⟨1, 1⟩ : S24)⟩ : S26)] : List (S26))) (inner := [.int .i64 0, .int .i64 8, .int .i64 1, .int .i64 3, .int .i64 1, .int .i64 1]) (ok := fun _ => True) (okp := fun _ => True) ?hr ?hp (fun _ hk => hk) trivial (Below.refl _ _) (Nat.le_refl _) (by simp) ?_; (case hd => rfl); (case hg => rfl); (case hr => first | (go_simp; done) | (go_simp; rfl)); (case hp => exact (Reps.c3 (show Kd.M k26 _ _ _ (⟨0, (⟨8, 1⟩ : S24)⟩ : S26) [.int .i64 0, .int .i64 8, .int .i64 1] from (k26_mkM _ _ _ (⟨0, (⟨8, 1⟩ : S24)⟩ : S26) )) (Reps.c3 (show Kd.M k26 _ _ _ (⟨3, (⟨1, 1⟩ : S24)⟩ : S26) [.int .i64 3, .int .i64 1, .int .i64 1] from (k26_mkM _ _ _ (⟨3, (⟨1, 1⟩ : S24)⟩ : S26) )) (Reps.none _ _)))); intro v317 w52 ho53 hb hg_ hnew_; clear hg_ hnew_; (first | rw [← Ny316.out] at ho53 | (simp only [Int.reduceToNat] at ho53; rw [← Ny316.out] at ho53)); have n0_ := Aside0.mk (Kd.R_elder' (rowN HO311.out) (Kd.R_base ho53) hb); have n1_ := Aside0.mk (Kd.R_elder' (rowN HO315.out) (Kd.R_base ho53) hb); have n2_ := Aside0.mk (Kd.R_lower (Kd.R_new' (Kd.R_new' ho53 (Kd.R_lt (rowN HO311.out))) (Kd.R_lt (rowN HO315.out))) (below_size (belN HB.out))); have n3_ := Aside0.mk (below_step (belN HB.out) hb); clear HO311; clear HO315; clear HB; have HO311 := n0_; have HO315 := n1_; have HO318 := n2_; have HB := n3_; clear n0_ n1_ n2_ n3_; clear hb ho53; obtain ⟨Ao54, co54, eo54⟩ := Kd.R_slice HO318.out; subst eo54) | ((with_reducible refine gate_callee (f := 13) rfl ?_); refine goesL_ (some 20) rfl rfl Try.func13 (by kernel_rfl) rfl #[.slice Ao54 y316.length co54, .bool true, .int .i64 10] rfl argN ?_; (with_reducible refine (rate_Do.calls k _ _ y316 true 10 t319 t320 _ ?side1 ?side2 A2.out).mono ?_); (case side1 => repeat (first | exact (Kd.R_reads' HO318.out).2.2 | (with_reducible refine Kd.C_alloc ?_ _) | (with_reducible refine Kd.C_drewN ?_ _) | (with_reducible refine Kd.C_drew ?_))); (case side2 => exact (Kd.R_reads' HO318.out).2.1); rintro e w55 ⟨v321, rfl, ho0, hb⟩; refine ⟨_, rfl, ?_⟩; have n0_ := Aside0.mk (Kd.R_elder' (rowN HO311.out) (Kd.R_base ho0) hb); have n1_ := Aside0.mk (Kd.R_elder' (rowN HO315.out) (Kd.R_base ho0) hb); have n2_ := Aside0.mk (Kd.R_elder' (rowN HO318.out) (Kd.R_base ho0) hb); have n3_ := Aside0.mk (Kd.R_lower (Kd.R_new' (Kd.R_new' (Kd.R_new' ho0 (Kd.R_lt (rowN HO311.out))) (Kd.R_lt (rowN HO315.out))) (Kd.R_lt (rowN HO318.out))) (below_size (belN HB.out))); have n4_ := Aside0.mk (below_step (belN HB.out) hb); clear HO311; clear HO315; clear HO318; clear HB; have HO311 := n0_; have HO315 := n1_; have HO318 := n2_; have HO322 := n3_; have HB := n4_; clear n0_ n1_ n2_ n3_ n4_; (try clear hb); (try clear hk); (try clear ho0); obtain ⟨Ao56, co56, eo56⟩ := Kd.R_slice HO315.out; subst eo56))
   go_ret
   exact ⟨by first | rfl | (simp [errW_none, errW_some] <;> rfl) | (simp [*, errW_none, errW_some] <;> rfl), (belN HB.out)⟩
 ·rw [if_neg c3] at H
  have c3b0 : (t313 == 0) = false := beq_eq_false_iff_ne.mpr c3
  have c3b1 : (t313 != 0) = true := bne_iff_ne.mpr c3
  obtain rfl := Option.some.inj H
  go_enter Try.func12, Try.ntmps12
  go_wp2_with (first | ((with_reducible refine gate_dst (N := 10) rfl ?_); (try (refine gate_guard (by rfl) ?_; dsimp only)); refine Kd.R_lit k26 _ 26 ?hg (N := 10) ?hd (xs := ([(⟨0, (⟨1, 1⟩ : S24)⟩ : S26), (⟨10, (⟨6, 1⟩ : S24)⟩ : S26)] : List (S26))) (inner := [.int .i64 0, .int .i64 1, .int .i64 1, .int .i64 10, .int .i64 6, .int .i64 1]) (ok := fun _ => True) (okp := fun _ => True) ?hr ?hp (fun _ hk => hk) trivial (Below.refl _ _) (Nat.le_refl _) (by simp) ?_; (case hd => rfl); (case hg => rfl); (case hr => first | (go_simp; done) | (go_simp; rfl)); (case hp => exact (Reps.c3 (show Kd.M k26 _ _ _ (⟨0, (⟨1, 1⟩ : S24)⟩ : S26) [.int .i64 0, .int .i64 1, .int .i64 1] from (k26_mkM _ _ _ (⟨0, (⟨1, 1⟩ : S24)⟩ : S26) )) (Reps.c3 (show Kd.M k26 _ _ _ (⟨10, (⟨6, 1⟩ : S24)⟩ : S26) [.int .i64 10, .int .i64 6, .int .i64 1] from (k26_mkM _ _ _ (⟨10, (⟨6, 1⟩ : S24)⟩ : S26) )) (Reps.none _ _)))); intro v310 w57 ho58 hb hg_ hnew_; clear hg_ hnew_; (first | rw [← Ny309.out] at ho58 | (simp only [Int.reduceToNat] at ho58; rw [← Ny309.out] at ho58)); have n0_ := Aside0.mk (Kd.R_lower ho58 (below_size (belN HB.out))); have n1_ := Aside0.mk (below_step (belN HB.out) hb); clear HB; have HO311 := n0_; have HB := n1_; clear n0_ n1_; clear hb ho58; obtain ⟨Ao59, co59, eo59⟩ := Kd.R_slice HO311.out; subst eo59) | ((with_reducible refine gate_callee (f := 13) rfl ?_); refine goesL_ (some 11) rfl rfl Try.func13 (by kernel_rfl) rfl #[.slice Ao59 y309.length co59, .bool false, .int .i64 0] rfl argN ?_; (with_reducible refine (rate_Do.calls k _ _ y309 false 0 t312 t313 _ ?side1 ?side2 A1.out).mono ?_); (case side1 => repeat (first | exact (Kd.R_reads' HO311.out).2.2 | (with_reducible refine Kd.C_alloc ?_ _) | (with_reducible refine Kd.C_drewN ?_ _) | (with_reducible refine Kd.C_drew ?_))); (case side2 => exact (Kd.R_reads' HO311.out).2.1); rintro e w60 ⟨v314, rfl, ho0, hb⟩; refine ⟨_, rfl, ?_⟩; have n0_ := Aside0.mk (Kd.R_elder' (rowN HO311.out) (Kd.R_base ho0) hb); have n1_ := Aside0.mk (Kd.R_lower (Kd.R_new' ho0 (Kd.R_lt (rowN HO311.out))) (below_size (belN HB.out))); have n2_ := Aside0.mk (below_step (belN HB.out) hb); clear HO311; clear HB; have HO311 := n0_; have HO315 := n1_; have HB := n2_; clear n0_ n1_ n2_; (try clear hb); (try clear hk); (try clear ho0)) | ((with_reducible refine gate_dst (N := 19) rfl ?_); (try (refine gate_guard (by rfl) ?_; dsimp only)); refine Kd.R_lit k26 _ 26 ?hg (N := 19) ?hd (xs := ([(⟨0, (⟨8, 1⟩ : S24)⟩ : S26), (⟨3, (⟨1, 1⟩ : S24)⟩ : S26)] : List (S26))) (inner := [.int .i64 0, .int .i64 8, .int .i64 1, .int .i64 3, .int .i64 1, .int .i64 1]) (ok := fun _ => True) (okp := fun _ => True) ?hr ?hp (fun _ hk => hk) trivial (Below.refl _ _) (Nat.le_refl _) (by simp) ?_; (case hd => rfl); (case hg => rfl); (case hr => first | (go_simp; done) | (go_simp; rfl)); (case hp => exact (Reps.c3 (show Kd.M k26 _ _ _ (⟨0, (⟨8, 1⟩ : S24)⟩ : S26) [.int .i64 0, .int .i64 8, .int .i64 1] from (k26_mkM _ _ _ (⟨0, (⟨8, 1⟩ : S24)⟩ : S26) )) (Reps.c3 (show Kd.M k26 _ _ _ (⟨3, (⟨1, 1⟩ : S24)⟩ : S26) [.int .i64 3, .int .i64 1, .int .i64 1] from (k26_mkM _ _ _ (⟨3, (⟨1, 1⟩ : S24)⟩ : S26) )) (Reps.none _ _)))); intro v317 w61 ho62 hb hg_ hnew_; clear hg_ hnew_; (first | rw [← Ny316.out] at ho62 | (simp only [Int.reduceToNat] at ho62; rw [← Ny316.out] at ho62)); have n0_ := Aside0.mk (Kd.R_elder' (rowN HO311.out) (Kd.R_base ho62) hb); have n1_ := Aside0.mk (Kd.R_elder' (rowN HO315.out) (Kd.R_base ho62) hb); have n2_ := Aside0.mk (Kd.R_lower (Kd.R_new' (Kd.R_new' ho62 (Kd.R_lt (rowN HO311.out))) (Kd.R_lt (rowN HO315.out))) (below_size (belN HB.out))); have n3_ := Aside0.mk (below_step (belN HB.out) hb); clear HO311; clear HO315; clear HB; have HO311 := n0_; have HO315 := n1_; have HO318 := n2_; have HB := n3_; clear n0_ n1_ n2_ n3_; clear hb ho62; obtain ⟨Ao63, co63, eo63⟩ := Kd.R_slice HO318.out; subst eo63) | ((with_reducible refine gate_callee (f := 13) rfl ?_); refine goesL_ (some 20) rfl rfl Try.func13 (by kernel_rfl) rfl #[.slice Ao63 y316.length co63, .bool true, .int .i64 10] rfl argN ?_; (with_reducible refine (rate_Do.calls k _ _ y316 true 10 t319 t320 _ ?side1 ?side2 A2.out).mono ?_); (case side1 => repeat (first | exact (Kd.R_reads' HO318.out).2.2 | (with_reducible refine Kd.C_alloc ?_ _) | (with_reducible refine Kd.C_drewN ?_ _) | (with_reducible refine Kd.C_drew ?_))); (case side2 => exact (Kd.R_reads' HO318.out).2.1); rintro e w64 ⟨v321, rfl, ho0, hb⟩; refine ⟨_, rfl, ?_⟩; have n0_ := Aside0.mk (Kd.R_elder' (rowN HO311.out) (Kd.R_base ho0) hb); have n1_ := Aside0.mk (Kd.R_elder' (rowN HO315.out) (Kd.R_base ho0) hb); have n2_ := Aside0.mk (Kd.R_elder' (rowN HO318.out) (Kd.R_base ho0) hb); have n3_ := Aside0.mk (Kd.R_lower (Kd.R_new' (Kd.R_new' (Kd.R_new' ho0 (Kd.R_lt (rowN HO311.out))) (Kd.R_lt (rowN HO315.out))) (Kd.R_lt (rowN HO318.out))) (below_size (belN HB.out))); have n4_ := Aside0.mk (below_step (belN HB.out) hb); clear HO311; clear HO315; clear HO318; clear HB; have HO311 := n0_; have HO315 := n1_; have HO318 := n2_; have HO322 := n3_; have HB := n4_; clear n0_ n1_ n2_ n3_ n4_; (try clear hb); (try clear hk); (try clear ho0)))
  go_ret
  exact ⟨by first | rfl | (simp [errW_none, errW_some] <;> rfl) | (simp [*, errW_none, errW_some] <;> rfl), (belN HB.out)⟩

-- NOT PRINTED: function 4 (marigraphlaw24_RateTells)

end Go.Proofs.Ytlmcnlaopolinaa.PRateTells

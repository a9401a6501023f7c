/- The walk of the Go functions that a law reaches, told as plain functions; a program of this session has written it. No condition beyond the statement's own. -/
import Derived.Test.YtlmcnlaopolinaaPRateTellsx0
import Derived.Test.YtlmcnlaopolinaaPRateTellsx3
import Derived.Test.YtlmcnlaopolinaaPRateTellsx9
import Derived.Test.YtlmcnlaopolinaaPRateTellsx10
import Derived.Test.YtlmcnlaopolinaaPRateTellsx11
import Derived.Test.YtlmcnlaopolinaaPRateTellsx12
namespace Go.Proofs.Ytlmcnlaopolinaa.PRateTells
open Go.RowKit Go.Proofs.YtlmcnlaopolinaaW.PrintWords Go.Proofs.YtlmcnlaopolinaaW.PrintLast Go.Proofs.YtlmcnlaopolinaaW.PrintMore
attribute [local go_sem] max2_int min2_int max_two min_two max_three min_three max_four min_four   -- for this text's walks alone
set_option linter.unusedVariables false
set_option linter.unusedSimpArgs false

/-! ### marigraphref21_Rate: function 19 -/
mutual
def marigraphref21_Rate.j0 : Nat → List (S26) → Bool → Int → Bool → Option ((List (S26)) × Int)
 | 0, _, _, _, _ => none
 | k + 1, x0, x1, x2, x28 => if x28 = true then (some (([] : List (S26)), 1)) else (marigraphref21_Rate.l0 k x0 x1 x2 ([] : List (S26)) 1)
def marigraphref21_Rate.l0 : Nat → List (S26) → Bool → Int → List (S26) → Int → Option ((List (S26)) × Int)
 | 0, _, _, _, _, _ => none
 | k + 1, x0, x1, x2, x8, x9 => if x9 < (x0.length : Int) then (if 0 ≤ (wrap64 (x9 - 1)) then (if (wrap64 (x9 - 1)) < (x0.length : Int) then (if 0 ≤ x9 then ((marigraphref1_Op.f k 45 ((rd_T26 x0 x9).f1.f0) ((rd_T26 x0 x9).f1.f1) ((rd_T26 x0 (wrap64 (x9 - 1))).f1.f0) ((rd_T26 x0 (wrap64 (x9 - 1))).f1.f1)).bind fun bt277 => (if x1 = true then ((marigraphref1_Cmp.f k ((rd_T26 x0 x9).f1.f0) ((rd_T26 x0 x9).f1.f1) ((rd_T26 x0 (wrap64 (x9 - 1))).f1.f0) ((rd_T26 x0 (wrap64 (x9 - 1))).f1.f1)).bind fun t281 => (marigraphref21_Rate.j2 k x0 x1 x2 x8 x9 bt277.2.2 (decide (t281 < 0)) ((rd_T26 x0 (wrap64 (x9 - 1))).f0) ((rd_T26 x0 (wrap64 (x9 - 1))).f1.f0) ((rd_T26 x0 (wrap64 (x9 - 1))).f1.f1) ((rd_T26 x0 x9).f0) ((rd_T26 x0 x9).f1.f0) ((rd_T26 x0 x9).f1.f1) bt277.1 bt277.2.1)) else (marigraphref21_Rate.j2 k x0 x1 x2 x8 x9 bt277.2.2 false ((rd_T26 x0 (wrap64 (x9 - 1))).f0) ((rd_T26 x0 (wrap64 (x9 - 1))).f1.f0) ((rd_T26 x0 (wrap64 (x9 - 1))).f1.f1) ((rd_T26 x0 x9).f0) ((rd_T26 x0 x9).f1.f0) ((rd_T26 x0 x9).f1.f1) bt277.1 bt277.2.1))) else (none)) else (none)) else (none)) else (some (x8, 0))
def marigraphref21_Rate.j2 : Nat → List (S26) → Bool → Int → List (S26) → Int → Int → Bool → Int → Int → Int → Int → Int → Int → Int → Int → Option ((List (S26)) × Int)
 | 0, _, _, _, _, _, _, _, _, _, _, _, _, _, _, _ => none
 | k + 1, x0, x1, x2, x8, x9, x13, x60, x276000, x276001, x276002, x277000, x277001, x277002, x281000, x281001 => if x60 = true then ((marigraphref1_Op.f k 45 x2 1 x276001 x276002).bind fun bt282 => (if bt282.2.2 = 0 then ((marigraphref1_Op.f k 43 bt282.1 bt282.2.1 x277001 x277002).bind fun bt285 => (marigraphref21_Rate.j3 k x0 x1 x2 x8 x9 bt285.2.2 x276000 x276001 x276002 x277000 x277001 x277002 bt285.1 bt285.2.1)) else (marigraphref21_Rate.j3 k x0 x1 x2 x8 x9 bt282.2.2 x276000 x276001 x276002 x277000 x277001 x277002 bt282.1 bt282.2.1))) else (marigraphref21_Rate.j3 k x0 x1 x2 x8 x9 x13 x276000 x276001 x276002 x277000 x277001 x277002 x281000 x281001)
def marigraphref21_Rate.j3 : Nat → List (S26) → Bool → Int → List (S26) → Int → Int → Int → Int → Int → Int → Int → Int → Int → Int → Option ((List (S26)) × Int)
 | 0, _, _, _, _, _, _, _, _, _, _, _, _, _, _ => none
 | k + 1, x0, x1, x2, x8, x9, x13, x276000, x276001, x276002, x277000, x277001, x277002, x281000, x281001 => if x13 = 0 then ((marigraphref1_New.f k (wrap64 (x277000 - x276000)) 1).bind fun bt288 => (if bt288.2.2 = 0 then ((marigraphref1_Op.f k 47 x281000 x281001 bt288.1 bt288.2.1).bind fun bt292 => (if bt292.2.2 = 0 then (if x8.length < 5864062014805 then (marigraphref21_Rate.l0 k x0 x1 x2 (x8 ++ [(⟨x277000, (⟨bt292.1, bt292.2.1⟩ : S24)⟩ : S26)]) (wrap64 (x9 + 1))) else (none)) else (some (([] : List (S26)), bt292.2.2)))) else (some (([] : List (S26)), bt288.2.2)))) else (some (([] : List (S26)), x13))
end
def marigraphref21_Rate.f (k : Nat) (l0 : List (S26)) (a1 : Bool) (a2 : Int) : Option ((List (S26)) × Int) := (marigraphref21_Right.f k l0).bind fun t272 => (if t272 = true then (if a1 = true then (if a2 < 1 then (marigraphref21_Rate.j0 k l0 a1 a2 true) else (marigraphref21_Rate.j0 k l0 a1 a2 (decide (a2 > 2147483647)))) else (marigraphref21_Rate.j0 k l0 a1 a2 false)) else (marigraphref21_Rate.j0 k l0 a1 a2 true))
theorem marigraphref21_Rate.mono_l : ∀ k, (∀ y0 y1 y2 y3, LeO (marigraphref21_Rate.j0 k y0 y1 y2 y3) (marigraphref21_Rate.j0 (k + 1) y0 y1 y2 y3)) ∧ (∀ y0 y1 y2 y3 y4, LeO (marigraphref21_Rate.l0 k y0 y1 y2 y3 y4) (marigraphref21_Rate.l0 (k + 1) y0 y1 y2 y3 y4)) ∧ (∀ y0 y1 y2 y3 y4 y5 y6 y7 y8 y9 y10 y11 y12 y13 y14, LeO (marigraphref21_Rate.j2 k y0 y1 y2 y3 y4 y5 y6 y7 y8 y9 y10 y11 y12 y13 y14) (marigraphref21_Rate.j2 (k + 1) y0 y1 y2 y3 y4 y5 y6 y7 y8 y9 y10 y11 y12 y13 y14)) ∧ (∀ y0 y1 y2 y3 y4 y5 y6 y7 y8 y9 y10 y11 y12 y13, LeO (marigraphref21_Rate.j3 k y0 y1 y2 y3 y4 y5 y6 y7 y8 y9 y10 y11 y12 y13) (marigraphref21_Rate.j3 (k + 1) y0 y1 y2 y3 y4 y5 y6 y7 y8 y9 y10 y11 y12 y13))
 | 0 => ⟨fun _ _ _ _ r h => by simp [marigraphref21_Rate.j0] at h, fun _ _ _ _ _ r h => by simp [marigraphref21_Rate.l0] at h, fun _ _ _ _ _ _ _ _ _ _ _ _ _ _ _ r h => by simp [marigraphref21_Rate.j2] at h, fun _ _ _ _ _ _ _ _ _ _ _ _ _ _ r h => by simp [marigraphref21_Rate.j3] at h⟩
 | k + 1 => by
  obtain ⟨ih0, ih1, ih2, ih3⟩ := marigraphref21_Rate.mono_l k
  refine ⟨?_, ?_, ?_, ?_⟩
  ·intro y0 y1 y2 y3
   unfold marigraphref21_Rate.j0
   repeat' first
   | (with_reducible exact ih0 _ _ _ _)
   | (with_reducible exact ih1 _ _ _ _ _)
   | (with_reducible exact ih2 _ _ _ _ _ _ _ _ _ _ _ _ _ _ _)
   | (with_reducible exact ih3 _ _ _ _ _ _ _ _ _ _ _ _ _ _)
   | (with_reducible exact marigraphref1_Cmp.mono _ _ _ _ _)
   | (with_reducible exact marigraphref1_New.mono _ _ _)
   | (with_reducible exact marigraphref1_Op.mono _ _ _ _ _ _)
   | (with_reducible exact marigraphref21_Right.mono _ _)
   | (with_reducible exact LeO.refl _)
   | (with_reducible exact LeO.none _)
   | (with_reducible refine LeO.ite ?_ ?_)
   | (with_reducible refine LeO.bind ?_ (fun _ => ?_))
   | exact ih0 _ _ _ _
   | exact ih1 _ _ _ _ _
   | exact ih2 _ _ _ _ _ _ _ _ _ _ _ _ _ _ _
   | exact ih3 _ _ _ _ _ _ _ _ _ _ _ _ _ _
   | exact marigraphref1_Cmp.mono _ _ _ _ _
   | exact marigraphref1_New.mono _ _ _
   | exact marigraphref1_Op.mono _ _ _ _ _ _
   | exact marigraphref21_Right.mono _ _
   | exact LeO.none _
   | refine LeO.ite ?_ ?_
   | refine LeO.bind ?_ (fun _ => ?_)
  ·intro y0 y1 y2 y3 y4
   unfold marigraphref21_Rate.l0
   repeat' first
   | (with_reducible exact ih0 _ _ _ _)
   | (with_reducible exact ih1 _ _ _ _ _)
   | (with_reducible exact ih2 _ _ _ _ _ _ _ _ _ _ _ _ _ _ _)
   | (with_reducible exact ih3 _ _ _ _ _ _ _ _ _ _ _ _ _ _)
   | (with_reducible exact marigraphref1_Cmp.mono _ _ _ _ _)
   | (with_reducible exact marigraphref1_New.mono _ _ _)
   | (with_reducible exact marigraphref1_Op.mono _ _ _ _ _ _)
   | (with_reducible exact marigraphref21_Right.mono _ _)
   | (with_reducible exact LeO.refl _)
   | (with_reducible exact LeO.none _)
   | (with_reducible refine LeO.ite ?_ ?_)
   | (with_reducible refine LeO.bind ?_ (fun _ => ?_))
   | exact ih0 _ _ _ _
   | exact ih1 _ _ _ _ _
   | exact ih2 _ _ _ _ _ _ _ _ _ _ _ _ _ _ _
   | exact ih3 _ _ _ _ _ _ _ _ _ _ _ _ _ _
   | exact marigraphref1_Cmp.mono _ _ _ _ _
   | exact marigraphref1_New.mono _ _ _
   | exact marigraphref1_Op.mono _ _ _ _ _ _
   | exact marigraphref21_Right.mono _ _
   | exact LeO.none _
   | refine LeO.ite ?_ ?_
   | refine LeO.bind ?_ (fun _ => ?_)
  ·intro y0 y1 y2 y3 y4 y5 y6 y7 y8 y9 y10 y11 y12 y13 y14
   unfold marigraphref21_Rate.j2
   repeat' first
   | (with_reducible exact ih0 _ _ _ _)
   | (with_reducible exact ih1 _ _ _ _ _)
   | (with_reducible exact ih2 _ _ _ _ _ _ _ _ _ _ _ _ _ _ _)
   | (with_reducible exact ih3 _ _ _ _ _ _ _ _ _ _ _ _ _ _)
   | (with_reducible exact marigraphref1_Cmp.mono _ _ _ _ _)
   | (with_reducible exact marigraphref1_New.mono _ _ _)
   | (with_reducible exact marigraphref1_Op.mono _ _ _ _ _ _)
   | (with_reducible exact marigraphref21_Right.mono _ _)
   | (with_reducible exact LeO.refl _)
   | (with_reducible exact LeO.none _)
   | (with_reducible refine LeO.ite ?_ ?_)
   | (with_reducible refine LeO.bind ?_ (fun _ => ?_))
   | exact ih0 _ _ _ _
   | exact ih1 _ _ _ _ _
   | exact ih2 _ _ _ _ _ _ _ _ _ _ _ _ _ _ _
   | exact ih3 _ _ _ _ _ _ _ _ _ _ _ _ _ _
   | exact marigraphref1_Cmp.mono _ _ _ _ _
   | exact marigraphref1_New.mono _ _ _
   | exact marigraphref1_Op.mono _ _ _ _ _ _
   | exact marigraphref21_Right.mono _ _
   | exact LeO.none _
   | refine LeO.ite ?_ ?_
   | refine LeO.bind ?_ (fun _ => ?_)
  ·intro y0 y1 y2 y3 y4 y5 y6 y7 y8 y9 y10 y11 y12 y13
   unfold marigraphref21_Rate.j3
   repeat' first
   | (with_reducible exact ih0 _ _ _ _)
   | (with_reducible exact ih1 _ _ _ _ _)
   | (with_reducible exact ih2 _ _ _ _ _ _ _ _ _ _ _ _ _ _ _)
   | (with_reducible exact ih3 _ _ _ _ _ _ _ _ _ _ _ _ _ _)
   | (with_reducible exact marigraphref1_Cmp.mono _ _ _ _ _)
   | (with_reducible exact marigraphref1_New.mono _ _ _)
   | (with_reducible exact marigraphref1_Op.mono _ _ _ _ _ _)
   | (with_reducible exact marigraphref21_Right.mono _ _)
   | (with_reducible exact LeO.refl _)
   | (with_reducible exact LeO.none _)
   | (with_reducible refine LeO.ite ?_ ?_)
   | (with_reducible refine LeO.bind ?_ (fun _ => ?_))
   | exact ih0 _ _ _ _
   | exact ih1 _ _ _ _ _
   | exact ih2 _ _ _ _ _ _ _ _ _ _ _ _ _ _ _
   | exact ih3 _ _ _ _ _ _ _ _ _ _ _ _ _ _
   | exact marigraphref1_Cmp.mono _ _ _ _ _
   | exact marigraphref1_New.mono _ _ _
   | exact marigraphref1_Op.mono _ _ _ _ _ _
   | exact marigraphref21_Right.mono _ _
   | exact LeO.none _
   | refine LeO.ite ?_ ?_
   | refine LeO.bind ?_ (fun _ => ?_)
theorem marigraphref21_Rate.mono : ∀ a0 a1 a2 k, LeO (marigraphref21_Rate.f k a0 a1 a2) (marigraphref21_Rate.f (k + 1) a0 a1 a2) := by
 intro a0 a1 a2 k
 obtain ⟨ih0, ih1, ih2, ih3⟩ := marigraphref21_Rate.mono_l k
 unfold marigraphref21_Rate.f
 repeat' first
   | (with_reducible exact ih0 _ _ _ _)
   | (with_reducible exact ih1 _ _ _ _ _)
   | (with_reducible exact ih2 _ _ _ _ _ _ _ _ _ _ _ _ _ _ _)
   | (with_reducible exact ih3 _ _ _ _ _ _ _ _ _ _ _ _ _ _)
   | (with_reducible exact marigraphref1_Cmp.mono _ _ _ _ _)
   | (with_reducible exact marigraphref1_New.mono _ _ _)
   | (with_reducible exact marigraphref1_Op.mono _ _ _ _ _ _)
   | (with_reducible exact marigraphref21_Right.mono _ _)
   | (with_reducible exact LeO.refl _)
   | (with_reducible exact LeO.none _)
   | (with_reducible refine LeO.ite ?_ ?_)
   | (with_reducible refine LeO.bind ?_ (fun _ => ?_))
   | exact ih0 _ _ _ _
   | exact ih1 _ _ _ _ _
   | exact ih2 _ _ _ _ _ _ _ _ _ _ _ _ _ _ _
   | exact ih3 _ _ _ _ _ _ _ _ _ _ _ _ _ _
   | exact marigraphref1_Cmp.mono _ _ _ _ _
   | exact marigraphref1_New.mono _ _ _
   | exact marigraphref1_Op.mono _ _ _ _ _ _
   | exact marigraphref21_Right.mono _ _
   | exact LeO.none _
   | refine LeO.ite ?_ ?_
   | refine LeO.bind ?_ (fun _ => ?_)
def marigraphref21_Rate.T7 : Bool × List (List Nat × List Nat) := (true, [([], []), ([], []), ([1], [1]), ([0, 2], [0, 2]), ([3], [3]), ([], []), ([], []), ([5, 6], [5, 6]), ([7], [7]), ([], []), ([], []), ([9, 4, 0, 1, 2, 3, 4, 9, 10], [4, 9]), ([10, 8, 11, 0, 1, 2, 3, 4, 5, 6, 7, 8, 9, 10, 11], [8, 10])])
def marigraphref21_Rate.B7 : List Nat := [0, 0, 2, 7, 15, 0, 0, 96, 224, 0, 0, 1567, 4095]
theorem marigraphref21_Rate.tab7 : rtab .any (opsOf Try.f19 7) = marigraphref21_Rate.T7 := by kernel_rfl
theorem marigraphref21_Rate.bits7 : waitsOk marigraphref21_Rate.T7.2 marigraphref21_Rate.B7 = true := by kernel_rfl
set_option maxHeartbeats 8000000 in
set_option maxRecDepth 100000 in
theorem marigraphref21_Rate.calls (k : Nat) (A0 : Option Addr) (c0 : Nat) (l0 : List (S26)) (a1 : Bool) (a2 : Int) (r1 : List (S26)) (r2 : Int) (w : World) (hr0 : Kd.C k26 w A0 l0.length l0) (hc0 : l0.length ≤ c0) (h : marigraphref21_Rate.f k l0 a1 a2 = some (r1, r2)) :
  Calls Try.prog 19 #[.slice A0 l0.length c0, .bool a1, .int .i64 a2] w fun e w' => ∃ v0_ : Value, e = .returned (.tuple #[v0_, .int .i64 r2]) ∧ Kd.R k26 26 w' w.heap.size (fun _ => True) v0_ r1 ∧ Below w.heap.size w w' := by
 have hu26 := Try.underlying26
 have hu24 := Try.underlying24
 have HR0 := Aside0.mk hr0
 have HC0 := Aside0.mk hc0
 clear hr0 hc0
 have HB := Aside0.mk (Below.refl w.heap.size w)
 have H : ((marigraphref21_Right.f k l0).bind fun t272 => (if t272 = true then (if a1 = true then (if a2 < 1 then (marigraphref21_Rate.j0 k l0 a1 a2 true) else (marigraphref21_Rate.j0 k l0 a1 a2 (decide (a2 > 2147483647)))) else (marigraphref21_Rate.j0 k l0 a1 a2 false)) else (marigraphref21_Rate.j0 k l0 a1 a2 true))) = some (r1, r2) := h
 clear h
 have HC4 := Aside0.mk H
 clear H
 go_enter Try.func19, Try.ntmps19
 go_upto_region 1 with (fail)
 go_cut [28] (fun v28 wc => ∃ (kq : Nat) (x28_3 : Bool), v28 = .bool x28_3 ∧ Aside0 (marigraphref21_Rate.j0 kq l0 a1 a2 x28_3 = some (r1, r2)) ∧ Aside0 (kq ≤ k) ∧ Aside0 (Below w.heap.size w wc))
 case first =>
  have H := HC4.out
  clear HC4
  replace H := Option.bind_eq_some_iff.mp H
  obtain ⟨t272, A50, H⟩ := H
  replace H : (if t272 = true then (if a1 = true then (if a2 < 1 then (marigraphref21_Rate.j0 k l0 a1 a2 true) else (marigraphref21_Rate.j0 k l0 a1 a2 (decide (a2 > 2147483647)))) else (marigraphref21_Rate.j0 k l0 a1 a2 false)) else (marigraphref21_Rate.j0 k l0 a1 a2 true)) = some (r1, r2) := H
  have A5 := Aside0.mk A50
  clear A50
  by_cases c6 : t272 = true
  ·subst c6
   have H1 : (if a1 = true then (if a2 < 1 then (marigraphref21_Rate.j0 k l0 a1 a2 true) else (marigraphref21_Rate.j0 k l0 a1 a2 (decide (a2 > 2147483647)))) else (marigraphref21_Rate.j0 k l0 a1 a2 false)) = some (r1, r2) := by rw [if_pos rfl] at H; exact H
   clear H
   have H := H1
   clear H1
   by_cases c7 : a1 = true
   ·subst c7
    have H1 : (if a2 < 1 then (marigraphref21_Rate.j0 k l0 true a2 true) else (marigraphref21_Rate.j0 k l0 true a2 (decide (a2 > 2147483647)))) = some (r1, r2) := by rw [if_pos rfl] at H; exact H
    clear H
    have H := H1
    clear H1
    by_cases c8 : a2 < 1
    ·rw [if_pos c8] at H
     have c8b0 : decide (a2 < 1) = true := decide_eq_true c8
     clear c8
     (first | rw [c8b0] | rw [c8b1] | (simp only [i64_w, i32_w]; rw [c8b0]) | skip)
     have H' := Aside0.mk H
     clear H
     go_wp2_with (first | ((with_reducible refine gate_callee (f := 34) rfl ?_); refine goesL_ (some 16) rfl rfl Try.func34 (by kernel_rfl) rfl #[.slice A0 l0.length c0] rfl argN ?_; (with_reducible refine (marigraphref21_Right.calls k _ _ l0 true _ ?side1 ?side2 A5.out).mono ?_); (case side1 => repeat (first | exact (Kd.C_below HR0.out HB.out) | (with_reducible refine Kd.C_alloc ?_ _) | (with_reducible refine Kd.C_drewN ?_ _) | (with_reducible refine Kd.C_drew ?_))); (case side2 => exact HC0.out); rintro e w9 ⟨rfl, hb⟩; refine ⟨_, rfl, ?_⟩; have n0_ := Aside0.mk (below_step (belN HB.out) hb); clear HB; have HB := n0_; clear n0_; (try clear hb); (try clear hk)))
     go_meet
     case rel => exact ⟨_, (true), (by first | rfl | (simp; done) | (simp [*]; done)), H', ⟨by first | omega | exact Nat.le_refl _⟩, ⟨(belN HB.out)⟩⟩
    ·rw [if_neg c8] at H
     have c8b0 : decide (a2 < 1) = false := decide_eq_false c8
     clear c8
     (first | rw [c8b0] | rw [c8b1] | (simp only [i64_w, i32_w]; rw [c8b0]) | skip)
     have H' := Aside0.mk H
     clear H
     go_wp2_with (first | ((with_reducible refine gate_callee (f := 34) rfl ?_); refine goesL_ (some 16) rfl rfl Try.func34 (by kernel_rfl) rfl #[.slice A0 l0.length c0] rfl argN ?_; (with_reducible refine (marigraphref21_Right.calls k _ _ l0 true _ ?side1 ?side2 A5.out).mono ?_); (case side1 => repeat (first | exact (Kd.C_below HR0.out HB.out) | (with_reducible refine Kd.C_alloc ?_ _) | (with_reducible refine Kd.C_drewN ?_ _) | (with_reducible refine Kd.C_drew ?_))); (case side2 => exact HC0.out); rintro e w10 ⟨rfl, hb⟩; refine ⟨_, rfl, ?_⟩; have n0_ := Aside0.mk (below_step (belN HB.out) hb); clear HB; have HB := n0_; clear n0_; (try clear hb); (try clear hk)))
     go_meet
     case rel => exact ⟨_, (decide (a2 > 2147483647)), (by first | rfl | (simp; done) | (simp [*]; done)), H', ⟨by first | omega | exact Nat.le_refl _⟩, ⟨(belN HB.out)⟩⟩
   ·replace c7 := Bool.eq_false_iff.mpr c7
    subst c7
    have H1 : (marigraphref21_Rate.j0 k l0 false a2 false) = some (r1, r2) := by rw [if_neg (show ¬ (false = true) by decide)] at H; exact H
    clear H
    have H := H1
    clear H1
    have H' := Aside0.mk H
    clear H
    go_wp2_with (first | ((with_reducible refine gate_callee (f := 34) rfl ?_); refine goesL_ (some 16) rfl rfl Try.func34 (by kernel_rfl) rfl #[.slice A0 l0.length c0] rfl argN ?_; (with_reducible refine (marigraphref21_Right.calls k _ _ l0 true _ ?side1 ?side2 A5.out).mono ?_); (case side1 => repeat (first | exact (Kd.C_below HR0.out HB.out) | (with_reducible refine Kd.C_alloc ?_ _) | (with_reducible refine Kd.C_drewN ?_ _) | (with_reducible refine Kd.C_drew ?_))); (case side2 => exact HC0.out); rintro e w11 ⟨rfl, hb⟩; refine ⟨_, rfl, ?_⟩; have n0_ := Aside0.mk (below_step (belN HB.out) hb); clear HB; have HB := n0_; clear n0_; (try clear hb); (try clear hk)))
    go_meet
    case rel => exact ⟨_, (false), (by first | rfl | (simp; done) | (simp [*]; done)), H', ⟨by first | omega | exact Nat.le_refl _⟩, ⟨(belN HB.out)⟩⟩
  ·replace c6 := Bool.eq_false_iff.mpr c6
   subst c6
   have H1 : (marigraphref21_Rate.j0 k l0 a1 a2 true) = some (r1, r2) := by rw [if_neg (show ¬ (false = true) by decide)] at H; exact H
   clear H
   have H := H1
   clear H1
   have H' := Aside0.mk H
   clear H
   go_wp2_with (first | ((with_reducible refine gate_callee (f := 34) rfl ?_); refine goesL_ (some 16) rfl rfl Try.func34 (by kernel_rfl) rfl #[.slice A0 l0.length c0] rfl argN ?_; (with_reducible refine (marigraphref21_Right.calls k _ _ l0 false _ ?side1 ?side2 A5.out).mono ?_); (case side1 => repeat (first | exact (Kd.C_below HR0.out HB.out) | (with_reducible refine Kd.C_alloc ?_ _) | (with_reducible refine Kd.C_drewN ?_ _) | (with_reducible refine Kd.C_drew ?_))); (case side2 => exact HC0.out); rintro e w12 ⟨rfl, hb⟩; refine ⟨_, rfl, ?_⟩; have n0_ := Aside0.mk (below_step (belN HB.out) hb); clear HB; have HB := n0_; clear n0_; (try clear hb); (try clear hk)))
   go_meet
   case rel => exact ⟨_, (true), (by first | rfl | (simp; done) | (simp [*]; done)), H', ⟨by first | omega | exact Nat.le_refl _⟩, ⟨(belN HB.out)⟩⟩
 case rest =>
  clear HC4
  try clear c1
  try clear p2
  try clear c3
  try clear c6
  try clear c7
  try clear c8
  try clear c8b0
  obtain ⟨kq, x28_3, rfl, HA, HJ3, HB⟩ := hcut
  cases kq with
  | zero => exact absurd HA.out (by simp [marigraphref21_Rate.j0])
  | succ kj3 =>
   have H := HA.out
   clear HA
   simp only [marigraphref21_Rate.j0] at H
   by_cases c13 : x28_3 = true
   ·subst c13
    have H1 : (some (([] : List (S26)), 1)) = some (r1, r2) := by rw [if_pos rfl] at H; exact H
    clear H
    have H := H1
    clear H1
    simp only [Option.some.injEq, Prod.mk.injEq] at H
    obtain ⟨rfl, rfl⟩ := H
    go_wp2
    go_ret2
    exact ⟨_, by first | rfl | (simp [errW_none, errW_some] <;> rfl) | (simp [*, errW_none, errW_some] <;> rfl), by first | exact Kd.R_nil _ _ _ _ _ | exact Kd.N_nil _ _ _ _ _ | exact Kd.V_nil _ _ _ _ _ | exact Kd.Q_nil _ _ _ _ _ | exact Kd.S_nil _ _ _ _ _, (belN HB.out)⟩
   ·replace c13 := Bool.eq_false_iff.mpr c13
    subst c13
    have H1 : (marigraphref21_Rate.l0 kj3 l0 a1 a2 ([] : List (S26)) 1) = some (r1, r2) := by rw [if_neg (show ¬ (false = true) by decide)] at H; exact H
    clear H
    have H := H1
    clear H1
    have H' := Aside0.mk H
    clear H
    go_wp2
    go_loopg [8, 9] kj3 (fun kq v8 v9 w' => ∃ (x8_2 : List (S26)) (x9_2 : Int), v9 = .int .i64 x9_2 ∧ Aside0 (marigraphref21_Rate.l0 kq l0 a1 a2 x8_2 x9_2 = some (r1, r2)) ∧ Aside0 (kq ≤ kj3) ∧ Aside0 (Kd.R k26 26 w' w.heap.size (fun _ => True) v8 x8_2) ∧ Aside0 (Below w.heap.size w w'))
    case atStart => exact ⟨(([] : List (S26))), (1), (by first | rfl | (simp; done) | (simp [*]; done)), H', ⟨Nat.le_refl _⟩, ⟨by first | exact Kd.R_nil _ _ _ _ _ | exact Kd.N_nil _ _ _ _ _ | exact Kd.V_nil _ _ _ _ _ | exact Kd.Q_nil _ _ _ _ _ | exact Kd.S_nil _ _ _ _ _⟩, ⟨(belN HB.out)⟩⟩
    case round =>
     clear H'
     try clear c1
     try clear p2
     try clear c3
     try clear c6
     try clear c7
     try clear c8
     try clear c8b0
     try clear c13
     try clear p2
     obtain ⟨x8_2, x9_2, rfl, HA, HK2, HO_8, HB⟩ := hrel
     cases gk with
     | zero => exact absurd HA.out (by simp [marigraphref21_Rate.l0])
     | succ k2 =>
      have H := HA.out
      clear HA
      simp only [marigraphref21_Rate.l0] at H
      by_cases c14 : x9_2 < (l0.length : Int)
      ·rw [if_pos c14] at H
       have c14b0 : decide (x9_2 < (l0.length : Int)) = true := decide_eq_true c14
       clear c14
       obtain ⟨ji15, hji15⟩ : ∃ j_ : Int, (wrap64 (x9_2 - 1)) = j_ := ⟨_, rfl⟩
       replace H : (if 0 ≤ (ji15) then (if (ji15) < (l0.length : Int) then (if 0 ≤ x9_2 then ((marigraphref1_Op.f k2 45 ((rd_T26 l0 x9_2).f1.f0) ((rd_T26 l0 x9_2).f1.f1) ((rd_T26 l0 (ji15)).f1.f0) ((rd_T26 l0 (ji15)).f1.f1)).bind fun bt277 => (if a1 = true then ((marigraphref1_Cmp.f k2 ((rd_T26 l0 x9_2).f1.f0) ((rd_T26 l0 x9_2).f1.f1) ((rd_T26 l0 (ji15)).f1.f0) ((rd_T26 l0 (ji15)).f1.f1)).bind fun t281 => (marigraphref21_Rate.j2 k2 l0 a1 a2 x8_2 x9_2 bt277.2.2 (decide (t281 < 0)) ((rd_T26 l0 (ji15)).f0) ((rd_T26 l0 (ji15)).f1.f0) ((rd_T26 l0 (ji15)).f1.f1) ((rd_T26 l0 x9_2).f0) ((rd_T26 l0 x9_2).f1.f0) ((rd_T26 l0 x9_2).f1.f1) bt277.1 bt277.2.1)) else (marigraphref21_Rate.j2 k2 l0 a1 a2 x8_2 x9_2 bt277.2.2 false ((rd_T26 l0 (ji15)).f0) ((rd_T26 l0 (ji15)).f1.f0) ((rd_T26 l0 (ji15)).f1.f1) ((rd_T26 l0 x9_2).f0) ((rd_T26 l0 x9_2).f1.f0) ((rd_T26 l0 x9_2).f1.f1) bt277.1 bt277.2.1))) else (none)) else (none)) else (none)) = some (r1, r2) := by first | (rw [hji15] at H; exact H) | (simp only [hji15] at H ⊢; exact H)
       have hji15w : (IntKind.i64.wrap (x9_2 - 1)) = ji15 := (i64_w _).trans hji15
       by_cases c16 : 0 ≤ (ji15)
       ·rw [if_pos c16] at H
        have c16b0 : decide (0 ≤ (ji15)) = true := decide_eq_true c16
        clear c16
        by_cases c17 : (ji15) < (l0.length : Int)
        ·rw [if_pos c17] at H
         have c17b0 : decide ((ji15) < (l0.length : Int)) = true := decide_eq_true c17
         clear c17
         by_cases c18 : 0 ≤ x9_2
         ·rw [if_pos c18] at H
          have c18b0 : decide (0 ≤ x9_2) = true := decide_eq_true c18
          clear c18
          replace H := Option.bind_eq_some_iff.mp H
          obtain ⟨⟨t277, t278, t279⟩, A190, H⟩ := H
          replace H : (if a1 = true then ((marigraphref1_Cmp.f k2 ((rd_T26 l0 x9_2).f1.f0) ((rd_T26 l0 x9_2).f1.f1) ((rd_T26 l0 (ji15)).f1.f0) ((rd_T26 l0 (ji15)).f1.f1)).bind fun t281 => (marigraphref21_Rate.j2 k2 l0 a1 a2 x8_2 x9_2 t279 (decide (t281 < 0)) ((rd_T26 l0 (ji15)).f0) ((rd_T26 l0 (ji15)).f1.f0) ((rd_T26 l0 (ji15)).f1.f1) ((rd_T26 l0 x9_2).f0) ((rd_T26 l0 x9_2).f1.f0) ((rd_T26 l0 x9_2).f1.f1) t277 t278)) else (marigraphref21_Rate.j2 k2 l0 a1 a2 x8_2 x9_2 t279 false ((rd_T26 l0 (ji15)).f0) ((rd_T26 l0 (ji15)).f1.f0) ((rd_T26 l0 (ji15)).f1.f1) ((rd_T26 l0 x9_2).f0) ((rd_T26 l0 x9_2).f1.f0) ((rd_T26 l0 x9_2).f1.f1) t277 t278)) = some (r1, r2) := H
          have A19 := Aside0.mk A190
          clear A190
          have HC20 := Aside0.mk H
          clear H
          try go_wp2
          have n0_ := Aside0.mk (Kd.R_drew HO_8.out)
          have n1_ := Aside0.mk (below_drew1 HB.out)
          clear HO_8
          clear HB
          have HO_8 := n0_
          have HB := n1_
          clear n0_ n1_
          have p273 : 0 ≤ ((ji15) : Int) := of_decide_eq_true (by first | (with_reducible assumption) | assumption)
          have q273 : (ji15) < (l0.length : Int) := of_decide_eq_true (by first | (with_reducible assumption) | assumption)
          obtain ⟨ad273, e273, hx273_0, hx273_1, hx273_2⟩ := at_T26 HR0.out (ji15) p273 q273
          have hw273_2 := hx273_2
          have hw273_1 := hx273_1
          have hw273_0 := hx273_0
          cases e273
          replace hx273_0 := cellB HB.out hx273_0
          replace hx273_1 := cellB HB.out hx273_1
          replace hx273_2 := cellB HB.out hx273_2
          replace p273 := eq_true p273
          replace q273 := eq_true q273
          have p274 : 0 ≤ (x9_2 : Int) := of_decide_eq_true (by first | (with_reducible assumption) | assumption)
          have q274 : x9_2 < (l0.length : Int) := of_decide_eq_true (by first | (with_reducible assumption) | assumption)
          obtain ⟨ad274, e274, hx274_0, hx274_1, hx274_2⟩ := at_T26 HR0.out x9_2 p274 q274
          have hw274_2 := hx274_2
          have hw274_1 := hx274_1
          have hw274_0 := hx274_0
          obtain rfl : ad273 = ad274 := (by injection e274)
          replace hx274_0 := cellB HB.out hx274_0
          replace hx274_1 := cellB HB.out hx274_1
          replace hx274_2 := cellB HB.out hx274_2
          replace p274 := eq_true p274
          replace q274 := eq_true q274
          refine start_ (n := 13) (S := fun w' => w'.cell? (ad273.add (((ji15)).toNat * 3)) = some (.int .i64 ((rd_T26 l0 (ji15)).f0)) ∧ w'.cell? ⟨(ad273.add (((ji15)).toNat * 3)).block, (ad273.add (((ji15)).toNat * 3)).off + 1, none⟩ = some (.int .i64 ((rd_T26 l0 (ji15)).f1.f0)) ∧ w'.cell? ⟨(ad273.add (((ji15)).toNat * 3)).block, (ad273.add (((ji15)).toNat * 3)).off + 2, none⟩ = some (.int .i64 ((rd_T26 l0 (ji15)).f1.f1)) ∧ w'.cell? (ad273.add ((x9_2).toNat * 3)) = some (.int .i64 ((rd_T26 l0 x9_2).f0)) ∧ w'.cell? ⟨(ad273.add ((x9_2).toNat * 3)).block, (ad273.add ((x9_2).toNat * 3)).off + 1, none⟩ = some (.int .i64 ((rd_T26 l0 x9_2).f1.f0)) ∧ w'.cell? ⟨(ad273.add ((x9_2).toNat * 3)).block, (ad273.add ((x9_2).toNat * 3)).off + 2, none⟩ = some (.int .i64 ((rd_T26 l0 x9_2).f1.f1))) (ds := []) #[false, false, false, false, false, false, false, false, false, false, false, false, false] (by kernel_rfl) rfl rfl ⟨(cellB HB.out hw273_0), (cellB HB.out hw273_1), (cellB HB.out hw273_2), (cellB HB.out hw274_0), (cellB HB.out hw274_1), (cellB HB.out hw274_2)⟩ (fun hHeld => ?_); refine with_tabW marigraphref21_Rate.tab7 marigraphref21_Rate.bits7 (fun HT_ HW_ => ?_)
          generalize wr.drew = w21 at HO_8 HB hx273_0 hx273_1 hx273_2 hx274_0 hx274_1 hx274_2 hHeld ⊢
          refine pA 0 (some 35) (bA 13 1) HT_.out ?_
          refine pA 1 (some 36) (bA 13 3) HT_.out ?_
          refine pA 2 (some 37) (bA 13 7) HT_.out ?_
          refine pA 3 (some 38) (bA 13 15) HT_.out ?_
          refine pA 5 (some 40) (bA 13 47) HT_.out ?_
          refine pA 6 (some 41) (bA 13 111) HT_.out ?_
          refine pA 7 (some 42) (bA 13 239) HT_.out ?_
          refine take_ (i := 4) (N := some 39) (v := ?_) (a' := ?_) (bA 13 255) rfl rfl (take_ofW HT_.out HW_.out (by kernel_rfl)) (fun _ _ _ h => h) (Or.inl ⟨by rfl, ?_⟩) hHeld ?_ ?_
          rotate_left
          ·rintro w' ⟨s0, s1, s2, s3, s4, s5⟩
           go_simp
           with_reducible rfl
          rotate_left
          ·simp only [Act.put, List.setIfInBounds_toArray, List.set_cons_zero, List.set_cons_succ, i64_w, i32_w]
           rfl
          refine take_ (i := 8) (N := some 43) (v := ?_) (a' := ?_) (bA 13 511) rfl rfl (take_ofW HT_.out HW_.out (by kernel_rfl)) (fun _ _ _ h => h) (Or.inl ⟨by rfl, ?_⟩) hHeld ?_ ?_
          rotate_left
          ·rintro w' ⟨s0, s1, s2, s3, s4, s5⟩
           go_simp
           with_reducible rfl
          rotate_left
          ·simp only [Act.put, List.setIfInBounds_toArray, List.set_cons_zero, List.set_cons_succ, i64_w, i32_w]
           rfl
          refine join_ (σ := Nat × Nat) 2 (bA 13 2047) (fun s_ => [(10, .pointer (some ⟨s_.1, 0, none⟩)), (11, .pointer (some ⟨s_.2, 0, none⟩))]) (fun s_ w' => (w'.cell? (ad273.add (((ji15)).toNat * 3)) = some (.int .i64 ((rd_T26 l0 (ji15)).f0)) ∧ w'.cell? ⟨(ad273.add (((ji15)).toNat * 3)).block, (ad273.add (((ji15)).toNat * 3)).off + 1, none⟩ = some (.int .i64 ((rd_T26 l0 (ji15)).f1.f0)) ∧ w'.cell? ⟨(ad273.add (((ji15)).toNat * 3)).block, (ad273.add (((ji15)).toNat * 3)).off + 2, none⟩ = some (.int .i64 ((rd_T26 l0 (ji15)).f1.f1)) ∧ w'.cell? (ad273.add ((x9_2).toNat * 3)) = some (.int .i64 ((rd_T26 l0 x9_2).f0)) ∧ w'.cell? ⟨(ad273.add ((x9_2).toNat * 3)).block, (ad273.add ((x9_2).toNat * 3)).off + 1, none⟩ = some (.int .i64 ((rd_T26 l0 x9_2).f1.f0)) ∧ w'.cell? ⟨(ad273.add ((x9_2).toNat * 3)).block, (ad273.add ((x9_2).toNat * 3)).off + 2, none⟩ = some (.int .i64 ((rd_T26 l0 x9_2).f1.f1))) ∧ (Kd.R k26 26 w' w.heap.size (fun k_ => k_ ≠ s_.1 ∧ k_ ≠ s_.2) u8 x8_2) ∧ (w'.heap[s_.1]? = some (.cells #[.int .i64 0, .int .i64 0, .int .i64 0] 26 (0, 0))) ∧ (w'.heap[s_.2]? = some (.cells #[.int .i64 0, .int .i64 0, .int .i64 0] 26 (0, 0))) ∧ (w.heap.size ≤ s_.1) ∧ (w.heap.size ≤ s_.1) ∧ (s_.2 ≠ s_.1) ∧ (s_.1 ≠ s_.2) ∧ (w.heap.size ≤ s_.2) ∧ (w.heap.size ≤ s_.2) ∧ (Below w.heap.size w w')) ?_ ?_
          rotate_left
          ·intro hCont
           refine two_ (i := 9) (j := 10) (Ni := some 10) (Nj := some 11) (bA 13 1023) (bA 13 1535) rfl rfl rfl rfl (two_of HT_.out (by kernel_rfl)) (by decide) (by decide) (fun K hK => ?_) (fun K hK => ?_)
           ·skip
            refine box_step ?hg (N := 10) ?hd (cs := #[.int .i64 0, .int .i64 0, .int .i64 0]) (t := 26) ?hr ?_; (case hd => rfl); (case hg => rfl); (case hr => first | (go_simp; done) | (go_simp; rfl))
            intro gb275 hg w22 hbox hb
            have n0_ := Aside0.mk (Kd.R_below (Kd.R_elderB (rowN HO_8.out) gb275 (Nat.le_of_eq hg.symm)) hb)
            have n1_ := Aside0.mk (below_step (belN HB.out) hb)
            have n2_ := Aside0.mk (hbox)
            have n3_ := Aside0.mk (szB hg HB.out)
            have n4_ := Aside0.mk (szB hg HB.out)
            clear HO_8
            clear HB
            have HO_8 := n0_
            have HB := n1_
            have BK275 := n2_
            have GW275 := n3_
            have GE275 := n4_
            clear n0_ n1_ n2_ n3_ n4_
            clear hb hbox hg
            refine hK.out _ _ ⟨(cellB HB.out hw273_0), (cellB HB.out hw273_1), (cellB HB.out hw273_2), (cellB HB.out hw274_0), (cellB HB.out hw274_1), (cellB HB.out hw274_2)⟩ (fun hHeld => ?_)
            clear hK K
            refine norm_ (a' := ?_) ?_ ?_
            rotate_left
            ·show Act.put _ (some 10) _ = _
             simp only [Act.put, List.setIfInBounds_toArray, List.set_cons_zero, List.set_cons_succ, i64_w, i32_w]
             rfl
            refine one_ (i := 10) (N := some 11) (bA 13 2047) rfl rfl (one_of HT_.out (by kernel_rfl)) (by decide) (fun K hK => ?_)
            refine box_step ?hg (N := 11) ?hd (cs := #[.int .i64 0, .int .i64 0, .int .i64 0]) (t := 26) ?hr ?_; (case hd => rfl); (case hg => rfl); (case hr => first | (go_simp; done) | (go_simp; rfl))
            intro gb276 hg w23 hbox hb
            have n0_ := Aside0.mk (Kd.R_below (Kd.R_elderB (rowN HO_8.out) gb276 (Nat.le_of_eq hg.symm)) hb)
            have n1_ := Aside0.mk (bkB BK275.out hb)
            have n2_ := Aside0.mk (below_step (belS HB.out) hb)
            have n3_ := Aside0.mk (hbox)
            have n4_ := Aside0.mk (szB hg HB.out)
            have n5_ := Aside0.mk (szB hg HB.out)
            have n6_ := Aside0.mk ((bk1 hg BK275.out))
            have n7_ := Aside0.mk ((bk2 hg BK275.out))
            clear HO_8
            clear BK275
            clear HB
            have HO_8 := n0_
            have BK275 := n1_
            have HB := n2_
            have BK276 := n3_
            have GW276 := n4_
            have GE276 := n5_
            have NB275_276 := n6_
            have NB276_275 := n7_
            clear n0_ n1_ n2_ n3_ n4_ n5_ n6_ n7_
            clear hb hbox hg
            refine hK.out _ _ ⟨(cellB HB.out hw273_0), (cellB HB.out hw273_1), (cellB HB.out hw273_2), (cellB HB.out hw274_0), (cellB HB.out hw274_1), (cellB HB.out hw274_2)⟩ (fun hHeld => ?_)
            clear hK K
            refine norm_ (a' := ?_) ?_ ?_
            rotate_left
            ·show Act.put _ (some 11) _ = _
             simp only [Act.put, List.setIfInBounds_toArray, List.set_cons_zero, List.set_cons_succ, i64_w, i32_w]
             rfl
            exact norm_ (by simp only [putAll, Act.put, List.setIfInBounds_toArray, List.set_cons_zero, List.set_cons_succ]) (hCont (gb275, gb276) _ ⟨hHeld, (by (with_reducible repeat (first | apply Kd.R_alloc | apply Kd.R_drewN | apply Kd.R_drew)); exact Kd.R_mono HO_8.out (fun _ hk => ⟨hk.1.2, hk.2⟩)), (blkN BK275.out), (blkN BK276.out), GW275.out, GE275.out, NB276_275.out, NB275_276.out, GW276.out, GE276.out, (belS HB.out)⟩)
           ·skip
            refine box_step ?hg (N := 11) ?hd (cs := #[.int .i64 0, .int .i64 0, .int .i64 0]) (t := 26) ?hr ?_; (case hd => rfl); (case hg => rfl); (case hr => first | (go_simp; done) | (go_simp; rfl))
            intro gb276 hg w22 hbox hb
            have n0_ := Aside0.mk (Kd.R_below (Kd.R_elderB (rowN HO_8.out) gb276 (Nat.le_of_eq hg.symm)) hb)
            have n1_ := Aside0.mk (below_step (belN HB.out) hb)
            have n2_ := Aside0.mk (hbox)
            have n3_ := Aside0.mk (szB hg HB.out)
            have n4_ := Aside0.mk (szB hg HB.out)
            clear HO_8
            clear HB
            have HO_8 := n0_
            have HB := n1_
            have BK276 := n2_
            have GW276 := n3_
            have GE276 := n4_
            clear n0_ n1_ n2_ n3_ n4_
            clear hb hbox hg
            refine hK.out _ _ ⟨(cellB HB.out hw273_0), (cellB HB.out hw273_1), (cellB HB.out hw273_2), (cellB HB.out hw274_0), (cellB HB.out hw274_1), (cellB HB.out hw274_2)⟩ (fun hHeld => ?_)
            clear hK K
            refine norm_ (a' := ?_) ?_ ?_
            rotate_left
            ·show Act.put _ (some 11) _ = _
             simp only [Act.put, List.setIfInBounds_toArray, List.set_cons_zero, List.set_cons_succ, i64_w, i32_w]
             rfl
            refine one_ (i := 9) (N := some 10) (bA 13 2047) rfl rfl (one_of HT_.out (by kernel_rfl)) (by decide) (fun K hK => ?_)
            refine box_step ?hg (N := 10) ?hd (cs := #[.int .i64 0, .int .i64 0, .int .i64 0]) (t := 26) ?hr ?_; (case hd => rfl); (case hg => rfl); (case hr => first | (go_simp; done) | (go_simp; rfl))
            intro gb275 hg w23 hbox hb
            have n0_ := Aside0.mk (Kd.R_below (Kd.R_elderB (rowN HO_8.out) gb275 (Nat.le_of_eq hg.symm)) hb)
            have n1_ := Aside0.mk (bkB BK276.out hb)
            have n2_ := Aside0.mk (below_step (belS HB.out) hb)
            have n3_ := Aside0.mk (hbox)
            have n4_ := Aside0.mk (szB hg HB.out)
            have n5_ := Aside0.mk (szB hg HB.out)
            have n6_ := Aside0.mk ((bk1 hg BK276.out))
            have n7_ := Aside0.mk ((bk2 hg BK276.out))
            clear HO_8
            clear BK276
            clear HB
            have HO_8 := n0_
            have BK276 := n1_
            have HB := n2_
            have BK275 := n3_
            have GW275 := n4_
            have GE275 := n5_
            have NB276_275 := n6_
            have NB275_276 := n7_
            clear n0_ n1_ n2_ n3_ n4_ n5_ n6_ n7_
            clear hb hbox hg
            refine hK.out _ _ ⟨(cellB HB.out hw273_0), (cellB HB.out hw273_1), (cellB HB.out hw273_2), (cellB HB.out hw274_0), (cellB HB.out hw274_1), (cellB HB.out hw274_2)⟩ (fun hHeld => ?_)
            clear hK K
            refine norm_ (a' := ?_) ?_ ?_
            rotate_left
            ·show Act.put _ (some 10) _ = _
             simp only [Act.put, List.setIfInBounds_toArray, List.set_cons_zero, List.set_cons_succ, i64_w, i32_w]
             rfl
            exact norm_ (by simp only [putAll, Act.put, List.setIfInBounds_toArray, List.set_cons_zero, List.set_cons_succ]) (hCont (gb275, gb276) _ ⟨hHeld, (by (with_reducible repeat (first | apply Kd.R_alloc | apply Kd.R_drewN | apply Kd.R_drew)); exact Kd.R_mono HO_8.out (fun _ hk => ⟨hk.2, hk.1.2⟩)), (blkN BK275.out), (blkN BK276.out), GW275.out, GE275.out, NB276_275.out, NB275_276.out, GW276.out, GE276.out, (belS HB.out)⟩)
          rintro ⟨gb275, gb276⟩ w24 ⟨hS_, h0_, h1_, h2_, h3_, h4_, h5_, h6_, h7_, h8_, h9_⟩
          have n0_ : Aside0 (Kd.R k26 26 w24 w.heap.size (fun k_ => k_ ≠ gb275 ∧ k_ ≠ gb276) u8 x8_2) := ⟨h0_⟩
          have n1_ : Aside0 (w24.heap[gb275]? = some (.cells #[.int .i64 0, .int .i64 0, .int .i64 0] 26 (0, 0))) := ⟨h1_⟩
          have n2_ : Aside0 (w24.heap[gb276]? = some (.cells #[.int .i64 0, .int .i64 0, .int .i64 0] 26 (0, 0))) := ⟨h2_⟩
          have n3_ : Aside0 (w.heap.size ≤ gb275) := ⟨h3_⟩
          have n4_ : Aside0 (w.heap.size ≤ gb275) := ⟨h4_⟩
          have n5_ : Aside0 (gb276 ≠ gb275) := ⟨h5_⟩
          have n6_ : Aside0 (gb275 ≠ gb276) := ⟨h6_⟩
          have n7_ : Aside0 (w.heap.size ≤ gb276) := ⟨h7_⟩
          have n8_ : Aside0 (w.heap.size ≤ gb276) := ⟨h8_⟩
          have n9_ : Aside0 (Below w.heap.size w w24) := ⟨h9_⟩
          clear HO_8
          clear HB
          clear h0_ h1_ h2_ h3_ h4_ h5_ h6_ h7_ h8_ h9_
          have HO_8 := n0_
          have BK275 := n1_
          have BK276 := n2_
          have GW275 := n3_
          have GE275 := n4_
          have NB276_275 := n5_
          have NB275_276 := n6_
          have GW276 := n7_
          have GE276 := n8_
          have HB := n9_
          clear n0_ n1_ n2_ n3_ n4_ n5_ n6_ n7_ n8_ n9_
          have hHeld : w24.cell? (ad273.add (((ji15)).toNat * 3)) = some (.int .i64 ((rd_T26 l0 (ji15)).f0)) ∧ w24.cell? ⟨(ad273.add (((ji15)).toNat * 3)).block, (ad273.add (((ji15)).toNat * 3)).off + 1, none⟩ = some (.int .i64 ((rd_T26 l0 (ji15)).f1.f0)) ∧ w24.cell? ⟨(ad273.add (((ji15)).toNat * 3)).block, (ad273.add (((ji15)).toNat * 3)).off + 2, none⟩ = some (.int .i64 ((rd_T26 l0 (ji15)).f1.f1)) ∧ w24.cell? (ad273.add ((x9_2).toNat * 3)) = some (.int .i64 ((rd_T26 l0 x9_2).f0)) ∧ w24.cell? ⟨(ad273.add ((x9_2).toNat * 3)).block, (ad273.add ((x9_2).toNat * 3)).off + 1, none⟩ = some (.int .i64 ((rd_T26 l0 x9_2).f1.f0)) ∧ w24.cell? ⟨(ad273.add ((x9_2).toNat * 3)).block, (ad273.add ((x9_2).toNat * 3)).off + 2, none⟩ = some (.int .i64 ((rd_T26 l0 x9_2).f1.f1)) := hS_
          refine norm_ (a' := ?_) ?_ ?_
          rotate_left
          ·simp only [putAll, Act.put, List.setIfInBounds_toArray, List.set_cons_zero, List.set_cons_succ]
           rfl
          refine one_ (i := 11) (N := none) (bA 13 4095) rfl rfl (one_of HT_.out (by kernel_rfl)) (by decide) (fun K hK => ?_)
          have hs25 : w24.cell? ⟨gb275, 0, none⟩ = some (.int .i64 0) := (blk_cell BK275.out 0).trans rfl
          have hfs25 := blk_frozen BK275.out 0
          have hns25_1 := NB276_275.out
          have hms25_1 := NB275_276.out
          have hs26 : w24.cell? ⟨gb275, 1, none⟩ = some (.int .i64 0) := (blk_cell BK275.out 1).trans rfl
          have hfs26 := blk_frozen BK275.out 1
          have hns26_1 := NB276_275.out
          have hms26_1 := NB275_276.out
          have hs27 : w24.cell? ⟨gb275, 2, none⟩ = some (.int .i64 0) := (blk_cell BK275.out 2).trans rfl
          have hfs27 := blk_frozen BK275.out 2
          have hns27_1 := NB276_275.out
          have hms27_1 := NB275_276.out
          refine skip_ (w1 := ?_) (by rfl) rfl ?_ ?_
          rotate_left
          ·go_simp
           rfl
          refine hK.out _ _ ⟨((cell_far (p := ⟨gb275, _, none⟩) (by first | exact cellNe hw273_0 GW275.out | (rw [add_block]; exact cellNe hw273_0 GW275.out) | (show (Addr.add _ _).block ≠ _; rw [add_block]; exact cellNe hw273_0 GW275.out) | (dsimp only; exact cellNe hw273_0 GW275.out)) _).trans (((cell_far (p := ⟨gb275, _, none⟩) (by first | exact cellNe hw273_0 GW275.out | (rw [add_block]; exact cellNe hw273_0 GW275.out) | (show (Addr.add _ _).block ≠ _; rw [add_block]; exact cellNe hw273_0 GW275.out) | (dsimp only; exact cellNe hw273_0 GW275.out)) _).trans (((cell_far (p := ⟨gb275, _, none⟩) (by first | exact cellNe hw273_0 GW275.out | (rw [add_block]; exact cellNe hw273_0 GW275.out) | (show (Addr.add _ _).block ≠ _; rw [add_block]; exact cellNe hw273_0 GW275.out) | (dsimp only; exact cellNe hw273_0 GW275.out)) _).trans (hHeld.1)))))), ((cell_far (p := ⟨gb275, _, none⟩) (by first | exact cellNe hw273_1 GW275.out | (rw [add_block]; exact cellNe hw273_1 GW275.out) | (show (Addr.add _ _).block ≠ _; rw [add_block]; exact cellNe hw273_1 GW275.out) | (dsimp only; exact cellNe hw273_1 GW275.out)) _).trans (((cell_far (p := ⟨gb275, _, none⟩) (by first | exact cellNe hw273_1 GW275.out | (rw [add_block]; exact cellNe hw273_1 GW275.out) | (show (Addr.add _ _).block ≠ _; rw [add_block]; exact cellNe hw273_1 GW275.out) | (dsimp only; exact cellNe hw273_1 GW275.out)) _).trans (((cell_far (p := ⟨gb275, _, none⟩) (by first | exact cellNe hw273_1 GW275.out | (rw [add_block]; exact cellNe hw273_1 GW275.out) | (show (Addr.add _ _).block ≠ _; rw [add_block]; exact cellNe hw273_1 GW275.out) | (dsimp only; exact cellNe hw273_1 GW275.out)) _).trans (hHeld.2.1)))))), ((cell_far (p := ⟨gb275, _, none⟩) (by first | exact cellNe hw273_2 GW275.out | (rw [add_block]; exact cellNe hw273_2 GW275.out) | (show (Addr.add _ _).block ≠ _; rw [add_block]; exact cellNe hw273_2 GW275.out) | (dsimp only; exact cellNe hw273_2 GW275.out)) _).trans (((cell_far (p := ⟨gb275, _, none⟩) (by first | exact cellNe hw273_2 GW275.out | (rw [add_block]; exact cellNe hw273_2 GW275.out) | (show (Addr.add _ _).block ≠ _; rw [add_block]; exact cellNe hw273_2 GW275.out) | (dsimp only; exact cellNe hw273_2 GW275.out)) _).trans (((cell_far (p := ⟨gb275, _, none⟩) (by first | exact cellNe hw273_2 GW275.out | (rw [add_block]; exact cellNe hw273_2 GW275.out) | (show (Addr.add _ _).block ≠ _; rw [add_block]; exact cellNe hw273_2 GW275.out) | (dsimp only; exact cellNe hw273_2 GW275.out)) _).trans (hHeld.2.2.1)))))), ((cell_far (p := ⟨gb275, _, none⟩) (by first | exact cellNe hw274_0 GW275.out | (rw [add_block]; exact cellNe hw274_0 GW275.out) | (show (Addr.add _ _).block ≠ _; rw [add_block]; exact cellNe hw274_0 GW275.out) | (dsimp only; exact cellNe hw274_0 GW275.out)) _).trans (((cell_far (p := ⟨gb275, _, none⟩) (by first | exact cellNe hw274_0 GW275.out | (rw [add_block]; exact cellNe hw274_0 GW275.out) | (show (Addr.add _ _).block ≠ _; rw [add_block]; exact cellNe hw274_0 GW275.out) | (dsimp only; exact cellNe hw274_0 GW275.out)) _).trans (((cell_far (p := ⟨gb275, _, none⟩) (by first | exact cellNe hw274_0 GW275.out | (rw [add_block]; exact cellNe hw274_0 GW275.out) | (show (Addr.add _ _).block ≠ _; rw [add_block]; exact cellNe hw274_0 GW275.out) | (dsimp only; exact cellNe hw274_0 GW275.out)) _).trans (hHeld.2.2.2.1)))))), ((cell_far (p := ⟨gb275, _, none⟩) (by first | exact cellNe hw274_1 GW275.out | (rw [add_block]; exact cellNe hw274_1 GW275.out) | (show (Addr.add _ _).block ≠ _; rw [add_block]; exact cellNe hw274_1 GW275.out) | (dsimp only; exact cellNe hw274_1 GW275.out)) _).trans (((cell_far (p := ⟨gb275, _, none⟩) (by first | exact cellNe hw274_1 GW275.out | (rw [add_block]; exact cellNe hw274_1 GW275.out) | (show (Addr.add _ _).block ≠ _; rw [add_block]; exact cellNe hw274_1 GW275.out) | (dsimp only; exact cellNe hw274_1 GW275.out)) _).trans (((cell_far (p := ⟨gb275, _, none⟩) (by first | exact cellNe hw274_1 GW275.out | (rw [add_block]; exact cellNe hw274_1 GW275.out) | (show (Addr.add _ _).block ≠ _; rw [add_block]; exact cellNe hw274_1 GW275.out) | (dsimp only; exact cellNe hw274_1 GW275.out)) _).trans (hHeld.2.2.2.2.1)))))), ((cell_far (p := ⟨gb275, _, none⟩) (by first | exact cellNe hw274_2 GW275.out | (rw [add_block]; exact cellNe hw274_2 GW275.out) | (show (Addr.add _ _).block ≠ _; rw [add_block]; exact cellNe hw274_2 GW275.out) | (dsimp only; exact cellNe hw274_2 GW275.out)) _).trans (((cell_far (p := ⟨gb275, _, none⟩) (by first | exact cellNe hw274_2 GW275.out | (rw [add_block]; exact cellNe hw274_2 GW275.out) | (show (Addr.add _ _).block ≠ _; rw [add_block]; exact cellNe hw274_2 GW275.out) | (dsimp only; exact cellNe hw274_2 GW275.out)) _).trans (((cell_far (p := ⟨gb275, _, none⟩) (by first | exact cellNe hw274_2 GW275.out | (rw [add_block]; exact cellNe hw274_2 GW275.out) | (show (Addr.add _ _).block ≠ _; rw [add_block]; exact cellNe hw274_2 GW275.out) | (dsimp only; exact cellNe hw274_2 GW275.out)) _).trans (hHeld.2.2.2.2.2))))))⟩ (fun hHeld => ?_)
          clear hK K
          refine one_ (i := 12) (N := none) (bA 13 8191) rfl rfl (one_of HT_.out (by kernel_rfl)) (by decide) (fun K hK => ?_)
          have hs28 : w24.cell? ⟨gb276, 0, none⟩ = some (.int .i64 0) := (blk_cell BK276.out 0).trans rfl
          have hfs28 := blk_frozen BK276.out 0
          have hns28_0 := NB275_276.out
          have hms28_0 := NB276_275.out
          have hs29 : w24.cell? ⟨gb276, 1, none⟩ = some (.int .i64 0) := (blk_cell BK276.out 1).trans rfl
          have hfs29 := blk_frozen BK276.out 1
          have hns29_0 := NB275_276.out
          have hms29_0 := NB276_275.out
          have hs30 : w24.cell? ⟨gb276, 2, none⟩ = some (.int .i64 0) := (blk_cell BK276.out 2).trans rfl
          have hfs30 := blk_frozen BK276.out 2
          have hns30_0 := NB275_276.out
          have hms30_0 := NB276_275.out
          refine skip_ (w1 := ?_) (by rfl) rfl ?_ ?_
          rotate_left
          ·go_simp
           rfl
          refine hK.out _ _ ⟨((cell_far (p := ⟨gb276, _, none⟩) (by first | exact cellNe hw273_0 GW276.out | (rw [add_block]; exact cellNe hw273_0 GW276.out) | (show (Addr.add _ _).block ≠ _; rw [add_block]; exact cellNe hw273_0 GW276.out) | (dsimp only; exact cellNe hw273_0 GW276.out)) _).trans (((cell_far (p := ⟨gb276, _, none⟩) (by first | exact cellNe hw273_0 GW276.out | (rw [add_block]; exact cellNe hw273_0 GW276.out) | (show (Addr.add _ _).block ≠ _; rw [add_block]; exact cellNe hw273_0 GW276.out) | (dsimp only; exact cellNe hw273_0 GW276.out)) _).trans (((cell_far (p := ⟨gb276, _, none⟩) (by first | exact cellNe hw273_0 GW276.out | (rw [add_block]; exact cellNe hw273_0 GW276.out) | (show (Addr.add _ _).block ≠ _; rw [add_block]; exact cellNe hw273_0 GW276.out) | (dsimp only; exact cellNe hw273_0 GW276.out)) _).trans (hHeld.1)))))), ((cell_far (p := ⟨gb276, _, none⟩) (by first | exact cellNe hw273_1 GW276.out | (rw [add_block]; exact cellNe hw273_1 GW276.out) | (show (Addr.add _ _).block ≠ _; rw [add_block]; exact cellNe hw273_1 GW276.out) | (dsimp only; exact cellNe hw273_1 GW276.out)) _).trans (((cell_far (p := ⟨gb276, _, none⟩) (by first | exact cellNe hw273_1 GW276.out | (rw [add_block]; exact cellNe hw273_1 GW276.out) | (show (Addr.add _ _).block ≠ _; rw [add_block]; exact cellNe hw273_1 GW276.out) | (dsimp only; exact cellNe hw273_1 GW276.out)) _).trans (((cell_far (p := ⟨gb276, _, none⟩) (by first | exact cellNe hw273_1 GW276.out | (rw [add_block]; exact cellNe hw273_1 GW276.out) | (show (Addr.add _ _).block ≠ _; rw [add_block]; exact cellNe hw273_1 GW276.out) | (dsimp only; exact cellNe hw273_1 GW276.out)) _).trans (hHeld.2.1)))))), ((cell_far (p := ⟨gb276, _, none⟩) (by first | exact cellNe hw273_2 GW276.out | (rw [add_block]; exact cellNe hw273_2 GW276.out) | (show (Addr.add _ _).block ≠ _; rw [add_block]; exact cellNe hw273_2 GW276.out) | (dsimp only; exact cellNe hw273_2 GW276.out)) _).trans (((cell_far (p := ⟨gb276, _, none⟩) (by first | exact cellNe hw273_2 GW276.out | (rw [add_block]; exact cellNe hw273_2 GW276.out) | (show (Addr.add _ _).block ≠ _; rw [add_block]; exact cellNe hw273_2 GW276.out) | (dsimp only; exact cellNe hw273_2 GW276.out)) _).trans (((cell_far (p := ⟨gb276, _, none⟩) (by first | exact cellNe hw273_2 GW276.out | (rw [add_block]; exact cellNe hw273_2 GW276.out) | (show (Addr.add _ _).block ≠ _; rw [add_block]; exact cellNe hw273_2 GW276.out) | (dsimp only; exact cellNe hw273_2 GW276.out)) _).trans (hHeld.2.2.1)))))), ((cell_far (p := ⟨gb276, _, none⟩) (by first | exact cellNe hw274_0 GW276.out | (rw [add_block]; exact cellNe hw274_0 GW276.out) | (show (Addr.add _ _).block ≠ _; rw [add_block]; exact cellNe hw274_0 GW276.out) | (dsimp only; exact cellNe hw274_0 GW276.out)) _).trans (((cell_far (p := ⟨gb276, _, none⟩) (by first | exact cellNe hw274_0 GW276.out | (rw [add_block]; exact cellNe hw274_0 GW276.out) | (show (Addr.add _ _).block ≠ _; rw [add_block]; exact cellNe hw274_0 GW276.out) | (dsimp only; exact cellNe hw274_0 GW276.out)) _).trans (((cell_far (p := ⟨gb276, _, none⟩) (by first | exact cellNe hw274_0 GW276.out | (rw [add_block]; exact cellNe hw274_0 GW276.out) | (show (Addr.add _ _).block ≠ _; rw [add_block]; exact cellNe hw274_0 GW276.out) | (dsimp only; exact cellNe hw274_0 GW276.out)) _).trans (hHeld.2.2.2.1)))))), ((cell_far (p := ⟨gb276, _, none⟩) (by first | exact cellNe hw274_1 GW276.out | (rw [add_block]; exact cellNe hw274_1 GW276.out) | (show (Addr.add _ _).block ≠ _; rw [add_block]; exact cellNe hw274_1 GW276.out) | (dsimp only; exact cellNe hw274_1 GW276.out)) _).trans (((cell_far (p := ⟨gb276, _, none⟩) (by first | exact cellNe hw274_1 GW276.out | (rw [add_block]; exact cellNe hw274_1 GW276.out) | (show (Addr.add _ _).block ≠ _; rw [add_block]; exact cellNe hw274_1 GW276.out) | (dsimp only; exact cellNe hw274_1 GW276.out)) _).trans (((cell_far (p := ⟨gb276, _, none⟩) (by first | exact cellNe hw274_1 GW276.out | (rw [add_block]; exact cellNe hw274_1 GW276.out) | (show (Addr.add _ _).block ≠ _; rw [add_block]; exact cellNe hw274_1 GW276.out) | (dsimp only; exact cellNe hw274_1 GW276.out)) _).trans (hHeld.2.2.2.2.1)))))), ((cell_far (p := ⟨gb276, _, none⟩) (by first | exact cellNe hw274_2 GW276.out | (rw [add_block]; exact cellNe hw274_2 GW276.out) | (show (Addr.add _ _).block ≠ _; rw [add_block]; exact cellNe hw274_2 GW276.out) | (dsimp only; exact cellNe hw274_2 GW276.out)) _).trans (((cell_far (p := ⟨gb276, _, none⟩) (by first | exact cellNe hw274_2 GW276.out | (rw [add_block]; exact cellNe hw274_2 GW276.out) | (show (Addr.add _ _).block ≠ _; rw [add_block]; exact cellNe hw274_2 GW276.out) | (dsimp only; exact cellNe hw274_2 GW276.out)) _).trans (((cell_far (p := ⟨gb276, _, none⟩) (by first | exact cellNe hw274_2 GW276.out | (rw [add_block]; exact cellNe hw274_2 GW276.out) | (show (Addr.add _ _).block ≠ _; rw [add_block]; exact cellNe hw274_2 GW276.out) | (dsimp only; exact cellNe hw274_2 GW276.out)) _).trans (hHeld.2.2.2.2.2))))))⟩ (fun hHeld => ?_)
          clear hK K
          refine done_ (done_of HT_.out (by kernel_rfl)) ?_
          have hnb31 := NB276_275.out
          have hnc31 := NB275_276.out
          have hcz32_0 : w24.cell? ⟨gb276, 0, none⟩ = some (.int .i64 0) := (blk_cell BK276.out 0).trans rfl
          have hcz32_1 : w24.cell? ⟨gb276, 1, none⟩ = some (.int .i64 0) := (blk_cell BK276.out 1).trans rfl
          have hcz32_2 : w24.cell? ⟨gb276, 2, none⟩ = some (.int .i64 0) := (blk_cell BK276.out 2).trans rfl
          have hfz32_0 := blk_frozen BK276.out 0
          have hfz32_1 := blk_frozen BK276.out 1
          have hfz32_2 := blk_frozen BK276.out 2
          have hcz33_0 : w24.cell? ⟨gb275, 0, none⟩ = some (.int .i64 0) := (blk_cell BK275.out 0).trans rfl
          have hcz33_1 : w24.cell? ⟨gb275, 1, none⟩ = some (.int .i64 0) := (blk_cell BK275.out 1).trans rfl
          have hcz33_2 : w24.cell? ⟨gb275, 2, none⟩ = some (.int .i64 0) := (blk_cell BK275.out 2).trans rfl
          have hfz33_0 := blk_frozen BK275.out 0
          have hfz33_1 := blk_frozen BK275.out 1
          have hfz33_2 := blk_frozen BK275.out 2
          go_upto_region 9 with (first | ((with_reducible refine gate_callee (f := 31) rfl ?_); refine goesL_ (some 49) rfl rfl Try.func31 (by kernel_rfl) rfl #[.int .u8 45, .agg #[.int .i64 ((rd_T26 l0 x9_2).f1.f0), .int .i64 ((rd_T26 l0 x9_2).f1.f1)], .agg #[.int .i64 ((rd_T26 l0 (ji15)).f1.f0), .int .i64 ((rd_T26 l0 (ji15)).f1.f1)]] rfl (by (try simp only [List.map_toArray, List.map_cons, List.map_nil]); first | done | (simp only [hji15]; rfl) | rfl | (simp only [List.length_drop, List.length_take]; rfl)) ?_; (with_reducible refine (marigraphref1_Op.calls k2 45 ((rd_T26 l0 x9_2).f1.f0) ((rd_T26 l0 x9_2).f1.f1) ((rd_T26 l0 (ji15)).f1.f0) ((rd_T26 l0 (ji15)).f1.f1) t277 t278 t279 _ A19.out).mono ?_); rintro e w34 ⟨rfl, hb⟩; refine ⟨_, rfl, ?_⟩; have n0_ := Aside0.mk (Kd.R_below (by (with_reducible repeat (first | apply Kd.R_alloc | apply Kd.R_drewN | apply Kd.R_drew)); exact (Kd.R_mono (Kd.R_mono (Kd.R_far (p := ⟨gb276, 2, none⟩) (Kd.R_far (p := ⟨gb276, 1, none⟩) (Kd.R_far (p := ⟨gb276, 0, none⟩) (Kd.R_far (p := ⟨gb275, 2, none⟩) (Kd.R_far (p := ⟨gb275, 1, none⟩) (Kd.R_far (p := ⟨gb275, 0, none⟩) (Kd.R_mono (Kd.R_mono HO_8.out (fun k_ hk => (⟨hk, hk.1⟩ : _ ∧ k_ ≠ gb275))) (fun k_ hk => (⟨hk, hk.1.2⟩ : _ ∧ k_ ≠ gb276))) (fun _ hk => hk.1.2) (.int .i64 ((rd_T26 l0 (ji15)).f0))) (fun _ hk => hk.1.2) (.int .i64 ((rd_T26 l0 (ji15)).f1.f0))) (fun _ hk => hk.1.2) (.int .i64 ((rd_T26 l0 (ji15)).f1.f1))) (fun _ hk => hk.2) (.int .i64 ((rd_T26 l0 x9_2).f0))) (fun _ hk => hk.2) (.int .i64 ((rd_T26 l0 x9_2).f1.f0))) (fun _ hk => hk.2) (.int .i64 ((rd_T26 l0 x9_2).f1.f1))) (fun _ h_ => h_.1)) (fun _ h_ => h_.1))) hb); have n1_ := Aside0.mk (blk_below (g := gb275) (o := .cells #[.int .i64 ((rd_T26 l0 (ji15)).f0), .int .i64 ((rd_T26 l0 (ji15)).f1.f0), .int .i64 ((rd_T26 l0 (ji15)).f1.f1)] 26 (0, 0)) (by (with_reducible repeat (first | refine blk_drewN ?_ _ | refine blk_drew ?_ | refine blk_alloc ?_ _)); refine blk_far ?_ NB275_276.out _; (with_reducible repeat (first | refine blk_drewN ?_ _ | refine blk_drew ?_ | refine blk_alloc ?_ _)); refine blk_far ?_ NB275_276.out _; (with_reducible repeat (first | refine blk_drewN ?_ _ | refine blk_drew ?_ | refine blk_alloc ?_ _)); refine blk_far ?_ NB275_276.out _; (with_reducible repeat (first | refine blk_drewN ?_ _ | refine blk_drew ?_ | refine blk_alloc ?_ _)); refine blk_put (cs := #[.int .i64 ((rd_T26 l0 (ji15)).f0), .int .i64 ((rd_T26 l0 (ji15)).f1.f0), .int .i64 0]) ?_ 2 _ rfl; (with_reducible repeat (first | refine blk_drewN ?_ _ | refine blk_drew ?_ | refine blk_alloc ?_ _)); refine blk_put (cs := #[.int .i64 ((rd_T26 l0 (ji15)).f0), .int .i64 0, .int .i64 0]) ?_ 1 _ rfl; (with_reducible repeat (first | refine blk_drewN ?_ _ | refine blk_drew ?_ | refine blk_alloc ?_ _)); refine blk_put (cs := #[.int .i64 0, .int .i64 0, .int .i64 0]) ?_ 0 _ rfl; (with_reducible repeat (first | refine blk_drewN ?_ _ | refine blk_drew ?_ | refine blk_alloc ?_ _)); exact BK275.out) hb); have n2_ := Aside0.mk (blk_below (g := gb276) (o := .cells #[.int .i64 ((rd_T26 l0 x9_2).f0), .int .i64 ((rd_T26 l0 x9_2).f1.f0), .int .i64 ((rd_T26 l0 x9_2).f1.f1)] 26 (0, 0)) (by (with_reducible repeat (first | refine blk_drewN ?_ _ | refine blk_drew ?_ | refine blk_alloc ?_ _)); refine blk_put (cs := #[.int .i64 ((rd_T26 l0 x9_2).f0), .int .i64 ((rd_T26 l0 x9_2).f1.f0), .int .i64 0]) ?_ 2 _ rfl; (with_reducible repeat (first | refine blk_drewN ?_ _ | refine blk_drew ?_ | refine blk_alloc ?_ _)); refine blk_put (cs := #[.int .i64 ((rd_T26 l0 x9_2).f0), .int .i64 0, .int .i64 0]) ?_ 1 _ rfl; (with_reducible repeat (first | refine blk_drewN ?_ _ | refine blk_drew ?_ | refine blk_alloc ?_ _)); refine blk_put (cs := #[.int .i64 0, .int .i64 0, .int .i64 0]) ?_ 0 _ rfl; (with_reducible repeat (first | refine blk_drewN ?_ _ | refine blk_drew ?_ | refine blk_alloc ?_ _)); refine blk_far ?_ NB276_275.out _; (with_reducible repeat (first | refine blk_drewN ?_ _ | refine blk_drew ?_ | refine blk_alloc ?_ _)); refine blk_far ?_ NB276_275.out _; (with_reducible repeat (first | refine blk_drewN ?_ _ | refine blk_drew ?_ | refine blk_alloc ?_ _)); refine blk_far ?_ NB276_275.out _; (with_reducible repeat (first | refine blk_drewN ?_ _ | refine blk_drew ?_ | refine blk_alloc ?_ _)); exact BK276.out) hb); have n3_ := Aside0.mk (below_step (belS HB.out) hb); clear HO_8; clear BK275; clear BK276; clear HB; have HO_8 := n0_; have BK275 := n1_; have BK276 := n2_; have HB := n3_; clear n0_ n1_ n2_ n3_; (try clear hb); (try clear hk)) | ((with_reducible refine gate_dst (N := 12) rfl ?_); refine box_event ?hg (N := 12) ?hd (cs := #[.int .i64 0, .int .i64 0]) (t := 24) ?hr ?_; (case hd => rfl); (case hg => rfl); (case hr => first | (go_simp; done) | (go_simp; rfl)); intro gb280 hg w35 hbox hb; have n0_ := Aside0.mk (Kd.R_below (rowN HO_8.out) hb); have n1_ := Aside0.mk (bkB BK275.out hb); have n2_ := Aside0.mk (bkB BK276.out hb); have n3_ := Aside0.mk (below_step (belS HB.out) hb); have n4_ := Aside0.mk (hbox); have n5_ := Aside0.mk (szB hg HB.out); have n6_ := Aside0.mk (szB hg HB.out); have n7_ := Aside0.mk ((bk1 hg BK275.out)); have n8_ := Aside0.mk ((bk2 hg BK275.out)); have n9_ := Aside0.mk ((bk1 hg BK276.out)); have n10_ := Aside0.mk ((bk2 hg BK276.out)); clear HO_8; clear BK275; clear BK276; clear HB; have HO_8 := n0_; have BK275 := n1_; have BK276 := n2_; have HB := n3_; have BK280 := n4_; have GW280 := n5_; have GE280 := n6_; have NB275_280 := n7_; have NB280_275 := n8_; have NB276_280 := n9_; have NB280_276 := n10_; clear n0_ n1_ n2_ n3_ n4_ n5_ n6_ n7_ n8_ n9_ n10_; clear hb hbox hg; have hnb36 := NB280_275.out; have hnc36 := NB275_280.out; have hnb37 := NB280_276.out; have hnc37 := NB276_280.out; have hcz38_0 : w35.cell? ⟨gb280, 0, none⟩ = some (.int .i64 0) := (blk_cell BK280.out 0).trans rfl; have hcz38_1 : w35.cell? ⟨gb280, 1, none⟩ = some (.int .i64 0) := (blk_cell BK280.out 1).trans rfl; have hfz38_0 := blk_frozen BK280.out 0; have hfz38_1 := blk_frozen BK280.out 1))
          (try simp only [Act.put, List.setIfInBounds_toArray, List.set_cons_zero, List.set_cons_succ])
          go_cut [60] (fun v60 wc => ∃ (kq : Nat) (x60_19 : Bool), v60 = .bool x60_19 ∧ Aside0 (marigraphref21_Rate.j2 kq l0 a1 a2 x8_2 x9_2 t279 x60_19 ((rd_T26 l0 (ji15)).f0) ((rd_T26 l0 (ji15)).f1.f0) ((rd_T26 l0 (ji15)).f1.f1) ((rd_T26 l0 x9_2).f0) ((rd_T26 l0 x9_2).f1.f0) ((rd_T26 l0 x9_2).f1.f1) t277 t278 = some (r1, r2)) ∧ Aside0 (kq ≤ k2) ∧ Aside0 (Kd.R k26 26 wc w.heap.size (fun k_ => k_ ≠ gb275 ∧ k_ ≠ gb276) u8 x8_2) ∧ Aside0 (wc.heap[gb275]? = some (.cells #[.int .i64 ((rd_T26 l0 (ji15)).f0), .int .i64 ((rd_T26 l0 (ji15)).f1.f0), .int .i64 ((rd_T26 l0 (ji15)).f1.f1)] 26 (0, 0))) ∧ Aside0 (wc.heap[gb276]? = some (.cells #[.int .i64 ((rd_T26 l0 x9_2).f0), .int .i64 ((rd_T26 l0 x9_2).f1.f0), .int .i64 ((rd_T26 l0 x9_2).f1.f1)] 26 (0, 0))) ∧ Aside0 (wc.heap[gb280]? = some (.cells #[.int .i64 t277, .int .i64 t278] 24 (0, 0))) ∧ Aside0 (Below w.heap.size w wc))
          case first =>
           have H := HC20.out
           clear HC20
           by_cases c39 : a1 = true
           ·subst c39
            have H1 : ((marigraphref1_Cmp.f k2 ((rd_T26 l0 x9_2).f1.f0) ((rd_T26 l0 x9_2).f1.f1) ((rd_T26 l0 (ji15)).f1.f0) ((rd_T26 l0 (ji15)).f1.f1)).bind fun t281 => (marigraphref21_Rate.j2 k2 l0 true a2 x8_2 x9_2 t279 (decide (t281 < 0)) ((rd_T26 l0 (ji15)).f0) ((rd_T26 l0 (ji15)).f1.f0) ((rd_T26 l0 (ji15)).f1.f1) ((rd_T26 l0 x9_2).f0) ((rd_T26 l0 x9_2).f1.f0) ((rd_T26 l0 x9_2).f1.f1) t277 t278)) = some (r1, r2) := by rw [if_pos rfl] at H; exact H
            clear H
            have H := H1
            clear H1
            replace H := Option.bind_eq_some_iff.mp H
            obtain ⟨t281, A400, H⟩ := H
            replace H : (marigraphref21_Rate.j2 k2 l0 true a2 x8_2 x9_2 t279 (decide (t281 < 0)) ((rd_T26 l0 (ji15)).f0) ((rd_T26 l0 (ji15)).f1.f0) ((rd_T26 l0 (ji15)).f1.f1) ((rd_T26 l0 x9_2).f0) ((rd_T26 l0 x9_2).f1.f0) ((rd_T26 l0 x9_2).f1.f1) t277 t278) = some (r1, r2) := H
            have A40 := Aside0.mk A400
            clear A400
            have H' := Aside0.mk H
            clear H
            have hnb41 := NB276_275.out
            have hnc41 := NB275_276.out
            have hnb42 := NB276_280.out
            have hnc42 := NB280_276.out
            have hcz43_0 : w35.cell? ⟨gb276, 0, none⟩ = some (.int .i64 ((rd_T26 l0 x9_2).f0)) := (blk_cell BK276.out 0).trans rfl
            have hcz43_1 : w35.cell? ⟨gb276, 1, none⟩ = some (.int .i64 ((rd_T26 l0 x9_2).f1.f0)) := (blk_cell BK276.out 1).trans rfl
            have hcz43_2 : w35.cell? ⟨gb276, 2, none⟩ = some (.int .i64 ((rd_T26 l0 x9_2).f1.f1)) := (blk_cell BK276.out 2).trans rfl
            have hfz43_0 := blk_frozen BK276.out 0
            have hfz43_1 := blk_frozen BK276.out 1
            have hfz43_2 := blk_frozen BK276.out 2
            have hnb44 := NB275_280.out
            have hnc44 := NB280_275.out
            have hcz45_0 : w35.cell? ⟨gb275, 0, none⟩ = some (.int .i64 ((rd_T26 l0 (ji15)).f0)) := (blk_cell BK275.out 0).trans rfl
            have hcz45_1 : w35.cell? ⟨gb275, 1, none⟩ = some (.int .i64 ((rd_T26 l0 (ji15)).f1.f0)) := (blk_cell BK275.out 1).trans rfl
            have hcz45_2 : w35.cell? ⟨gb275, 2, none⟩ = some (.int .i64 ((rd_T26 l0 (ji15)).f1.f1)) := (blk_cell BK275.out 2).trans rfl
            have hfz45_0 := blk_frozen BK275.out 0
            have hfz45_1 := blk_frozen BK275.out 1
            have hfz45_2 := blk_frozen BK275.out 2
            go_wp2_with (first | (go_at_call 35; (with_reducible refine (marigraphref1_Cmp.calls k2 ((rd_T26 l0 x9_2).f1.f0) ((rd_T26 l0 x9_2).f1.f1) ((rd_T26 l0 (ji15)).f1.f0) ((rd_T26 l0 (ji15)).f1.f1) t281 _ A40.out).mono ?_); rintro e w46 ⟨rfl, hb⟩; have n0_ := Aside0.mk (Kd.R_below (by (with_reducible repeat (first | apply Kd.R_alloc | apply Kd.R_drewN | apply Kd.R_drew)); exact (Kd.R_mono (Kd.R_far (p := ⟨gb280, 1, none⟩) (Kd.R_far (p := ⟨gb280, 0, none⟩) (Kd.R_types HO_8.out BK280.out (by decide)) (fun _ hk => hk.2) (.int .i64 t277)) (fun _ hk => hk.2) (.int .i64 t278)) (fun _ h_ => h_.1))) hb); have n1_ := Aside0.mk (bkBF BK275.out hb); have n2_ := Aside0.mk (bkBF BK276.out hb); have n3_ := Aside0.mk (blk_below (g := gb280) (o := .cells #[.int .i64 t277, .int .i64 t278] 24 (0, 0)) (by (with_reducible repeat (first | refine blk_drewN ?_ _ | refine blk_drew ?_ | refine blk_alloc ?_ _)); refine blk_put (cs := #[.int .i64 t277, .int .i64 0]) ?_ 1 _ rfl; (with_reducible repeat (first | refine blk_drewN ?_ _ | refine blk_drew ?_ | refine blk_alloc ?_ _)); refine blk_put (cs := #[.int .i64 0, .int .i64 0]) ?_ 0 _ rfl; (with_reducible repeat (first | refine blk_drewN ?_ _ | refine blk_drew ?_ | refine blk_alloc ?_ _)); exact BK280.out) hb); have n4_ := Aside0.mk (below_step (belS HB.out) hb); clear HO_8; clear BK275; clear BK276; clear BK280; clear HB; have HO_8 := n0_; have BK275 := n1_; have BK276 := n2_; have BK280 := n3_; have HB := n4_; clear n0_ n1_ n2_ n3_ n4_; (try clear hb); (try clear hk)))
            go_meet
            case rel => exact ⟨_, (decide (t281 < 0)), (by first | rfl | (simp; done) | (simp [*]; done)), H', ⟨by have := HJ3.out; have := HK2.out; first | omega | exact Nat.le_refl _⟩, ⟨(rowN HO_8.out)⟩, ⟨blkN BK275.out⟩, ⟨blkN BK276.out⟩, ⟨blkN BK280.out⟩, ⟨(belS HB.out)⟩⟩
           ·replace c39 := Bool.eq_false_iff.mpr c39
            subst c39
            have H1 : (marigraphref21_Rate.j2 k2 l0 false a2 x8_2 x9_2 t279 false ((rd_T26 l0 (ji15)).f0) ((rd_T26 l0 (ji15)).f1.f0) ((rd_T26 l0 (ji15)).f1.f1) ((rd_T26 l0 x9_2).f0) ((rd_T26 l0 x9_2).f1.f0) ((rd_T26 l0 x9_2).f1.f1) t277 t278) = some (r1, r2) := by rw [if_neg (show ¬ (false = true) by decide)] at H; exact H
            clear H
            have H := H1
            clear H1
            have H' := Aside0.mk H
            clear H
            go_wp2
            go_meet
            case rel => exact ⟨_, (false), (by first | rfl | (simp; done) | (simp [*]; done)), H', ⟨by have := HJ3.out; have := HK2.out; first | omega | exact Nat.le_refl _⟩, ⟨by (with_reducible repeat (first | apply Kd.R_alloc | apply Kd.R_drewN | apply Kd.R_drew)); exact Kd.R_mono (Kd.R_far (p := ⟨gb280, 1, none⟩) (Kd.R_far (p := ⟨gb280, 0, none⟩) (Kd.R_types HO_8.out BK280.out (by decide)) (fun _ hk => hk.2) (.int .i64 t277)) (fun _ hk => hk.2) (.int .i64 t278)) (fun _ hk => ⟨hk.1.1, hk.1.2⟩)⟩, ⟨blkF BK275.out⟩, ⟨blkF BK276.out⟩, ⟨by (with_reducible repeat (first | refine blk_drewN ?_ _ | refine blk_drew ?_ | refine blk_alloc ?_ _)); refine blk_put (cs := #[.int .i64 t277, .int .i64 0]) ?_ 1 _ rfl; (with_reducible repeat (first | refine blk_drewN ?_ _ | refine blk_drew ?_ | refine blk_alloc ?_ _)); refine blk_put (cs := #[.int .i64 0, .int .i64 0]) ?_ 0 _ rfl; (with_reducible repeat (first | refine blk_drewN ?_ _ | refine blk_drew ?_ | refine blk_alloc ?_ _)); exact BK280.out⟩, ⟨(belS HB.out)⟩⟩
          case rest =>
           clear HC20
           try clear c1
           try clear p2
           try clear q2
           try clear hx2
           try clear c3
           try clear c4
           try clear c6
           try clear p6
           try clear c7
           try clear c8
           try clear c8b0
           try clear c13
           try clear c14
           try clear c14b0
           try clear c16
           try clear c16b0
           try clear c17
           try clear c17b0
           try clear c18
           try clear c18b0
           try clear c19
           try clear p27
           try clear q27
           try clear hx27
           try clear c31
           try clear c34
           try clear c36
           try clear c37
           try clear c39
           try clear c41
           try clear c42
           try clear c44
           try clear hcz32_0
           try clear hcz32_1
           try clear hcz32_2
           try clear hcz33_0
           try clear hcz33_1
           try clear hcz33_2
           try clear hcz38_0
           try clear hcz38_1
           try clear hcz43_0
           try clear hcz43_1
           try clear hcz43_2
           try clear hcz45_0
           try clear hcz45_1
           try clear hcz45_2
           try clear hfz32_0
           try clear hfz32_1
           try clear hfz32_2
           try clear hfz33_0
           try clear hfz33_1
           try clear hfz33_2
           try clear hfz38_0
           try clear hfz38_1
           try clear hfz43_0
           try clear hfz43_1
           try clear hfz43_2
           try clear hfz45_0
           try clear hfz45_1
           try clear hfz45_2
           try clear hx273_0
           try clear hx273_1
           try clear hx273_2
           try clear hx274_0
           try clear hx274_1
           try clear hx274_2
           try clear p2
           try clear p273
           try clear p274
           try clear q273
           try clear q274
           obtain ⟨kq, x60_19, rfl, HA, HJ19, HO_8, BK275, BK276, BK280, HB⟩ := hcut
           cases kq with
           | zero => exact absurd HA.out (by simp [marigraphref21_Rate.j2])
           | succ kj19 =>
            have H := HA.out
            clear HA
            simp only [marigraphref21_Rate.j2] at H
            have HC47 := Aside0.mk H
            clear H
            go_upto_if 60 with (fail)
            go_cut [13] (fun v13 wc => ∃ (kq : Nat) (x13_46 : Int) (x281000_46 : Int) (x281001_46 : Int), v13 = .int .i64 x13_46 ∧ Aside0 (marigraphref21_Rate.j3 kq l0 a1 a2 x8_2 x9_2 x13_46 ((rd_T26 l0 (ji15)).f0) ((rd_T26 l0 (ji15)).f1.f0) ((rd_T26 l0 (ji15)).f1.f1) ((rd_T26 l0 x9_2).f0) ((rd_T26 l0 x9_2).f1.f0) ((rd_T26 l0 x9_2).f1.f1) x281000_46 x281001_46 = some (r1, r2)) ∧ Aside0 (kq ≤ kj19) ∧ Aside0 (Kd.R k26 26 wc w.heap.size (fun k_ => k_ ≠ gb275 ∧ k_ ≠ gb276) u8 x8_2) ∧ Aside0 (wc.heap[gb275]? = some (.cells #[.int .i64 ((rd_T26 l0 (ji15)).f0), .int .i64 ((rd_T26 l0 (ji15)).f1.f0), .int .i64 ((rd_T26 l0 (ji15)).f1.f1)] 26 (0, 0))) ∧ Aside0 (wc.heap[gb276]? = some (.cells #[.int .i64 ((rd_T26 l0 x9_2).f0), .int .i64 ((rd_T26 l0 x9_2).f1.f0), .int .i64 ((rd_T26 l0 x9_2).f1.f1)] 26 (0, 0))) ∧ Aside0 (wc.heap[gb280]? = some (.cells #[.int .i64 x281000_46, .int .i64 x281001_46] 24 (0, 0))) ∧ Aside0 (Below w.heap.size w wc))
            case first =>
             have H := HC47.out
             clear HC47
             by_cases c48 : x60_19 = true
             ·subst c48
              have H1 : ((marigraphref1_Op.f kj19 45 a2 1 ((rd_T26 l0 (ji15)).f1.f0) ((rd_T26 l0 (ji15)).f1.f1)).bind fun bt282 => (if bt282.2.2 = 0 then ((marigraphref1_Op.f kj19 43 bt282.1 bt282.2.1 ((rd_T26 l0 x9_2).f1.f0) ((rd_T26 l0 x9_2).f1.f1)).bind fun bt285 => (marigraphref21_Rate.j3 kj19 l0 a1 a2 x8_2 x9_2 bt285.2.2 ((rd_T26 l0 (ji15)).f0) ((rd_T26 l0 (ji15)).f1.f0) ((rd_T26 l0 (ji15)).f1.f1) ((rd_T26 l0 x9_2).f0) ((rd_T26 l0 x9_2).f1.f0) ((rd_T26 l0 x9_2).f1.f1) bt285.1 bt285.2.1)) else (marigraphref21_Rate.j3 kj19 l0 a1 a2 x8_2 x9_2 bt282.2.2 ((rd_T26 l0 (ji15)).f0) ((rd_T26 l0 (ji15)).f1.f0) ((rd_T26 l0 (ji15)).f1.f1) ((rd_T26 l0 x9_2).f0) ((rd_T26 l0 x9_2).f1.f0) ((rd_T26 l0 x9_2).f1.f1) bt282.1 bt282.2.1))) = some (r1, r2) := by rw [if_pos rfl] at H; exact H
              clear H
              have H := H1
              clear H1
              replace H := Option.bind_eq_some_iff.mp H
              obtain ⟨⟨t282, t283, t284⟩, A490, H⟩ := H
              replace H : (if t284 = 0 then ((marigraphref1_Op.f kj19 43 t282 t283 ((rd_T26 l0 x9_2).f1.f0) ((rd_T26 l0 x9_2).f1.f1)).bind fun bt285 => (marigraphref21_Rate.j3 kj19 l0 a1 a2 x8_2 x9_2 bt285.2.2 ((rd_T26 l0 (ji15)).f0) ((rd_T26 l0 (ji15)).f1.f0) ((rd_T26 l0 (ji15)).f1.f1) ((rd_T26 l0 x9_2).f0) ((rd_T26 l0 x9_2).f1.f0) ((rd_T26 l0 x9_2).f1.f1) bt285.1 bt285.2.1)) else (marigraphref21_Rate.j3 kj19 l0 a1 a2 x8_2 x9_2 t284 ((rd_T26 l0 (ji15)).f0) ((rd_T26 l0 (ji15)).f1.f0) ((rd_T26 l0 (ji15)).f1.f1) ((rd_T26 l0 x9_2).f0) ((rd_T26 l0 x9_2).f1.f0) ((rd_T26 l0 x9_2).f1.f1) t282 t283)) = some (r1, r2) := H
              have A49 := Aside0.mk A490
              clear A490
              by_cases c50 : t284 = 0
              ·rw [if_pos c50] at H
               have c50b0 : (t284 == 0) = true := beq_iff_eq.mpr c50
               have c50b1 : (t284 != 0) = false := bne_eq_false_iff_eq.mpr c50
               clear c50
               (first | rw [c50b0] | rw [c50b1] | (simp only [i64_w, i32_w]; rw [c50b0]) | skip)
               replace H := Option.bind_eq_some_iff.mp H
               obtain ⟨⟨t285, t286, t287⟩, A510, H⟩ := H
               replace H : (marigraphref21_Rate.j3 kj19 l0 a1 a2 x8_2 x9_2 t287 ((rd_T26 l0 (ji15)).f0) ((rd_T26 l0 (ji15)).f1.f0) ((rd_T26 l0 (ji15)).f1.f1) ((rd_T26 l0 x9_2).f0) ((rd_T26 l0 x9_2).f1.f0) ((rd_T26 l0 x9_2).f1.f1) t285 t286) = some (r1, r2) := H
               have A51 := Aside0.mk A510
               clear A510
               have H' := Aside0.mk H
               clear H
               have hnb52 := NB275_276.out
               have hnc52 := NB276_275.out
               have hnb53 := NB275_280.out
               have hnc53 := NB280_275.out
               have hcz54_0 : wc.cell? ⟨gb275, 0, none⟩ = some (.int .i64 ((rd_T26 l0 (ji15)).f0)) := (blk_cell BK275.out 0).trans rfl
               have hcz54_1 : wc.cell? ⟨gb275, 1, none⟩ = some (.int .i64 ((rd_T26 l0 (ji15)).f1.f0)) := (blk_cell BK275.out 1).trans rfl
               have hcz54_2 : wc.cell? ⟨gb275, 2, none⟩ = some (.int .i64 ((rd_T26 l0 (ji15)).f1.f1)) := (blk_cell BK275.out 2).trans rfl
               have hfz54_0 := blk_frozen BK275.out 0
               have hfz54_1 := blk_frozen BK275.out 1
               have hfz54_2 := blk_frozen BK275.out 2
               go_wp2_with (first | ((with_reducible refine gate_callee (f := 31) rfl ?_); refine goesL_ (some 66) rfl rfl Try.func31 (by kernel_rfl) rfl #[.int .u8 45, .agg #[.int .i64 a2, .int .i64 1], .agg #[.int .i64 ((rd_T26 l0 (ji15)).f1.f0), .int .i64 ((rd_T26 l0 (ji15)).f1.f1)]] rfl (by (try simp only [List.map_toArray, List.map_cons, List.map_nil]); first | done | (simp only [hji15]; rfl) | rfl | (simp only [List.length_drop, List.length_take]; rfl)) ?_; (with_reducible refine (marigraphref1_Op.calls kj19 45 a2 1 ((rd_T26 l0 (ji15)).f1.f0) ((rd_T26 l0 (ji15)).f1.f1) t282 t283 t284 _ A49.out).mono ?_); rintro e w55 ⟨rfl, hb⟩; refine ⟨_, rfl, ?_⟩; have n0_ := Aside0.mk (Kd.R_below (rowN HO_8.out) hb); have n1_ := Aside0.mk (bkB BK275.out hb); have n2_ := Aside0.mk (bkB BK276.out hb); have n3_ := Aside0.mk (bkB BK280.out hb); have n4_ := Aside0.mk (below_step (belS HB.out) hb); clear HO_8; clear BK275; clear BK276; clear BK280; clear HB; have HO_8 := n0_; have BK275 := n1_; have BK276 := n2_; have BK280 := n3_; have HB := n4_; clear n0_ n1_ n2_ n3_ n4_; (try clear hb); (try clear hk); have hnb56 := NB280_276.out; have hnc56 := NB276_280.out; have hcz57_0 : w55.cell? ⟨gb280, 0, none⟩ = some (.int .i64 t277) := (blk_cell BK280.out 0).trans rfl; have hcz57_1 : w55.cell? ⟨gb280, 1, none⟩ = some (.int .i64 t278) := (blk_cell BK280.out 1).trans rfl; have hfz57_0 := blk_frozen BK280.out 0; have hfz57_1 := blk_frozen BK280.out 1; have hcz58_0 : w55.cell? ⟨gb276, 0, none⟩ = some (.int .i64 ((rd_T26 l0 x9_2).f0)) := (blk_cell BK276.out 0).trans rfl; have hcz58_1 : w55.cell? ⟨gb276, 1, none⟩ = some (.int .i64 ((rd_T26 l0 x9_2).f1.f0)) := (blk_cell BK276.out 1).trans rfl; have hcz58_2 : w55.cell? ⟨gb276, 2, none⟩ = some (.int .i64 ((rd_T26 l0 x9_2).f1.f1)) := (blk_cell BK276.out 2).trans rfl; have hfz58_0 := blk_frozen BK276.out 0; have hfz58_1 := blk_frozen BK276.out 1; have hfz58_2 := blk_frozen BK276.out 2) | ((with_reducible refine gate_callee (f := 31) rfl ?_); refine goesL_ (some 75) rfl rfl Try.func31 (by kernel_rfl) rfl #[.int .u8 43, .agg #[.int .i64 t282, .int .i64 t283], .agg #[.int .i64 ((rd_T26 l0 x9_2).f1.f0), .int .i64 ((rd_T26 l0 x9_2).f1.f1)]] rfl argN ?_; (with_reducible refine (marigraphref1_Op.calls kj19 43 t282 t283 ((rd_T26 l0 x9_2).f1.f0) ((rd_T26 l0 x9_2).f1.f1) t285 t286 t287 _ A51.out).mono ?_); rintro e w59 ⟨rfl, hb⟩; refine ⟨_, rfl, ?_⟩; have n0_ := Aside0.mk (Kd.R_below (by (with_reducible repeat (first | apply Kd.R_alloc | apply Kd.R_drewN | apply Kd.R_drew)); exact (Kd.R_mono (Kd.R_far (p := ⟨gb280, 1, none⟩) (Kd.R_far (p := ⟨gb280, 0, none⟩) (Kd.R_types HO_8.out BK280.out (by decide)) (fun _ hk => hk.2) (.int .i64 t282)) (fun _ hk => hk.2) (.int .i64 t283)) (fun _ h_ => h_.1))) hb); have n1_ := Aside0.mk (bkBF BK275.out hb); have n2_ := Aside0.mk (bkBF BK276.out hb); have n3_ := Aside0.mk (blk_below (g := gb280) (o := .cells #[.int .i64 t282, .int .i64 t283] 24 (0, 0)) (by (with_reducible repeat (first | refine blk_drewN ?_ _ | refine blk_drew ?_ | refine blk_alloc ?_ _)); refine blk_put (cs := #[.int .i64 t282, .int .i64 t278]) ?_ 1 _ rfl; (with_reducible repeat (first | refine blk_drewN ?_ _ | refine blk_drew ?_ | refine blk_alloc ?_ _)); refine blk_put (cs := #[.int .i64 t277, .int .i64 t278]) ?_ 0 _ rfl; (with_reducible repeat (first | refine blk_drewN ?_ _ | refine blk_drew ?_ | refine blk_alloc ?_ _)); exact BK280.out) hb); have n4_ := Aside0.mk (below_step (belS HB.out) hb); clear HO_8; clear BK275; clear BK276; clear BK280; clear HB; have HO_8 := n0_; have BK275 := n1_; have BK276 := n2_; have BK280 := n3_; have HB := n4_; clear n0_ n1_ n2_ n3_ n4_; (try clear hb); (try clear hk); have hcz60_0 : w59.cell? ⟨gb280, 0, none⟩ = some (.int .i64 t282) := (blk_cell BK280.out 0).trans rfl; have hcz60_1 : w59.cell? ⟨gb280, 1, none⟩ = some (.int .i64 t283) := (blk_cell BK280.out 1).trans rfl; have hfz60_0 := blk_frozen BK280.out 0; have hfz60_1 := blk_frozen BK280.out 1))
               go_meet
               case rel => exact ⟨_, (t287), (t285), (t286), (by first | rfl | (simp; done) | (simp [*]; done)), H', ⟨by have := HJ3.out; have := HK2.out; have := HJ19.out; first | omega | exact Nat.le_refl _⟩, ⟨by (with_reducible repeat (first | apply Kd.R_alloc | apply Kd.R_drewN | apply Kd.R_drew)); exact Kd.R_mono (Kd.R_far (p := ⟨gb280, 1, none⟩) (Kd.R_far (p := ⟨gb280, 0, none⟩) (Kd.R_types HO_8.out BK280.out (by decide)) (fun _ hk => hk.2) (.int .i64 t285)) (fun _ hk => hk.2) (.int .i64 t286)) (fun _ hk => ⟨hk.1.1, hk.1.2⟩)⟩, ⟨blkF BK275.out⟩, ⟨blkF BK276.out⟩, ⟨by (with_reducible repeat (first | refine blk_drewN ?_ _ | refine blk_drew ?_ | refine blk_alloc ?_ _)); refine blk_put (cs := #[.int .i64 t285, .int .i64 t283]) ?_ 1 _ rfl; (with_reducible repeat (first | refine blk_drewN ?_ _ | refine blk_drew ?_ | refine blk_alloc ?_ _)); refine blk_put (cs := #[.int .i64 t282, .int .i64 t283]) ?_ 0 _ rfl; (with_reducible repeat (first | refine blk_drewN ?_ _ | refine blk_drew ?_ | refine blk_alloc ?_ _)); exact BK280.out⟩, ⟨(belS HB.out)⟩⟩
              ·rw [if_neg c50] at H
               have c50b0 : (t284 == 0) = false := beq_eq_false_iff_ne.mpr c50
               have c50b1 : (t284 != 0) = true := bne_iff_ne.mpr c50
               (first | rw [c50b0] | rw [c50b1] | (simp only [i64_w, i32_w]; rw [c50b0]) | skip)
               have H' := Aside0.mk H
               clear H
               have hnb61 := NB275_276.out
               have hnc61 := NB276_275.out
               have hnb62 := NB275_280.out
               have hnc62 := NB280_275.out
               have hcz63_0 : wc.cell? ⟨gb275, 0, none⟩ = some (.int .i64 ((rd_T26 l0 (ji15)).f0)) := (blk_cell BK275.out 0).trans rfl
               have hcz63_1 : wc.cell? ⟨gb275, 1, none⟩ = some (.int .i64 ((rd_T26 l0 (ji15)).f1.f0)) := (blk_cell BK275.out 1).trans rfl
               have hcz63_2 : wc.cell? ⟨gb275, 2, none⟩ = some (.int .i64 ((rd_T26 l0 (ji15)).f1.f1)) := (blk_cell BK275.out 2).trans rfl
               have hfz63_0 := blk_frozen BK275.out 0
               have hfz63_1 := blk_frozen BK275.out 1
               have hfz63_2 := blk_frozen BK275.out 2
               go_wp2_with (first | ((with_reducible refine gate_callee (f := 31) rfl ?_); refine goesL_ (some 66) rfl rfl Try.func31 (by kernel_rfl) rfl #[.int .u8 45, .agg #[.int .i64 a2, .int .i64 1], .agg #[.int .i64 ((rd_T26 l0 (ji15)).f1.f0), .int .i64 ((rd_T26 l0 (ji15)).f1.f1)]] rfl (by (try simp only [List.map_toArray, List.map_cons, List.map_nil]); first | done | (simp only [hji15]; rfl) | rfl | (simp only [List.length_drop, List.length_take]; rfl)) ?_; (with_reducible refine (marigraphref1_Op.calls kj19 45 a2 1 ((rd_T26 l0 (ji15)).f1.f0) ((rd_T26 l0 (ji15)).f1.f1) t282 t283 t284 _ A49.out).mono ?_); rintro e w64 ⟨rfl, hb⟩; refine ⟨_, rfl, ?_⟩; have n0_ := Aside0.mk (Kd.R_below (rowN HO_8.out) hb); have n1_ := Aside0.mk (bkB BK275.out hb); have n2_ := Aside0.mk (bkB BK276.out hb); have n3_ := Aside0.mk (bkB BK280.out hb); have n4_ := Aside0.mk (below_step (belS HB.out) hb); clear HO_8; clear BK275; clear BK276; clear BK280; clear HB; have HO_8 := n0_; have BK275 := n1_; have BK276 := n2_; have BK280 := n3_; have HB := n4_; clear n0_ n1_ n2_ n3_ n4_; (try clear hb); (try clear hk); have hnb65 := NB280_276.out; have hnc65 := NB276_280.out; have hcz66_0 : w64.cell? ⟨gb280, 0, none⟩ = some (.int .i64 t277) := (blk_cell BK280.out 0).trans rfl; have hcz66_1 : w64.cell? ⟨gb280, 1, none⟩ = some (.int .i64 t278) := (blk_cell BK280.out 1).trans rfl; have hfz66_0 := blk_frozen BK280.out 0; have hfz66_1 := blk_frozen BK280.out 1))
               go_meet
               case rel => exact ⟨_, (t284), (t282), (t283), (by first | rfl | (simp; done) | (simp [*]; done)), H', ⟨by have := HJ3.out; have := HK2.out; have := HJ19.out; first | omega | exact Nat.le_refl _⟩, ⟨by (with_reducible repeat (first | apply Kd.R_alloc | apply Kd.R_drewN | apply Kd.R_drew)); exact Kd.R_mono (Kd.R_far (p := ⟨gb280, 1, none⟩) (Kd.R_far (p := ⟨gb280, 0, none⟩) (Kd.R_types HO_8.out BK280.out (by decide)) (fun _ hk => hk.2) (.int .i64 t282)) (fun _ hk => hk.2) (.int .i64 t283)) (fun _ hk => ⟨hk.1.1, hk.1.2⟩)⟩, ⟨blkF BK275.out⟩, ⟨blkF BK276.out⟩, ⟨by (with_reducible repeat (first | refine blk_drewN ?_ _ | refine blk_drew ?_ | refine blk_alloc ?_ _)); refine blk_put (cs := #[.int .i64 t282, .int .i64 t278]) ?_ 1 _ rfl; (with_reducible repeat (first | refine blk_drewN ?_ _ | refine blk_drew ?_ | refine blk_alloc ?_ _)); refine blk_put (cs := #[.int .i64 t277, .int .i64 t278]) ?_ 0 _ rfl; (with_reducible repeat (first | refine blk_drewN ?_ _ | refine blk_drew ?_ | refine blk_alloc ?_ _)); exact BK280.out⟩, ⟨(belS HB.out)⟩⟩
             ·replace c48 := Bool.eq_false_iff.mpr c48
              subst c48
              have H1 : (marigraphref21_Rate.j3 kj19 l0 a1 a2 x8_2 x9_2 t279 ((rd_T26 l0 (ji15)).f0) ((rd_T26 l0 (ji15)).f1.f0) ((rd_T26 l0 (ji15)).f1.f1) ((rd_T26 l0 x9_2).f0) ((rd_T26 l0 x9_2).f1.f0) ((rd_T26 l0 x9_2).f1.f1) t277 t278) = some (r1, r2) := by rw [if_neg (show ¬ (false = true) by decide)] at H; exact H
              clear H
              have H := H1
              clear H1
              have H' := Aside0.mk H
              clear H
              go_wp2
              go_meet
              case rel => exact ⟨_, (t279), (t277), (t278), (by first | rfl | (simp; done) | (simp [*]; done)), H', ⟨by have := HJ3.out; have := HK2.out; have := HJ19.out; first | omega | exact Nat.le_refl _⟩, ⟨(rowN HO_8.out)⟩, ⟨blkN BK275.out⟩, ⟨blkN BK276.out⟩, ⟨blkN BK280.out⟩, ⟨(belS HB.out)⟩⟩
            case rest =>
             clear HC47
             try clear c1
             try clear p2
             try clear q2
             try clear hx2
             try clear c3
             try clear c4
             try clear c5
             try clear c6
             try clear p6
             try clear c7
             try clear c8
             try clear c8b0
             try clear c13
             try clear c14
             try clear c14b0
             try clear c16
             try clear c16b0
             try clear c17
             try clear c17b0
             try clear c18
             try clear c18b0
             try clear c19
             try clear p27
             try clear q27
             try clear hx27
             try clear c31
             try clear c34
             try clear c36
             try clear c37
             try clear c39
             try clear c41
             try clear c42
             try clear c44
             try clear c48
             try clear c50
             try clear c50b0
             try clear c50b1
             try clear c52
             try clear c53
             try clear c56
             try clear c61
             try clear c62
             try clear p64
             try clear c65
             try clear hcz32_0
             try clear hcz32_1
             try clear hcz32_2
             try clear hcz33_0
             try clear hcz33_1
             try clear hcz33_2
             try clear hcz38_0
             try clear hcz38_1
             try clear hcz43_0
             try clear hcz43_1
             try clear hcz43_2
             try clear hcz45_0
             try clear hcz45_1
             try clear hcz45_2
             try clear hcz54_0
             try clear hcz54_1
             try clear hcz54_2
             try clear hcz57_0
             try clear hcz57_1
             try clear hcz58_0
             try clear hcz58_1
             try clear hcz58_2
             try clear hcz60_0
             try clear hcz60_1
             try clear hcz63_0
             try clear hcz63_1
             try clear hcz63_2
             try clear hcz66_0
             try clear hcz66_1
             try clear hfz32_0
             try clear hfz32_1
             try clear hfz32_2
             try clear hfz33_0
             try clear hfz33_1
             try clear hfz33_2
             try clear hfz38_0
             try clear hfz38_1
             try clear hfz43_0
             try clear hfz43_1
             try clear hfz43_2
             try clear hfz45_0
             try clear hfz45_1
             try clear hfz45_2
             try clear hfz54_0
             try clear hfz54_1
             try clear hfz54_2
             try clear hfz57_0
             try clear hfz57_1
             try clear hfz58_0
             try clear hfz58_1
             try clear hfz58_2
             try clear hfz60_0
             try clear hfz60_1
             try clear hfz63_0
             try clear hfz63_1
             try clear hfz63_2
             try clear hfz66_0
             try clear hfz66_1
             try clear hx273_0
             try clear hx273_1
             try clear hx273_2
             try clear hx274_0
             try clear hx274_1
             try clear hx274_2
             try clear p2
             try clear p27
             try clear p273
             try clear p274
             try clear p6
             try clear q2
             try clear q27
             try clear q273
             try clear q274
             obtain ⟨kq, x13_46, x281000_46, x281001_46, rfl, HA, HJ46, HO_8, BK275, BK276, BK280, HB⟩ := hcut
             cases kq with
             | zero => exact absurd HA.out (by simp [marigraphref21_Rate.j3])
             | succ kj46 =>
              have H := HA.out
              clear HA
              simp only [marigraphref21_Rate.j3] at H
              by_cases c67 : x13_46 = 0
              ·rw [if_pos c67] at H
               have c67b0 : (x13_46 == 0) = true := beq_iff_eq.mpr c67
               have c67b1 : (x13_46 != 0) = false := bne_eq_false_iff_eq.mpr c67
               clear c67
               replace H := Option.bind_eq_some_iff.mp H
               obtain ⟨⟨t288, t289, t290⟩, A680, H⟩ := H
               replace H : (if t290 = 0 then ((marigraphref1_Op.f kj46 47 x281000_46 x281001_46 t288 t289).bind fun bt292 => (if bt292.2.2 = 0 then (if x8_2.length < 5864062014805 then (marigraphref21_Rate.l0 kj46 l0 a1 a2 (x8_2 ++ [(⟨((rd_T26 l0 x9_2).f0), (⟨bt292.1, bt292.2.1⟩ : S24)⟩ : S26)]) (wrap64 (x9_2 + 1))) else (none)) else (some (([] : List (S26)), bt292.2.2)))) else (some (([] : List (S26)), t290))) = some (r1, r2) := H
               have A68 := Aside0.mk A680
               clear A680
               by_cases c69 : t290 = 0
               ·rw [if_pos c69] at H
                have c69b0 : (t290 == 0) = true := beq_iff_eq.mpr c69
                have c69b1 : (t290 != 0) = false := bne_eq_false_iff_eq.mpr c69
                clear c69
                replace H := Option.bind_eq_some_iff.mp H
                obtain ⟨⟨t292, t293, t294⟩, A700, H⟩ := H
                replace H : (if t294 = 0 then (if x8_2.length < 5864062014805 then (marigraphref21_Rate.l0 kj46 l0 a1 a2 (x8_2 ++ [(⟨((rd_T26 l0 x9_2).f0), (⟨t292, t293⟩ : S24)⟩ : S26)]) (wrap64 (x9_2 + 1))) else (none)) else (some (([] : List (S26)), t294))) = some (r1, r2) := H
                have A70 := Aside0.mk A700
                clear A700
                by_cases c71 : t294 = 0
                ·rw [if_pos c71] at H
                 have c71b0 : (t294 == 0) = true := beq_iff_eq.mpr c71
                 have c71b1 : (t294 != 0) = false := bne_eq_false_iff_eq.mpr c71
                 clear c71
                 by_cases c72 : x8_2.length < 5864062014805
                 ·rw [if_pos c72] at H
                  have LMc72 := Aside0.mk c72
                  clear c72
                  obtain ⟨y295, hy295⟩ : ∃ y_ : List (S26), y_ = (x8_2 ++ [(⟨((rd_T26 l0 x9_2).f0), (⟨t292, t293⟩ : S24)⟩ : S26)]) := ⟨_, rfl⟩
                  replace H : (marigraphref21_Rate.l0 kj46 l0 a1 a2 y295 (wrap64 (x9_2 + 1))) = some (r1, r2) := by first | (rw [hy295]; with_reducible exact H) | (have H2_ := (Option.bind_some _ _).symm.trans H; rw [hy295]; with_reducible exact H2_) | (have H2_ := (Option.bind_some _ _).symm.trans H; with_reducible exact H2_) | with_reducible exact H | (rw [hy295]; exact H) | exact H
                  have Ny295 := Aside0.mk hy295
                  clear hy295
                  have H' := Aside0.mk H
                  clear H
                  have hnb73 := NB276_275.out
                  have hnc73 := NB275_276.out
                  have hnb74 := NB276_280.out
                  have hnc74 := NB280_276.out
                  have hcz75_0 : wc.cell? ⟨gb276, 0, none⟩ = some (.int .i64 ((rd_T26 l0 x9_2).f0)) := (blk_cell BK276.out 0).trans rfl
                  have hcz75_1 : wc.cell? ⟨gb276, 1, none⟩ = some (.int .i64 ((rd_T26 l0 x9_2).f1.f0)) := (blk_cell BK276.out 1).trans rfl
                  have hcz75_2 : wc.cell? ⟨gb276, 2, none⟩ = some (.int .i64 ((rd_T26 l0 x9_2).f1.f1)) := (blk_cell BK276.out 2).trans rfl
                  have hfz75_0 := blk_frozen BK276.out 0
                  have hfz75_1 := blk_frozen BK276.out 1
                  have hfz75_2 := blk_frozen BK276.out 2
                  have hnb76 := NB275_280.out
                  have hnc76 := NB280_275.out
                  have hcz77_0 : wc.cell? ⟨gb275, 0, none⟩ = some (.int .i64 ((rd_T26 l0 (ji15)).f0)) := (blk_cell BK275.out 0).trans rfl
                  have hcz77_1 : wc.cell? ⟨gb275, 1, none⟩ = some (.int .i64 ((rd_T26 l0 (ji15)).f1.f0)) := (blk_cell BK275.out 1).trans rfl
                  have hcz77_2 : wc.cell? ⟨gb275, 2, none⟩ = some (.int .i64 ((rd_T26 l0 (ji15)).f1.f1)) := (blk_cell BK275.out 2).trans rfl
                  have hfz77_0 := blk_frozen BK275.out 0
                  have hfz77_1 := blk_frozen BK275.out 1
                  have hfz77_2 := blk_frozen BK275.out 2
                  go_wp2_with (first | ((with_reducible refine gate_callee (f := 32) rfl ?_); refine goesL_ (some 87) rfl rfl Try.func32 (by kernel_rfl) rfl #[.int .i64 (wrap64 (((rd_T26 l0 x9_2).f0) - ((rd_T26 l0 (ji15)).f0))), .int .i64 1] rfl (by (try simp only [List.map_toArray, List.map_cons, List.map_nil]); first | done | (simp only [hji15]; rfl) | rfl | (simp only [List.length_drop, List.length_take]; rfl)) ?_; (with_reducible refine (marigraphref1_New.calls kj46 (wrap64 (((rd_T26 l0 x9_2).f0) - ((rd_T26 l0 (ji15)).f0))) 1 t288 t289 t290 _ A68.out).mono ?_); rintro e w78 ⟨rfl, hb⟩; refine ⟨_, rfl, ?_⟩; have n0_ := Aside0.mk (Kd.R_below (rowN HO_8.out) hb); have n1_ := Aside0.mk (bkB BK275.out hb); have n2_ := Aside0.mk (bkB BK276.out hb); have n3_ := Aside0.mk (bkB BK280.out hb); have n4_ := Aside0.mk (below_step (belS HB.out) hb); clear HO_8; clear BK275; clear BK276; clear BK280; clear HB; have HO_8 := n0_; have BK275 := n1_; have BK276 := n2_; have BK280 := n3_; have HB := n4_; clear n0_ n1_ n2_ n3_ n4_; (try clear hb); (try clear hk)) | ((with_reducible refine gate_dst (N := 14) rfl ?_); refine box_event ?hg (N := 14) ?hd (cs := #[.int .i64 0, .int .i64 0]) (t := 24) ?hr ?_; (case hd => rfl); (case hg => rfl); (case hr => first | (go_simp; done) | (go_simp; rfl)); intro gb291 hg w79 hbox hb; have n0_ := Aside0.mk (Kd.R_below (rowN HO_8.out) hb); have n1_ := Aside0.mk (bkB BK275.out hb); have n2_ := Aside0.mk (bkB BK276.out hb); have n3_ := Aside0.mk (bkB BK280.out hb); have n4_ := Aside0.mk (below_step (belS HB.out) hb); have n5_ := Aside0.mk (hbox); have n6_ := Aside0.mk (szB hg HB.out); have n7_ := Aside0.mk (szB hg HB.out); have n8_ := Aside0.mk ((bk1 hg BK275.out)); have n9_ := Aside0.mk ((bk2 hg BK275.out)); have n10_ := Aside0.mk ((bk1 hg BK276.out)); have n11_ := Aside0.mk ((bk2 hg BK276.out)); have n12_ := Aside0.mk ((bk1 hg BK280.out)); have n13_ := Aside0.mk ((bk2 hg BK280.out)); clear HO_8; clear BK275; clear BK276; clear BK280; clear HB; have HO_8 := n0_; have BK275 := n1_; have BK276 := n2_; have BK280 := n3_; have HB := n4_; have BK291 := n5_; have GW291 := n6_; have GE291 := n7_; have NB275_291 := n8_; have NB291_275 := n9_; have NB276_291 := n10_; have NB291_276 := n11_; have NB280_291 := n12_; have NB291_280 := n13_; clear n0_ n1_ n2_ n3_ n4_ n5_ n6_ n7_ n8_ n9_ n10_ n11_ n12_ n13_; clear hb hbox hg; have hnb80 := NB291_275.out; have hnc80 := NB275_291.out; have hnb81 := NB291_276.out; have hnc81 := NB276_291.out; have hnb82 := NB291_280.out; have hnc82 := NB280_291.out; have hcz83_0 : w79.cell? ⟨gb291, 0, none⟩ = some (.int .i64 0) := (blk_cell BK291.out 0).trans rfl; have hcz83_1 : w79.cell? ⟨gb291, 1, none⟩ = some (.int .i64 0) := (blk_cell BK291.out 1).trans rfl; have hfz83_0 := blk_frozen BK291.out 0; have hfz83_1 := blk_frozen BK291.out 1; have hcz84_0 : w79.cell? ⟨gb280, 0, none⟩ = some (.int .i64 x281000_46) := (blk_cell BK280.out 0).trans rfl; have hcz84_1 : w79.cell? ⟨gb280, 1, none⟩ = some (.int .i64 x281001_46) := (blk_cell BK280.out 1).trans rfl; have hfz84_0 := blk_frozen BK280.out 0; have hfz84_1 := blk_frozen BK280.out 1) | ((with_reducible refine gate_callee (f := 31) rfl ?_); refine goesL_ (some 96) rfl rfl Try.func31 (by kernel_rfl) rfl #[.int .u8 47, .agg #[.int .i64 x281000_46, .int .i64 x281001_46], .agg #[.int .i64 t288, .int .i64 t289]] rfl argN ?_; (with_reducible refine (marigraphref1_Op.calls kj46 47 x281000_46 x281001_46 t288 t289 t292 t293 t294 _ A70.out).mono ?_); rintro e w85 ⟨rfl, hb⟩; refine ⟨_, rfl, ?_⟩; have n0_ := Aside0.mk (Kd.R_below (by (with_reducible repeat (first | apply Kd.R_alloc | apply Kd.R_drewN | apply Kd.R_drew)); exact (Kd.R_mono (Kd.R_far (p := ⟨gb291, 1, none⟩) (Kd.R_far (p := ⟨gb291, 0, none⟩) (Kd.R_types HO_8.out BK291.out (by decide)) (fun _ hk => hk.2) (.int .i64 t288)) (fun _ hk => hk.2) (.int .i64 t289)) (fun _ h_ => h_.1))) hb); have n1_ := Aside0.mk (bkBF BK275.out hb); have n2_ := Aside0.mk (bkBF BK276.out hb); have n3_ := Aside0.mk (bkBF BK280.out hb); have n4_ := Aside0.mk (blk_below (g := gb291) (o := .cells #[.int .i64 t288, .int .i64 t289] 24 (0, 0)) (by (with_reducible repeat (first | refine blk_drewN ?_ _ | refine blk_drew ?_ | refine blk_alloc ?_ _)); refine blk_put (cs := #[.int .i64 t288, .int .i64 0]) ?_ 1 _ rfl; (with_reducible repeat (first | refine blk_drewN ?_ _ | refine blk_drew ?_ | refine blk_alloc ?_ _)); refine blk_put (cs := #[.int .i64 0, .int .i64 0]) ?_ 0 _ rfl; (with_reducible repeat (first | refine blk_drewN ?_ _ | refine blk_drew ?_ | refine blk_alloc ?_ _)); exact BK291.out) hb); have n5_ := Aside0.mk (below_step (belS HB.out) hb); clear HO_8; clear BK275; clear BK276; clear BK280; clear BK291; clear HB; have HO_8 := n0_; have BK275 := n1_; have BK276 := n2_; have BK280 := n3_; have BK291 := n4_; have HB := n5_; clear n0_ n1_ n2_ n3_ n4_ n5_; (try clear hb); (try clear hk); have hcz86_0 : w85.cell? ⟨gb280, 0, none⟩ = some (.int .i64 x281000_46) := (blk_cell BK280.out 0).trans rfl; have hcz86_1 : w85.cell? ⟨gb280, 1, none⟩ = some (.int .i64 x281001_46) := (blk_cell BK280.out 1).trans rfl; have hfz86_0 := blk_frozen BK280.out 0; have hfz86_1 := blk_frozen BK280.out 1; have hcz87_0 : w85.cell? ⟨gb276, 0, none⟩ = some (.int .i64 ((rd_T26 l0 x9_2).f0)) := (blk_cell BK276.out 0).trans rfl; have hcz87_1 : w85.cell? ⟨gb276, 1, none⟩ = some (.int .i64 ((rd_T26 l0 x9_2).f1.f0)) := (blk_cell BK276.out 1).trans rfl; have hcz87_2 : w85.cell? ⟨gb276, 2, none⟩ = some (.int .i64 ((rd_T26 l0 x9_2).f1.f1)) := (blk_cell BK276.out 2).trans rfl; have hfz87_0 := blk_frozen BK276.out 0; have hfz87_1 := blk_frozen BK276.out 1; have hfz87_2 := blk_frozen BK276.out 2) | ((with_reducible refine gate_builtin (b := .append) (xs := #[.tmp 102, .tmp 107]) rfl ?_); at_builtin; refine Kd.R_append k26 (w0 := w) w.heap.size rfl (.tmp 102) (.tmp 107) 27 26 (.agg #[(.int .i64 0), (.int .i64 0), (.int .i64 0)]) 24 rfl Try.underlying27 info26 rfl (by decide) (by omega) u8 x8_2 (⟨((rd_T26 l0 x9_2).f0), (⟨t292, t293⟩ : S24)⟩ : S26) [.int .i64 ((rd_T26 l0 x9_2).f0), .int .i64 t292, .int .i64 t293] (fun k_ => k_ ≠ gb275 ∧ k_ ≠ gb276) (fun _ => False) rfl (by first | (go_simp; done) | (go_simp; rfl)) ?aP (fun _ hk => hk.elim) ?aF ?aO ?aB ?aS ?aL ?_; (case aP => exact k26_mkM _ _ _ (⟨((rd_T26 l0 x9_2).f0), (⟨t292, t293⟩ : S24)⟩ : S26)); (case aB => exact (belS HB.out)); (case aF => exact (fun k_ hk => ⟨Kd.freshB (g := gb275) (o := .cells #[.int .i64 ((rd_T26 l0 (ji15)).f0), .int .i64 ((rd_T26 l0 (ji15)).f1.f0), .int .i64 ((rd_T26 l0 (ji15)).f1.f1)] 26 (0, 0)) (blkF BK275.out) k_ hk, Kd.freshB (g := gb276) (o := .cells #[.int .i64 ((rd_T26 l0 x9_2).f0), .int .i64 ((rd_T26 l0 x9_2).f1.f0), .int .i64 ((rd_T26 l0 x9_2).f1.f1)] 26 (0, 0)) (blkF BK276.out) k_ hk⟩)); (case aO => exact (by (with_reducible repeat (first | apply Kd.R_alloc | apply Kd.R_drewN | apply Kd.R_drew)); exact Kd.R_mono (Kd.R_far (p := ⟨gb280, 1, none⟩) (Kd.R_far (p := ⟨gb280, 0, none⟩) (Kd.R_types HO_8.out BK280.out (by decide)) (fun _ hk => hk.2) (.int .i64 t292)) (fun _ hk => hk.2) (.int .i64 t293)) (fun _ hk => ⟨hk.1.1, hk.1.2⟩))); (case aS => exact (below_size (belS HB.out))); (case aL => have := LMc72.out; omega); intro v296 w88 ho hb hg hat; rw [← Ny295.out] at ho; have n0_ := Aside0.mk (blk_grown (g := gb275) (o := .cells #[.int .i64 ((rd_T26 l0 (ji15)).f0), .int .i64 ((rd_T26 l0 (ji15)).f1.f0), .int .i64 ((rd_T26 l0 (ji15)).f1.f1)] 26 (0, 0)) (blkF BK275.out) hg (Kd.R_away HO_8.out (fun _ hk => hk.1))); have n1_ := Aside0.mk (blk_grown (g := gb276) (o := .cells #[.int .i64 ((rd_T26 l0 x9_2).f0), .int .i64 ((rd_T26 l0 x9_2).f1.f0), .int .i64 ((rd_T26 l0 x9_2).f1.f1)] 26 (0, 0)) (blkF BK276.out) hg (Kd.R_away HO_8.out (fun _ hk => hk.2))); have n2_ := Aside0.mk (blk_grown (g := gb280) (o := .cells #[.int .i64 t292, .int .i64 t293] 24 (0, 0)) (by (with_reducible repeat (first | refine blk_drewN ?_ _ | refine blk_drew ?_ | refine blk_alloc ?_ _)); refine blk_put (cs := #[.int .i64 t292, .int .i64 x281001_46]) ?_ 1 _ rfl; (with_reducible repeat (first | refine blk_drewN ?_ _ | refine blk_drew ?_ | refine blk_alloc ?_ _)); refine blk_put (cs := #[.int .i64 x281000_46, .int .i64 x281001_46]) ?_ 0 _ rfl; (with_reducible repeat (first | refine blk_drewN ?_ _ | refine blk_drew ?_ | refine blk_alloc ?_ _)); exact BK280.out) hg (Kd.R_ne HO_8.out BK280.out (by decide))); have n3_ := Aside0.mk (blk_grown (g := gb291) (o := .cells #[.int .i64 t288, .int .i64 t289] 24 (0, 0)) (blkF BK291.out) hg (Kd.R_ne HO_8.out BK291.out (by decide))); have n4_ := Aside0.mk (hb); have n5_ := Aside0.mk (ho); clear BK275; clear BK276; clear BK280; clear BK291; clear HB; clear HO_8; have BK275 := n0_; have BK276 := n1_; have BK280 := n2_; have BK291 := n3_; have HB := n4_; have HO297 := n5_; clear n0_ n1_ n2_ n3_ n4_ n5_; clear ho hb hg hat))
                  go_roundg kj46
                  case measure => have := HJ3.out; have := HK2.out; have := HJ19.out; have := HJ46.out; omega
                  case rel => exact ⟨(y295), (wrap64 (x9_2 + 1)), (by first | rfl | (simp; done) | (simp [*]; done)), H', ⟨by have := HJ3.out; have := HK2.out; have := HJ19.out; have := HJ46.out; omega⟩, ⟨by (with_reducible repeat (first | apply Kd.R_alloc | apply Kd.R_drewN | apply Kd.R_drew)); exact Kd.R_mono HO297.out (fun _ hk => trivial)⟩, ⟨(belS HB.out)⟩⟩
                 ·rw [if_neg c72] at H
                  exact absurd H (by simp)
                ·rw [if_neg c71] at H
                 have c71b0 : (t294 == 0) = false := beq_eq_false_iff_ne.mpr c71
                 have c71b1 : (t294 != 0) = true := bne_iff_ne.mpr c71
                 simp only [Option.some.injEq, Prod.mk.injEq] at H
                 obtain ⟨rfl, rfl⟩ := H
                 have hnb89 := NB276_275.out
                 have hnc89 := NB275_276.out
                 have hnb90 := NB276_280.out
                 have hnc90 := NB280_276.out
                 have hcz91_0 : wc.cell? ⟨gb276, 0, none⟩ = some (.int .i64 ((rd_T26 l0 x9_2).f0)) := (blk_cell BK276.out 0).trans rfl
                 have hcz91_1 : wc.cell? ⟨gb276, 1, none⟩ = some (.int .i64 ((rd_T26 l0 x9_2).f1.f0)) := (blk_cell BK276.out 1).trans rfl
                 have hcz91_2 : wc.cell? ⟨gb276, 2, none⟩ = some (.int .i64 ((rd_T26 l0 x9_2).f1.f1)) := (blk_cell BK276.out 2).trans rfl
                 have hfz91_0 := blk_frozen BK276.out 0
                 have hfz91_1 := blk_frozen BK276.out 1
                 have hfz91_2 := blk_frozen BK276.out 2
                 have hnb92 := NB275_280.out
                 have hnc92 := NB280_275.out
                 have hcz93_0 : wc.cell? ⟨gb275, 0, none⟩ = some (.int .i64 ((rd_T26 l0 (ji15)).f0)) := (blk_cell BK275.out 0).trans rfl
                 have hcz93_1 : wc.cell? ⟨gb275, 1, none⟩ = some (.int .i64 ((rd_T26 l0 (ji15)).f1.f0)) := (blk_cell BK275.out 1).trans rfl
                 have hcz93_2 : wc.cell? ⟨gb275, 2, none⟩ = some (.int .i64 ((rd_T26 l0 (ji15)).f1.f1)) := (blk_cell BK275.out 2).trans rfl
                 have hfz93_0 := blk_frozen BK275.out 0
                 have hfz93_1 := blk_frozen BK275.out 1
                 have hfz93_2 := blk_frozen BK275.out 2
                 go_wp2_with (first | ((with_reducible refine gate_callee (f := 32) rfl ?_); refine goesL_ (some 87) rfl rfl Try.func32 (by kernel_rfl) rfl #[.int .i64 (wrap64 (((rd_T26 l0 x9_2).f0) - ((rd_T26 l0 (ji15)).f0))), .int .i64 1] rfl (by (try simp only [List.map_toArray, List.map_cons, List.map_nil]); first | done | (simp only [hji15]; rfl) | rfl | (simp only [List.length_drop, List.length_take]; rfl)) ?_; (with_reducible refine (marigraphref1_New.calls kj46 (wrap64 (((rd_T26 l0 x9_2).f0) - ((rd_T26 l0 (ji15)).f0))) 1 t288 t289 t290 _ A68.out).mono ?_); rintro e w94 ⟨rfl, hb⟩; refine ⟨_, rfl, ?_⟩; have n0_ := Aside0.mk (Kd.R_below (rowN HO_8.out) hb); have n1_ := Aside0.mk (bkB BK275.out hb); have n2_ := Aside0.mk (bkB BK276.out hb); have n3_ := Aside0.mk (bkB BK280.out hb); have n4_ := Aside0.mk (below_step (belS HB.out) hb); clear HO_8; clear BK275; clear BK276; clear BK280; clear HB; have HO_8 := n0_; have BK275 := n1_; have BK276 := n2_; have BK280 := n3_; have HB := n4_; clear n0_ n1_ n2_ n3_ n4_; (try clear hb); (try clear hk)) | ((with_reducible refine gate_dst (N := 14) rfl ?_); refine box_event ?hg (N := 14) ?hd (cs := #[.int .i64 0, .int .i64 0]) (t := 24) ?hr ?_; (case hd => rfl); (case hg => rfl); (case hr => first | (go_simp; done) | (go_simp; rfl)); intro gb291 hg w95 hbox hb; have n0_ := Aside0.mk (Kd.R_below (rowN HO_8.out) hb); have n1_ := Aside0.mk (bkB BK275.out hb); have n2_ := Aside0.mk (bkB BK276.out hb); have n3_ := Aside0.mk (bkB BK280.out hb); have n4_ := Aside0.mk (below_step (belS HB.out) hb); have n5_ := Aside0.mk (hbox); have n6_ := Aside0.mk (szB hg HB.out); have n7_ := Aside0.mk (szB hg HB.out); have n8_ := Aside0.mk ((bk1 hg BK275.out)); have n9_ := Aside0.mk ((bk2 hg BK275.out)); have n10_ := Aside0.mk ((bk1 hg BK276.out)); have n11_ := Aside0.mk ((bk2 hg BK276.out)); have n12_ := Aside0.mk ((bk1 hg BK280.out)); have n13_ := Aside0.mk ((bk2 hg BK280.out)); clear HO_8; clear BK275; clear BK276; clear BK280; clear HB; have HO_8 := n0_; have BK275 := n1_; have BK276 := n2_; have BK280 := n3_; have HB := n4_; have BK291 := n5_; have GW291 := n6_; have GE291 := n7_; have NB275_291 := n8_; have NB291_275 := n9_; have NB276_291 := n10_; have NB291_276 := n11_; have NB280_291 := n12_; have NB291_280 := n13_; clear n0_ n1_ n2_ n3_ n4_ n5_ n6_ n7_ n8_ n9_ n10_ n11_ n12_ n13_; clear hb hbox hg; have hnb96 := NB291_275.out; have hnc96 := NB275_291.out; have hnb97 := NB291_276.out; have hnc97 := NB276_291.out; have hnb98 := NB291_280.out; have hnc98 := NB280_291.out; have hcz99_0 : w95.cell? ⟨gb291, 0, none⟩ = some (.int .i64 0) := (blk_cell BK291.out 0).trans rfl; have hcz99_1 : w95.cell? ⟨gb291, 1, none⟩ = some (.int .i64 0) := (blk_cell BK291.out 1).trans rfl; have hfz99_0 := blk_frozen BK291.out 0; have hfz99_1 := blk_frozen BK291.out 1; have hcz100_0 : w95.cell? ⟨gb280, 0, none⟩ = some (.int .i64 x281000_46) := (blk_cell BK280.out 0).trans rfl; have hcz100_1 : w95.cell? ⟨gb280, 1, none⟩ = some (.int .i64 x281001_46) := (blk_cell BK280.out 1).trans rfl; have hfz100_0 := blk_frozen BK280.out 0; have hfz100_1 := blk_frozen BK280.out 1) | ((with_reducible refine gate_callee (f := 31) rfl ?_); refine goesL_ (some 96) rfl rfl Try.func31 (by kernel_rfl) rfl #[.int .u8 47, .agg #[.int .i64 x281000_46, .int .i64 x281001_46], .agg #[.int .i64 t288, .int .i64 t289]] rfl argN ?_; (with_reducible refine (marigraphref1_Op.calls kj46 47 x281000_46 x281001_46 t288 t289 t292 t293 t294 _ A70.out).mono ?_); rintro e w101 ⟨rfl, hb⟩; refine ⟨_, rfl, ?_⟩; have n0_ := Aside0.mk (Kd.R_below (by (with_reducible repeat (first | apply Kd.R_alloc | apply Kd.R_drewN | apply Kd.R_drew)); exact (Kd.R_mono (Kd.R_far (p := ⟨gb291, 1, none⟩) (Kd.R_far (p := ⟨gb291, 0, none⟩) (Kd.R_types HO_8.out BK291.out (by decide)) (fun _ hk => hk.2) (.int .i64 t288)) (fun _ hk => hk.2) (.int .i64 t289)) (fun _ h_ => h_.1))) hb); have n1_ := Aside0.mk (bkBF BK275.out hb); have n2_ := Aside0.mk (bkBF BK276.out hb); have n3_ := Aside0.mk (bkBF BK280.out hb); have n4_ := Aside0.mk (blk_below (g := gb291) (o := .cells #[.int .i64 t288, .int .i64 t289] 24 (0, 0)) (by (with_reducible repeat (first | refine blk_drewN ?_ _ | refine blk_drew ?_ | refine blk_alloc ?_ _)); refine blk_put (cs := #[.int .i64 t288, .int .i64 0]) ?_ 1 _ rfl; (with_reducible repeat (first | refine blk_drewN ?_ _ | refine blk_drew ?_ | refine blk_alloc ?_ _)); refine blk_put (cs := #[.int .i64 0, .int .i64 0]) ?_ 0 _ rfl; (with_reducible repeat (first | refine blk_drewN ?_ _ | refine blk_drew ?_ | refine blk_alloc ?_ _)); exact BK291.out) hb); have n5_ := Aside0.mk (below_step (belS HB.out) hb); clear HO_8; clear BK275; clear BK276; clear BK280; clear BK291; clear HB; have HO_8 := n0_; have BK275 := n1_; have BK276 := n2_; have BK280 := n3_; have BK291 := n4_; have HB := n5_; clear n0_ n1_ n2_ n3_ n4_ n5_; (try clear hb); (try clear hk); have hcz102_0 : w101.cell? ⟨gb280, 0, none⟩ = some (.int .i64 x281000_46) := (blk_cell BK280.out 0).trans rfl; have hcz102_1 : w101.cell? ⟨gb280, 1, none⟩ = some (.int .i64 x281001_46) := (blk_cell BK280.out 1).trans rfl; have hfz102_0 := blk_frozen BK280.out 0; have hfz102_1 := blk_frozen BK280.out 1))
                 go_ret2
                 exact ⟨_, by first | rfl | (simp [errW_none, errW_some] <;> rfl) | (simp only [← hji15]; first | rfl | (simp [errW_none, errW_some] <;> rfl)) | (simp [*, errW_none, errW_some] <;> rfl), by first | exact Kd.R_nil _ _ _ _ _ | exact Kd.N_nil _ _ _ _ _ | exact Kd.V_nil _ _ _ _ _ | exact Kd.Q_nil _ _ _ _ _ | exact Kd.S_nil _ _ _ _ _, (belS HB.out)⟩
               ·rw [if_neg c69] at H
                have c69b0 : (t290 == 0) = false := beq_eq_false_iff_ne.mpr c69
                have c69b1 : (t290 != 0) = true := bne_iff_ne.mpr c69
                simp only [Option.some.injEq, Prod.mk.injEq] at H
                obtain ⟨rfl, rfl⟩ := H
                have hnb103 := NB276_275.out
                have hnc103 := NB275_276.out
                have hnb104 := NB276_280.out
                have hnc104 := NB280_276.out
                have hcz105_0 : wc.cell? ⟨gb276, 0, none⟩ = some (.int .i64 ((rd_T26 l0 x9_2).f0)) := (blk_cell BK276.out 0).trans rfl
                have hcz105_1 : wc.cell? ⟨gb276, 1, none⟩ = some (.int .i64 ((rd_T26 l0 x9_2).f1.f0)) := (blk_cell BK276.out 1).trans rfl
                have hcz105_2 : wc.cell? ⟨gb276, 2, none⟩ = some (.int .i64 ((rd_T26 l0 x9_2).f1.f1)) := (blk_cell BK276.out 2).trans rfl
                have hfz105_0 := blk_frozen BK276.out 0
                have hfz105_1 := blk_frozen BK276.out 1
                have hfz105_2 := blk_frozen BK276.out 2
                have hnb106 := NB275_280.out
                have hnc106 := NB280_275.out
                have hcz107_0 : wc.cell? ⟨gb275, 0, none⟩ = some (.int .i64 ((rd_T26 l0 (ji15)).f0)) := (blk_cell BK275.out 0).trans rfl
                have hcz107_1 : wc.cell? ⟨gb275, 1, none⟩ = some (.int .i64 ((rd_T26 l0 (ji15)).f1.f0)) := (blk_cell BK275.out 1).trans rfl
                have hcz107_2 : wc.cell? ⟨gb275, 2, none⟩ = some (.int .i64 ((rd_T26 l0 (ji15)).f1.f1)) := (blk_cell BK275.out 2).trans rfl
                have hfz107_0 := blk_frozen BK275.out 0
                have hfz107_1 := blk_frozen BK275.out 1
                have hfz107_2 := blk_frozen BK275.out 2
                go_wp2_with (first | ((with_reducible refine gate_callee (f := 32) rfl ?_); refine goesL_ (some 87) rfl rfl Try.func32 (by kernel_rfl) rfl #[.int .i64 (wrap64 (((rd_T26 l0 x9_2).f0) - ((rd_T26 l0 (ji15)).f0))), .int .i64 1] rfl (by (try simp only [List.map_toArray, List.map_cons, List.map_nil]); first | done | (simp only [hji15]; rfl) | rfl | (simp only [List.length_drop, List.length_take]; rfl)) ?_; (with_reducible refine (marigraphref1_New.calls kj46 (wrap64 (((rd_T26 l0 x9_2).f0) - ((rd_T26 l0 (ji15)).f0))) 1 t288 t289 t290 _ A68.out).mono ?_); rintro e w108 ⟨rfl, hb⟩; refine ⟨_, rfl, ?_⟩; have n0_ := Aside0.mk (Kd.R_below (rowN HO_8.out) hb); have n1_ := Aside0.mk (bkB BK275.out hb); have n2_ := Aside0.mk (bkB BK276.out hb); have n3_ := Aside0.mk (bkB BK280.out hb); have n4_ := Aside0.mk (below_step (belS HB.out) hb); clear HO_8; clear BK275; clear BK276; clear BK280; clear HB; have HO_8 := n0_; have BK275 := n1_; have BK276 := n2_; have BK280 := n3_; have HB := n4_; clear n0_ n1_ n2_ n3_ n4_; (try clear hb); (try clear hk)) | ((with_reducible refine gate_dst (N := 14) rfl ?_); refine box_event ?hg (N := 14) ?hd (cs := #[.int .i64 0, .int .i64 0]) (t := 24) ?hr ?_; (case hd => rfl); (case hg => rfl); (case hr => first | (go_simp; done) | (go_simp; rfl)); intro gb291 hg w109 hbox hb; have n0_ := Aside0.mk (Kd.R_below (rowN HO_8.out) hb); have n1_ := Aside0.mk (bkB BK275.out hb); have n2_ := Aside0.mk (bkB BK276.out hb); have n3_ := Aside0.mk (bkB BK280.out hb); have n4_ := Aside0.mk (below_step (belS HB.out) hb); have n5_ := Aside0.mk (hbox); have n6_ := Aside0.mk (szB hg HB.out); have n7_ := Aside0.mk (szB hg HB.out); have n8_ := Aside0.mk ((bk1 hg BK275.out)); have n9_ := Aside0.mk ((bk2 hg BK275.out)); have n10_ := Aside0.mk ((bk1 hg BK276.out)); have n11_ := Aside0.mk ((bk2 hg BK276.out)); have n12_ := Aside0.mk ((bk1 hg BK280.out)); have n13_ := Aside0.mk ((bk2 hg BK280.out)); clear HO_8; clear BK275; clear BK276; clear BK280; clear HB; have HO_8 := n0_; have BK275 := n1_; have BK276 := n2_; have BK280 := n3_; have HB := n4_; have BK291 := n5_; have GW291 := n6_; have GE291 := n7_; have NB275_291 := n8_; have NB291_275 := n9_; have NB276_291 := n10_; have NB291_276 := n11_; have NB280_291 := n12_; have NB291_280 := n13_; clear n0_ n1_ n2_ n3_ n4_ n5_ n6_ n7_ n8_ n9_ n10_ n11_ n12_ n13_; clear hb hbox hg; have hnb110 := NB291_275.out; have hnc110 := NB275_291.out; have hnb111 := NB291_276.out; have hnc111 := NB276_291.out; have hnb112 := NB291_280.out; have hnc112 := NB280_291.out; have hcz113_0 : w109.cell? ⟨gb291, 0, none⟩ = some (.int .i64 0) := (blk_cell BK291.out 0).trans rfl; have hcz113_1 : w109.cell? ⟨gb291, 1, none⟩ = some (.int .i64 0) := (blk_cell BK291.out 1).trans rfl; have hfz113_0 := blk_frozen BK291.out 0; have hfz113_1 := blk_frozen BK291.out 1))
                go_ret2
                exact ⟨_, by first | rfl | (simp [errW_none, errW_some] <;> rfl) | (simp only [← hji15]; first | rfl | (simp [errW_none, errW_some] <;> rfl)) | (simp [*, errW_none, errW_some] <;> rfl), by first | exact Kd.R_nil _ _ _ _ _ | exact Kd.N_nil _ _ _ _ _ | exact Kd.V_nil _ _ _ _ _ | exact Kd.Q_nil _ _ _ _ _ | exact Kd.S_nil _ _ _ _ _, (belS HB.out)⟩
              ·rw [if_neg c67] at H
               have c67b0 : (x13_46 == 0) = false := beq_eq_false_iff_ne.mpr c67
               have c67b1 : (x13_46 != 0) = true := bne_iff_ne.mpr c67
               simp only [Option.some.injEq, Prod.mk.injEq] at H
               obtain ⟨rfl, rfl⟩ := H
               go_wp2
               go_ret2
               exact ⟨_, by first | rfl | (simp [errW_none, errW_some] <;> rfl) | (simp only [← hji15]; first | rfl | (simp [errW_none, errW_some] <;> rfl)) | (simp [*, errW_none, errW_some] <;> rfl), by first | exact Kd.R_nil _ _ _ _ _ | exact Kd.N_nil _ _ _ _ _ | exact Kd.V_nil _ _ _ _ _ | exact Kd.Q_nil _ _ _ _ _ | exact Kd.S_nil _ _ _ _ _, (belS HB.out)⟩
         ·rw [if_neg c18] at H
          exact absurd H (by simp)
        ·rw [if_neg c17] at H
         exact absurd H (by simp)
       ·rw [if_neg c16] at H
        exact absurd H (by simp)
      ·rw [if_neg c14] at H
       have c14b0 : decide (x9_2 < (l0.length : Int)) = false := decide_eq_false c14
       clear c14
       simp only [Option.some.injEq, Prod.mk.injEq] at H
       obtain ⟨rfl, rfl⟩ := H
       go_wp2
       go_ret2
       exact ⟨_, by first | rfl | (simp [errW_none, errW_some] <;> rfl) | (simp [*, errW_none, errW_some] <;> rfl), (rowN HO_8.out), (belN HB.out)⟩

end Go.Proofs.Ytlmcnlaopolinaa.PRateTells

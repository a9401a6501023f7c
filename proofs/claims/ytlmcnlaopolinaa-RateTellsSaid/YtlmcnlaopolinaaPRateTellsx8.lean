/- The walk of the Go functions that a law reaches, told as plain functions; a program of this session has written it. No condition beyond the statement's own. -/
import Derived.Test.YtlmcnlaopolinaaPRateTellsx0
import Derived.Test.YtlmcnlaopolinaaPRateTellsx3
import Derived.Test.YtlmcnlaopolinaaPRateTellsx4
import Derived.Test.YtlmcnlaopolinaaPRateTellsx6
import Derived.Test.YtlmcnlaopolinaaPRateTellsx7
namespace Go.Proofs.Ytlmcnlaopolinaa.PRateTells
open Go.RowKit Go.Proofs.YtlmcnlaopolinaaW.PrintWords Go.Proofs.YtlmcnlaopolinaaW.PrintLast Go.Proofs.YtlmcnlaopolinaaW.PrintMore
attribute [local go_sem] max2_int min2_int max_two min_two max_three min_three max_four min_four   -- for this text's walks alone
set_option linter.unusedVariables false
set_option linter.unusedSimpArgs false

/-! ### rate_Do: function 13 -/
mutual
def rate_Do.j0 : Nat → List (S26) → Bool → Int → Bool → Option ((List (S26)) × Int)
 | 0, _, _, _, _ => none
 | k + 1, x0, x1, x2, x26 => if x26 = true then (some (([] : List (S26)), 1)) else (rate_Do.l0 k x0 x1 x2 ([] : List (S26)) 1)
def rate_Do.l0 : Nat → List (S26) → Bool → Int → List (S26) → Int → Option ((List (S26)) × Int)
 | 0, _, _, _, _, _ => none
 | k + 1, x0, x1, x2, x8, x9 => if x9 < (x0.length : Int) then (if 0 ≤ (wrap64 (x9 - 1)) then (if (wrap64 (x9 - 1)) < (x0.length : Int) then (if 0 ≤ x9 then ((rate_change.f k ((rd_T26 x0 (wrap64 (x9 - 1))).f0) ((rd_T26 x0 (wrap64 (x9 - 1))).f1.f0) ((rd_T26 x0 (wrap64 (x9 - 1))).f1.f1) ((rd_T26 x0 x9).f0) ((rd_T26 x0 x9).f1.f0) ((rd_T26 x0 x9).f1.f1) x1 x2).bind fun bt220 => (if bt220.2.2 = 0 then ((rat_Of.f k (wrap64 (((rd_T26 x0 x9).f0) - ((rd_T26 x0 (wrap64 (x9 - 1))).f0)))).bind fun bt226 => (if bt226.2.2 = 0 then ((rat_Div.f k bt220.1 bt220.2.1 bt226.1 bt226.2.1).bind fun bt230 => (if bt230.2.2 = 0 then (if x8.length < 5864062014805 then (rate_Do.l0 k x0 x1 x2 (x8 ++ [(⟨(rd_T26 x0 x9).f0, (⟨bt230.1, bt230.2.1⟩ : S24)⟩ : S26)]) (wrap64 (x9 + 1))) else (none)) else (some (([] : List (S26)), bt230.2.2)))) else (some (([] : List (S26)), bt226.2.2)))) else (some (([] : List (S26)), bt220.2.2)))) else (none)) else (none)) else (none)) else (some (x8, 0))
end
def rate_Do.f (k : Nat) (l0 : List (S26)) (a1 : Bool) (a2 : Int) : Option ((List (S26)) × Int) := (down_Right.f k l0).bind fun t217 => (if t217 = true then (if a1 = true then (if a2 < 1 then (rate_Do.j0 k l0 a1 a2 true) else (rate_Do.j0 k l0 a1 a2 (decide (a2 > 2147483647)))) else (rate_Do.j0 k l0 a1 a2 false)) else (rate_Do.j0 k l0 a1 a2 true))
theorem rate_Do.mono_l : ∀ k, (∀ y0 y1 y2 y3, LeO (rate_Do.j0 k y0 y1 y2 y3) (rate_Do.j0 (k + 1) y0 y1 y2 y3)) ∧ (∀ y0 y1 y2 y3 y4, LeO (rate_Do.l0 k y0 y1 y2 y3 y4) (rate_Do.l0 (k + 1) y0 y1 y2 y3 y4))
 | 0 => ⟨fun _ _ _ _ r h => by simp [rate_Do.j0] at h, fun _ _ _ _ _ r h => by simp [rate_Do.l0] at h⟩
 | k + 1 => by
  obtain ⟨ih0, ih1⟩ := rate_Do.mono_l k
  refine ⟨?_, ?_⟩
  ·intro y0 y1 y2 y3
   unfold rate_Do.j0
   repeat' first
   | (with_reducible exact ih0 _ _ _ _)
   | (with_reducible exact ih1 _ _ _ _ _)
   | (with_reducible exact down_Right.mono _ _)
   | (with_reducible exact rat_Div.mono _ _ _ _ _)
   | (with_reducible exact rat_Of.mono _ _)
   | (with_reducible exact rate_change.mono _ _ _ _ _ _ _ _ _)
   | (with_reducible exact LeO.refl _)
   | (with_reducible exact LeO.none _)
   | (with_reducible refine LeO.ite ?_ ?_)
   | (with_reducible refine LeO.bind ?_ (fun _ => ?_))
   | exact ih0 _ _ _ _
   | exact ih1 _ _ _ _ _
   | exact down_Right.mono _ _
   | exact rat_Div.mono _ _ _ _ _
   | exact rat_Of.mono _ _
   | exact rate_change.mono _ _ _ _ _ _ _ _ _
   | exact LeO.none _
   | refine LeO.ite ?_ ?_
   | refine LeO.bind ?_ (fun _ => ?_)
  ·intro y0 y1 y2 y3 y4
   unfold rate_Do.l0
   repeat' first
   | (with_reducible exact ih0 _ _ _ _)
   | (with_reducible exact ih1 _ _ _ _ _)
   | (with_reducible exact down_Right.mono _ _)
   | (with_reducible exact rat_Div.mono _ _ _ _ _)
   | (with_reducible exact rat_Of.mono _ _)
   | (with_reducible exact rate_change.mono _ _ _ _ _ _ _ _ _)
   | (with_reducible exact LeO.refl _)
   | (with_reducible exact LeO.none _)
   | (with_reducible refine LeO.ite ?_ ?_)
   | (with_reducible refine LeO.bind ?_ (fun _ => ?_))
   | exact ih0 _ _ _ _
   | exact ih1 _ _ _ _ _
   | exact down_Right.mono _ _
   | exact rat_Div.mono _ _ _ _ _
   | exact rat_Of.mono _ _
   | exact rate_change.mono _ _ _ _ _ _ _ _ _
   | exact LeO.none _
   | refine LeO.ite ?_ ?_
   | refine LeO.bind ?_ (fun _ => ?_)
theorem rate_Do.mono : ∀ a0 a1 a2 k, LeO (rate_Do.f k a0 a1 a2) (rate_Do.f (k + 1) a0 a1 a2) := by
 intro a0 a1 a2 k
 obtain ⟨ih0, ih1⟩ := rate_Do.mono_l k
 unfold rate_Do.f
 repeat' first
   | (with_reducible exact ih0 _ _ _ _)
   | (with_reducible exact ih1 _ _ _ _ _)
   | (with_reducible exact down_Right.mono _ _)
   | (with_reducible exact rat_Div.mono _ _ _ _ _)
   | (with_reducible exact rat_Of.mono _ _)
   | (with_reducible exact rate_change.mono _ _ _ _ _ _ _ _ _)
   | (with_reducible exact LeO.refl _)
   | (with_reducible exact LeO.none _)
   | (with_reducible refine LeO.ite ?_ ?_)
   | (with_reducible refine LeO.bind ?_ (fun _ => ?_))
   | exact ih0 _ _ _ _
   | exact ih1 _ _ _ _ _
   | exact down_Right.mono _ _
   | exact rat_Div.mono _ _ _ _ _
   | exact rat_Of.mono _ _
   | exact rate_change.mono _ _ _ _ _ _ _ _ _
   | exact LeO.none _
   | refine LeO.ite ?_ ?_
   | refine LeO.bind ?_ (fun _ => ?_)
def rate_Do.T7 : Bool × List (List Nat × List Nat) := (true, [([], []), ([], []), ([1], [1]), ([0, 2], [0, 2]), ([3], [3]), ([], []), ([], []), ([5, 6], [5, 6]), ([7], [7]), ([], []), ([], []), ([4, 8, 9, 10], [4, 8, 9, 10]), ([11], [11]), ([12], [12]), ([12], [12]), ([], []), ([15, 13, 11, 0, 1, 2, 3, 4, 5, 6, 7, 8, 9, 10, 11, 12, 13, 15], [13, 15]), ([14, 16, 0, 1, 2, 3, 4, 5, 6, 7, 8, 9, 10, 11, 12, 13, 14, 15, 16], [14])])
def rate_Do.B7 : List Nat := [0, 0, 2, 7, 15, 0, 0, 96, 224, 0, 0, 2047, 4095, 8191, 8191, 0, 49151, 131071]
theorem rate_Do.tab7 : rtab .any (opsOf Try.f13 7) = rate_Do.T7 := by kernel_rfl
theorem rate_Do.bits7 : waitsOk rate_Do.T7.2 rate_Do.B7 = true := by kernel_rfl
def rate_Do.T10 : Bool × List (List Nat × List Nat) := (true, [([], []), ([], []), ([0, 1], [0, 1]), ([2], [2]), ([3], [3]), ([], []), ([], []), ([6], [6]), ([5, 7], [5, 7]), ([8], [8]), ([9], [9]), ([4, 10], [4, 10]), ([11], [11]), ([12], [12]), ([13], [13]), ([13], [13]), ([], []), ([16, 14, 12, 0, 1, 2, 3, 4, 5, 6, 7, 8, 9, 10, 11, 12, 13, 14, 16], [14, 16]), ([15, 17, 0, 1, 2, 3, 4, 5, 6, 7, 8, 9, 10, 11, 12, 13, 14, 15, 16, 17], [15])])
def rate_Do.B10 : List Nat := [0, 0, 3, 7, 15, 0, 0, 64, 224, 480, 992, 2047, 4095, 8191, 16383, 16383, 0, 98303, 262143]
theorem rate_Do.tab10 : rtab .any (opsOf Try.f13 10) = rate_Do.T10 := by kernel_rfl
theorem rate_Do.bits10 : waitsOk rate_Do.T10.2 rate_Do.B10 = true := by kernel_rfl
def rate_Do.T16 : Bool × List (List Nat × List Nat) := (true, [([], []), ([], []), ([], []), ([1, 2], [1, 2]), ([3], [3]), ([4], [4]), ([], []), ([5, 6], [5, 6]), ([7], [7]), ([0, 8], [0, 8]), ([9, 9, 0, 1, 2, 3, 4, 5, 6, 7, 8, 9], [0, 9])])
def rate_Do.B16 : List Nat := [0, 0, 0, 6, 14, 30, 0, 126, 254, 511, 1023]
theorem rate_Do.tab16 : rtab .any (opsOf Try.f13 16) = rate_Do.T16 := by kernel_rfl
theorem rate_Do.bits16 : waitsOk rate_Do.T16.2 rate_Do.B16 = true := by kernel_rfl
set_option maxHeartbeats 8000000 in
set_option maxRecDepth 100000 in
theorem rate_Do.calls (k : Nat) (A0 : Option Addr) (c0 : Nat) (l0 : List (S26)) (a1 : Bool) (a2 : Int) (r1 : List (S26)) (r2 : Int) (w : World) (hr0 : Kd.C k26 w A0 l0.length l0) (hc0 : l0.length ≤ c0) (h : rate_Do.f k l0 a1 a2 = some (r1, r2)) :
  Calls Try.prog 13 #[.slice A0 l0.length c0, .bool a1, .int .i64 a2] w fun e w' => ∃ v0_ : Value, e = .returned (.tuple #[v0_, .int .i64 r2]) ∧ Kd.R k26 26 w' w.heap.size (fun _ => True) v0_ r1 ∧ Below w.heap.size w w' := by
 have hu26 := Try.underlying26
 have hu24 := Try.underlying24
 have HR0 := Aside0.mk hr0
 have HC0 := Aside0.mk hc0
 clear hr0 hc0
 have HB := Aside0.mk (Below.refl w.heap.size w)
 have H : ((down_Right.f k l0).bind fun t217 => (if t217 = true then (if a1 = true then (if a2 < 1 then (rate_Do.j0 k l0 a1 a2 true) else (rate_Do.j0 k l0 a1 a2 (decide (a2 > 2147483647)))) else (rate_Do.j0 k l0 a1 a2 false)) else (rate_Do.j0 k l0 a1 a2 true))) = some (r1, r2) := h
 clear h
 have HC4 := Aside0.mk H
 clear H
 go_enter Try.func13, Try.ntmps13
 go_upto_region 1 with (fail)
 go_cut [26] (fun v26 wc => ∃ (kq : Nat) (x26_3 : Bool), v26 = .bool x26_3 ∧ Aside0 (rate_Do.j0 kq l0 a1 a2 x26_3 = some (r1, r2)) ∧ Aside0 (kq ≤ k) ∧ Aside0 (Below w.heap.size w wc))
 case first =>
  have H := HC4.out
  clear HC4
  replace H := Option.bind_eq_some_iff.mp H
  obtain ⟨t217, A50, H⟩ := H
  replace H : (if t217 = true then (if a1 = true then (if a2 < 1 then (rate_Do.j0 k l0 a1 a2 true) else (rate_Do.j0 k l0 a1 a2 (decide (a2 > 2147483647)))) else (rate_Do.j0 k l0 a1 a2 false)) else (rate_Do.j0 k l0 a1 a2 true)) = some (r1, r2) := H
  have A5 := Aside0.mk A50
  clear A50
  by_cases c6 : t217 = true
  ·subst c6
   have H1 : (if a1 = true then (if a2 < 1 then (rate_Do.j0 k l0 a1 a2 true) else (rate_Do.j0 k l0 a1 a2 (decide (a2 > 2147483647)))) else (rate_Do.j0 k l0 a1 a2 false)) = some (r1, r2) := by rw [if_pos rfl] at H; exact H
   clear H
   have H := H1
   clear H1
   by_cases c7 : a1 = true
   ·subst c7
    have H1 : (if a2 < 1 then (rate_Do.j0 k l0 true a2 true) else (rate_Do.j0 k l0 true a2 (decide (a2 > 2147483647)))) = some (r1, r2) := by rw [if_pos rfl] at H; exact H
    clear H
    have H := H1
    clear H1
    by_cases c8 : a2 < 1
    ·rw [if_pos c8] at H
     have c8b0 : decide (a2 < 1) = true := decide_eq_true c8
     clear c8
     (first | rw [c8b0] | rw [c8b1] | (simp only [i64_w, i32_w]; rw [c8b0]) | skip)
     have H' := Aside0.mk H
     clear H
     go_wp2_with (first | ((with_reducible refine gate_callee (f := 21) rfl ?_); refine goesL_ (some 14) rfl rfl Try.func21 (by kernel_rfl) rfl #[.slice A0 l0.length c0] rfl argN ?_; (with_reducible refine (down_Right.calls k _ _ l0 true _ ?side1 ?side2 A5.out).mono ?_); (case side1 => repeat (first | exact (Kd.C_below HR0.out HB.out) | (with_reducible refine Kd.C_alloc ?_ _) | (with_reducible refine Kd.C_drewN ?_ _) | (with_reducible refine Kd.C_drew ?_))); (case side2 => exact HC0.out); rintro e w9 ⟨rfl, hb⟩; refine ⟨_, rfl, ?_⟩; have n0_ := Aside0.mk (below_step (belN HB.out) hb); clear HB; have HB := n0_; clear n0_; (try clear hb); (try clear hk)))
     go_meet
     case rel => exact ⟨_, (true), (by first | rfl | (simp; done) | (simp [*]; done)), H', ⟨by first | omega | exact Nat.le_refl _⟩, ⟨(belN HB.out)⟩⟩
    ·rw [if_neg c8] at H
     have c8b0 : decide (a2 < 1) = false := decide_eq_false c8
     clear c8
     (first | rw [c8b0] | rw [c8b1] | (simp only [i64_w, i32_w]; rw [c8b0]) | skip)
     have H' := Aside0.mk H
     clear H
     go_wp2_with (first | ((with_reducible refine gate_callee (f := 21) rfl ?_); refine goesL_ (some 14) rfl rfl Try.func21 (by kernel_rfl) rfl #[.slice A0 l0.length c0] rfl argN ?_; (with_reducible refine (down_Right.calls k _ _ l0 true _ ?side1 ?side2 A5.out).mono ?_); (case side1 => repeat (first | exact (Kd.C_below HR0.out HB.out) | (with_reducible refine Kd.C_alloc ?_ _) | (with_reducible refine Kd.C_drewN ?_ _) | (with_reducible refine Kd.C_drew ?_))); (case side2 => exact HC0.out); rintro e w10 ⟨rfl, hb⟩; refine ⟨_, rfl, ?_⟩; have n0_ := Aside0.mk (below_step (belN HB.out) hb); clear HB; have HB := n0_; clear n0_; (try clear hb); (try clear hk)))
     go_meet
     case rel => exact ⟨_, (decide (a2 > 2147483647)), (by first | rfl | (simp; done) | (simp [*]; done)), H', ⟨by first | omega | exact Nat.le_refl _⟩, ⟨(belN HB.out)⟩⟩
   ·replace c7 := Bool.eq_false_iff.mpr c7
    subst c7
    have H1 : (rate_Do.j0 k l0 false a2 false) = some (r1, r2) := by rw [if_neg (show ¬ (false = true) by decide)] at H; exact H
    clear H
    have H := H1
    clear H1
    have H' := Aside0.mk H
    clear H
    go_wp2_with (first | ((with_reducible refine gate_callee (f := 21) rfl ?_); refine goesL_ (some 14) rfl rfl Try.func21 (by kernel_rfl) rfl #[.slice A0 l0.length c0] rfl argN ?_; (with_reducible refine (down_Right.calls k _ _ l0 true _ ?side1 ?side2 A5.out).mono ?_); (case side1 => repeat (first | exact (Kd.C_below HR0.out HB.out) | (with_reducible refine Kd.C_alloc ?_ _) | (with_reducible refine Kd.C_drewN ?_ _) | (with_reducible refine Kd.C_drew ?_))); (case side2 => exact HC0.out); rintro e w11 ⟨rfl, hb⟩; refine ⟨_, rfl, ?_⟩; have n0_ := Aside0.mk (below_step (belN HB.out) hb); clear HB; have HB := n0_; clear n0_; (try clear hb); (try clear hk)))
    go_meet
    case rel => exact ⟨_, (false), (by first | rfl | (simp; done) | (simp [*]; done)), H', ⟨by first | omega | exact Nat.le_refl _⟩, ⟨(belN HB.out)⟩⟩
  ·replace c6 := Bool.eq_false_iff.mpr c6
   subst c6
   have H1 : (rate_Do.j0 k l0 a1 a2 true) = some (r1, r2) := by rw [if_neg (show ¬ (false = true) by decide)] at H; exact H
   clear H
   have H := H1
   clear H1
   have H' := Aside0.mk H
   clear H
   go_wp2_with (first | ((with_reducible refine gate_callee (f := 21) rfl ?_); refine goesL_ (some 14) rfl rfl Try.func21 (by kernel_rfl) rfl #[.slice A0 l0.length c0] rfl argN ?_; (with_reducible refine (down_Right.calls k _ _ l0 false _ ?side1 ?side2 A5.out).mono ?_); (case side1 => repeat (first | exact (Kd.C_below HR0.out HB.out) | (with_reducible refine Kd.C_alloc ?_ _) | (with_reducible refine Kd.C_drewN ?_ _) | (with_reducible refine Kd.C_drew ?_))); (case side2 => exact HC0.out); rintro e w12 ⟨rfl, hb⟩; refine ⟨_, rfl, ?_⟩; have n0_ := Aside0.mk (below_step (belN HB.out) hb); clear HB; have HB := n0_; clear n0_; (try clear hb); (try clear hk)))
   go_meet
   case rel => exact ⟨_, (true), (by first | rfl | (simp; done) | (simp [*]; done)), H', ⟨by first | omega | exact Nat.le_refl _⟩, ⟨(belN HB.out)⟩⟩
 case rest =>
  clear HC4
  try clear c1
  try clear c2
  try clear p2
  try clear c6
  try clear c7
  try clear c8
  try clear c8b0
  obtain ⟨kq, x26_3, rfl, HA, HJ3, HB⟩ := hcut
  cases kq with
  | zero => exact absurd HA.out (by simp [rate_Do.j0])
  | succ kj3 =>
   have H := HA.out
   clear HA
   simp only [rate_Do.j0] at H
   by_cases c13 : x26_3 = true
   ·subst c13
    have H1 : (some (([] : List (S26)), 1)) = some (r1, r2) := by rw [if_pos rfl] at H; exact H
    clear H
    have H := H1
    clear H1
    simp only [Option.some.injEq, Prod.mk.injEq] at H
    obtain ⟨rfl, rfl⟩ := H
    go_wp2
    go_ret2
    exact ⟨_, by first | rfl | (simp [errW_none, errW_some] <;> rfl) | (simp [*, errW_none, errW_some] <;> rfl), by first | exact Kd.R_nil _ _ _ _ _ | exact Kd.N_nil _ _ _ _ _ | exact Kd.V_nil _ _ _ _ _ | exact Kd.Q_nil _ _ _ _ _ | exact Kd.S_nil _ _ _ _ _, (belN HB.out)⟩
   ·replace c13 := Bool.eq_false_iff.mpr c13
    subst c13
    have H1 : (rate_Do.l0 kj3 l0 a1 a2 ([] : List (S26)) 1) = some (r1, r2) := by rw [if_neg (show ¬ (false = true) by decide)] at H; exact H
    clear H
    have H := H1
    clear H1
    have H' := Aside0.mk H
    clear H
    go_wp2
    go_loopg [8, 9] kj3 (fun kq v8 v9 w' => ∃ (x8_2 : List (S26)) (x9_2 : Int), v9 = .int .i64 x9_2 ∧ Aside0 (rate_Do.l0 kq l0 a1 a2 x8_2 x9_2 = some (r1, r2)) ∧ Aside0 (kq ≤ kj3) ∧ Aside0 (Kd.R k26 26 w' w.heap.size (fun _ => True) v8 x8_2) ∧ Aside0 (Below w.heap.size w w'))
    case atStart => exact ⟨(([] : List (S26))), (1), (by first | rfl | (simp; done) | (simp [*]; done)), H', ⟨Nat.le_refl _⟩, ⟨by first | exact Kd.R_nil _ _ _ _ _ | exact Kd.N_nil _ _ _ _ _ | exact Kd.V_nil _ _ _ _ _ | exact Kd.Q_nil _ _ _ _ _ | exact Kd.S_nil _ _ _ _ _⟩, ⟨(belN HB.out)⟩⟩
    case round =>
     clear H'
     try clear c1
     try clear c2
     try clear p2
     try clear c6
     try clear c7
     try clear c8
     try clear c8b0
     try clear c13
     try clear p2
     obtain ⟨x8_2, x9_2, rfl, HA, HK2, HO_8, HB⟩ := hrel
     cases gk with
     | zero => exact absurd HA.out (by simp [rate_Do.l0])
     | succ k2 =>
      have H := HA.out
      clear HA
      simp only [rate_Do.l0] at H
      by_cases c14 : x9_2 < (l0.length : Int)
      ·rw [if_pos c14] at H
       have c14b0 : decide (x9_2 < (l0.length : Int)) = true := decide_eq_true c14
       clear c14
       obtain ⟨ji15, hji15⟩ : ∃ j_ : Int, (wrap64 (x9_2 - 1)) = j_ := ⟨_, rfl⟩
       replace H : (if 0 ≤ (ji15) then (if (ji15) < (l0.length : Int) then (if 0 ≤ x9_2 then ((rate_change.f k2 ((rd_T26 l0 (ji15)).f0) ((rd_T26 l0 (ji15)).f1.f0) ((rd_T26 l0 (ji15)).f1.f1) ((rd_T26 l0 x9_2).f0) ((rd_T26 l0 x9_2).f1.f0) ((rd_T26 l0 x9_2).f1.f1) a1 a2).bind fun bt220 => (if bt220.2.2 = 0 then ((rat_Of.f k2 (wrap64 (((rd_T26 l0 x9_2).f0) - ((rd_T26 l0 (ji15)).f0)))).bind fun bt226 => (if bt226.2.2 = 0 then ((rat_Div.f k2 bt220.1 bt220.2.1 bt226.1 bt226.2.1).bind fun bt230 => (if bt230.2.2 = 0 then (if x8_2.length < 5864062014805 then (rate_Do.l0 k2 l0 a1 a2 (x8_2 ++ [(⟨(rd_T26 l0 x9_2).f0, (⟨bt230.1, bt230.2.1⟩ : S24)⟩ : S26)]) (wrap64 (x9_2 + 1))) else (none)) else (some (([] : List (S26)), bt230.2.2)))) else (some (([] : List (S26)), bt226.2.2)))) else (some (([] : List (S26)), bt220.2.2)))) else (none)) else (none)) else (none)) = some (r1, r2) := by first | (rw [hji15] at H; exact H) | (simp only [hji15] at H ⊢; exact H)
       have hji15w : (IntKind.i64.wrap (x9_2 - 1)) = ji15 := (i64_w _).trans hji15
       by_cases c16 : 0 ≤ (ji15)
       ·rw [if_pos c16] at H
        have c16b0 : decide (0 ≤ (ji15)) = true := decide_eq_true c16
        clear c16
        by_cases c17 : (ji15) < (l0.length : Int)
        ·rw [if_pos c17] at H
         have c17b0 : decide ((ji15) < (l0.length : Int)) = true := decide_eq_true c17
         clear c17
         by_cases c18 : 0 ≤ x9_2
         ·rw [if_pos c18] at H
          have c18b0 : decide (0 ≤ x9_2) = true := decide_eq_true c18
          clear c18
          replace H := Option.bind_eq_some_iff.mp H
          obtain ⟨⟨t220, t221, t222⟩, A190, H⟩ := H
          replace H : (if t222 = 0 then ((rat_Of.f k2 (wrap64 (((rd_T26 l0 x9_2).f0) - ((rd_T26 l0 (ji15)).f0)))).bind fun bt226 => (if bt226.2.2 = 0 then ((rat_Div.f k2 t220 t221 bt226.1 bt226.2.1).bind fun bt230 => (if bt230.2.2 = 0 then (if x8_2.length < 5864062014805 then (rate_Do.l0 k2 l0 a1 a2 (x8_2 ++ [(⟨(rd_T26 l0 x9_2).f0, (⟨bt230.1, bt230.2.1⟩ : S24)⟩ : S26)]) (wrap64 (x9_2 + 1))) else (none)) else (some (([] : List (S26)), bt230.2.2)))) else (some (([] : List (S26)), bt226.2.2)))) else (some (([] : List (S26)), t222))) = some (r1, r2) := H
          have A19 := Aside0.mk A190
          clear A190
          by_cases c20 : t222 = 0
          ·rw [if_pos c20] at H
           have c20b0 : (t222 == 0) = true := beq_iff_eq.mpr c20
           have c20b1 : (t222 != 0) = false := bne_eq_false_iff_eq.mpr c20
           clear c20
           replace H := Option.bind_eq_some_iff.mp H
           obtain ⟨⟨t226, t227, t228⟩, A210, H⟩ := H
           replace H : (if t228 = 0 then ((rat_Div.f k2 t220 t221 t226 t227).bind fun bt230 => (if bt230.2.2 = 0 then (if x8_2.length < 5864062014805 then (rate_Do.l0 k2 l0 a1 a2 (x8_2 ++ [(⟨(rd_T26 l0 x9_2).f0, (⟨bt230.1, bt230.2.1⟩ : S24)⟩ : S26)]) (wrap64 (x9_2 + 1))) else (none)) else (some (([] : List (S26)), bt230.2.2)))) else (some (([] : List (S26)), t228))) = some (r1, r2) := H
           have A21 := Aside0.mk A210
           clear A210
           by_cases c22 : t228 = 0
           ·rw [if_pos c22] at H
            have c22b0 : (t228 == 0) = true := beq_iff_eq.mpr c22
            have c22b1 : (t228 != 0) = false := bne_eq_false_iff_eq.mpr c22
            clear c22
            replace H := Option.bind_eq_some_iff.mp H
            obtain ⟨⟨t230, t231, t232⟩, A230, H⟩ := H
            replace H : (if t232 = 0 then (if x8_2.length < 5864062014805 then (rate_Do.l0 k2 l0 a1 a2 (x8_2 ++ [(⟨(rd_T26 l0 x9_2).f0, (⟨t230, t231⟩ : S24)⟩ : S26)]) (wrap64 (x9_2 + 1))) else (none)) else (some (([] : List (S26)), t232))) = some (r1, r2) := H
            have A23 := Aside0.mk A230
            clear A230
            by_cases c24 : t232 = 0
            ·rw [if_pos c24] at H
             have c24b0 : (t232 == 0) = true := beq_iff_eq.mpr c24
             have c24b1 : (t232 != 0) = false := bne_eq_false_iff_eq.mpr c24
             clear c24
             by_cases c25 : x8_2.length < 5864062014805
             ·rw [if_pos c25] at H
              have LMc25 := Aside0.mk c25
              clear c25
              obtain ⟨y234, hy234⟩ : ∃ y_ : List (S26), y_ = (x8_2 ++ [(⟨(rd_T26 l0 x9_2).f0, (⟨t230, t231⟩ : S24)⟩ : S26)]) := ⟨_, rfl⟩
              replace H : (rate_Do.l0 k2 l0 a1 a2 y234 (wrap64 (x9_2 + 1))) = some (r1, r2) := by first | (rw [hy234]; with_reducible exact H) | (have H2_ := (Option.bind_some _ _).symm.trans H; rw [hy234]; with_reducible exact H2_) | (have H2_ := (Option.bind_some _ _).symm.trans H; with_reducible exact H2_) | with_reducible exact H | (rw [hy234]; exact H) | exact H
              have Ny234 := Aside0.mk hy234
              clear hy234
              have H' := Aside0.mk H
              clear H
              try go_wp2
              have n0_ := Aside0.mk (Kd.R_drew HO_8.out)
              have n1_ := Aside0.mk (below_drew1 HB.out)
              clear HO_8
              clear HB
              have HO_8 := n0_
              have HB := n1_
              clear n0_ n1_
              have p218 : 0 ≤ ((ji15) : Int) := of_decide_eq_true (by first | (with_reducible assumption) | assumption)
              have q218 : (ji15) < (l0.length : Int) := of_decide_eq_true (by first | (with_reducible assumption) | assumption)
              obtain ⟨ad218, e218, hx218_0, hx218_1, hx218_2⟩ := at_T26 HR0.out (ji15) p218 q218
              have hw218_2 := hx218_2
              have hw218_1 := hx218_1
              have hw218_0 := hx218_0
              cases e218
              replace hx218_0 := cellB HB.out hx218_0
              replace hx218_1 := cellB HB.out hx218_1
              replace hx218_2 := cellB HB.out hx218_2
              replace p218 := eq_true p218
              replace q218 := eq_true q218
              have p219 : 0 ≤ (x9_2 : Int) := of_decide_eq_true (by first | (with_reducible assumption) | assumption)
              have q219 : x9_2 < (l0.length : Int) := of_decide_eq_true (by first | (with_reducible assumption) | assumption)
              obtain ⟨ad219, e219, hx219_0, hx219_1, hx219_2⟩ := at_T26 HR0.out x9_2 p219 q219
              have hw219_2 := hx219_2
              have hw219_1 := hx219_1
              have hw219_0 := hx219_0
              obtain rfl : ad218 = ad219 := (by injection e219)
              replace hx219_0 := cellB HB.out hx219_0
              replace hx219_1 := cellB HB.out hx219_1
              replace hx219_2 := cellB HB.out hx219_2
              replace p219 := eq_true p219
              replace q219 := eq_true q219
              refine start_ (n := 18) (S := fun w' => w'.cell? (ad218.add (((ji15)).toNat * 3)) = some (.int .i64 ((rd_T26 l0 (ji15)).f0)) ∧ w'.cell? ⟨(ad218.add (((ji15)).toNat * 3)).block, (ad218.add (((ji15)).toNat * 3)).off + 1, none⟩ = some (.int .i64 ((rd_T26 l0 (ji15)).f1.f0)) ∧ w'.cell? ⟨(ad218.add (((ji15)).toNat * 3)).block, (ad218.add (((ji15)).toNat * 3)).off + 2, none⟩ = some (.int .i64 ((rd_T26 l0 (ji15)).f1.f1)) ∧ w'.cell? (ad218.add ((x9_2).toNat * 3)) = some (.int .i64 ((rd_T26 l0 x9_2).f0)) ∧ w'.cell? ⟨(ad218.add ((x9_2).toNat * 3)).block, (ad218.add ((x9_2).toNat * 3)).off + 1, none⟩ = some (.int .i64 ((rd_T26 l0 x9_2).f1.f0)) ∧ w'.cell? ⟨(ad218.add ((x9_2).toNat * 3)).block, (ad218.add ((x9_2).toNat * 3)).off + 2, none⟩ = some (.int .i64 ((rd_T26 l0 x9_2).f1.f1))) (ds := []) #[false, false, false, false, false, false, false, false, false, false, false, false, false, false, false, false, false, false] (by kernel_rfl) rfl rfl ⟨(cellB HB.out hw218_0), (cellB HB.out hw218_1), (cellB HB.out hw218_2), (cellB HB.out hw219_0), (cellB HB.out hw219_1), (cellB HB.out hw219_2)⟩ (fun hHeld => ?_); refine with_tabW rate_Do.tab7 rate_Do.bits7 (fun HT_ HW_ => ?_)
              generalize wr.drew = w26 at HO_8 HB hx218_0 hx218_1 hx218_2 hx219_0 hx219_1 hx219_2 hHeld ⊢
              refine pA 0 (some 34) (bA 18 1) HT_.out ?_
              refine pA 1 (some 35) (bA 18 3) HT_.out ?_
              refine pA 2 (some 36) (bA 18 7) HT_.out ?_
              refine pA 3 (some 37) (bA 18 15) HT_.out ?_
              refine pA 5 (some 39) (bA 18 47) HT_.out ?_
              refine pA 6 (some 40) (bA 18 111) HT_.out ?_
              refine pA 7 (some 41) (bA 18 239) HT_.out ?_
              refine pA 9 (some 43) (bA 18 751) HT_.out ?_
              refine pA 10 (some 44) (bA 18 1775) HT_.out ?_
              refine take_ (i := 4) (N := some 38) (v := ?_) (a' := ?_) (bA 18 1791) rfl rfl (take_ofW HT_.out HW_.out (by kernel_rfl)) (fun _ _ _ h => h) (Or.inl ⟨by rfl, ?_⟩) hHeld ?_ ?_
              rotate_left
              ·rintro w' ⟨s0, s1, s2, s3, s4, s5⟩
               go_simp
               with_reducible rfl
              rotate_left
              ·simp only [Act.put, List.setIfInBounds_toArray, List.set_cons_zero, List.set_cons_succ, i64_w, i32_w]
               rfl
              refine take_ (i := 8) (N := some 42) (v := ?_) (a' := ?_) (bA 18 2047) rfl rfl (take_ofW HT_.out HW_.out (by kernel_rfl)) (fun _ _ _ h => h) (Or.inl ⟨by rfl, ?_⟩) hHeld ?_ ?_
              rotate_left
              ·rintro w' ⟨s0, s1, s2, s3, s4, s5⟩
               go_simp
               with_reducible rfl
              rotate_left
              ·simp only [Act.put, List.setIfInBounds_toArray, List.set_cons_zero, List.set_cons_succ, i64_w, i32_w]
               rfl
              refine join_ (σ := Nat) 2 (bA 18 65535) (fun s_ => [(45, .tuple #[.agg #[.int .i64 t220, .int .i64 t221], .int .i64 t222]), (10, .pointer (some ⟨s_, 0, none⟩)), (33, .tuple #[.agg #[.int .i64 t220, .int .i64 t221], .int .i64 t222]), (46, .agg #[.int .i64 t220, .int .i64 t221]), (47, .int .i64 t222)]) (fun s_ w' => (w'.cell? (ad218.add (((ji15)).toNat * 3)) = some (.int .i64 ((rd_T26 l0 (ji15)).f0)) ∧ w'.cell? ⟨(ad218.add (((ji15)).toNat * 3)).block, (ad218.add (((ji15)).toNat * 3)).off + 1, none⟩ = some (.int .i64 ((rd_T26 l0 (ji15)).f1.f0)) ∧ w'.cell? ⟨(ad218.add (((ji15)).toNat * 3)).block, (ad218.add (((ji15)).toNat * 3)).off + 2, none⟩ = some (.int .i64 ((rd_T26 l0 (ji15)).f1.f1)) ∧ w'.cell? (ad218.add ((x9_2).toNat * 3)) = some (.int .i64 ((rd_T26 l0 x9_2).f0)) ∧ w'.cell? ⟨(ad218.add ((x9_2).toNat * 3)).block, (ad218.add ((x9_2).toNat * 3)).off + 1, none⟩ = some (.int .i64 ((rd_T26 l0 x9_2).f1.f0)) ∧ w'.cell? ⟨(ad218.add ((x9_2).toNat * 3)).block, (ad218.add ((x9_2).toNat * 3)).off + 2, none⟩ = some (.int .i64 ((rd_T26 l0 x9_2).f1.f1))) ∧ (Kd.R k26 26 w' w.heap.size (fun _ => True) u8 x8_2) ∧ (w'.heap[s_]? = some (.cells #[.int .i64 0, .int .i64 0] 24 (0, 0))) ∧ (w.heap.size ≤ s_) ∧ (w.heap.size ≤ s_) ∧ (Below w.heap.size w w')) ?_ ?_
              rotate_left
              ·intro hCont
               refine two_ (i := 11) (j := 15) (Ni := some 45) (Nj := some 10) (bA 18 4095) (bA 18 34815) rfl rfl rfl rfl (two_of HT_.out (by kernel_rfl)) (by decide) (by decide) (fun K hK => ?_) (fun K hK => ?_)
               ·skip
                refine goes_ Try.func22 (by kernel_rfl) rfl #[.agg #[.int .i64 ((rd_T26 l0 (ji15)).f0), .int .i64 ((rd_T26 l0 (ji15)).f1.f0), .int .i64 ((rd_T26 l0 (ji15)).f1.f1)], .agg #[.int .i64 ((rd_T26 l0 x9_2).f0), .int .i64 ((rd_T26 l0 x9_2).f1.f0), .int .i64 ((rd_T26 l0 x9_2).f1.f1)], .bool a1, .int .i64 a2] (by rfl) rfl rfl (by (try simp only [List.map_toArray, List.map_cons, List.map_nil]); first | done | (simp only [hji15]; rfl) | rfl | (simp only [List.length_drop, List.length_take]; rfl)) ?_
                with_reducible refine (rate_change.calls k2 ((rd_T26 l0 (ji15)).f0) ((rd_T26 l0 (ji15)).f1.f0) ((rd_T26 l0 (ji15)).f1.f1) ((rd_T26 l0 x9_2).f0) ((rd_T26 l0 x9_2).f1.f0) ((rd_T26 l0 x9_2).f1.f1) a1 a2 t220 t221 t222 _ A19.out).mono ?_
                rintro e w27 ⟨rfl, hb⟩
                refine ⟨_, rfl, ?_⟩
                have n0_ := Aside0.mk (Kd.R_below (rowN HO_8.out) hb)
                have n1_ := Aside0.mk (below_step (belN HB.out) hb)
                clear HO_8
                clear HB
                have HO_8 := n0_
                have HB := n1_
                clear n0_ n1_
                (try clear hb)
                (try clear hk)
                refine hK.out _ _ ⟨(cellB HB.out hw218_0), (cellB HB.out hw218_1), (cellB HB.out hw218_2), (cellB HB.out hw219_0), (cellB HB.out hw219_1), (cellB HB.out hw219_2)⟩ (fun hHeld => ?_)
                clear hK K
                refine norm_ (a' := ?_) ?_ ?_
                rotate_left
                ·show Act.put _ (some 45) _ = _
                 simp only [Act.put, List.setIfInBounds_toArray, List.set_cons_zero, List.set_cons_succ, i64_w, i32_w]
                 rfl
                refine pA 12 (some 33) (bA 18 8191) HT_.out ?_
                refine pA 13 (some 46) (bA 18 16383) HT_.out ?_
                refine pA 14 (some 47) (bA 18 32767) HT_.out ?_
                refine one_ (i := 15) (N := some 10) (bA 18 65535) rfl rfl (one_of HT_.out (by kernel_rfl)) (by decide) (fun K hK => ?_)
                refine box_step ?hg (N := 10) ?hd (cs := #[.int .i64 0, .int .i64 0]) (t := 24) ?hr ?_; (case hd => rfl); (case hg => rfl); (case hr => first | (go_simp; done) | (go_simp; rfl))
                intro gb223 hg w28 hbox hb
                have n0_ := Aside0.mk (Kd.R_below (rowN HO_8.out) hb)
                have n1_ := Aside0.mk (below_step (belN HB.out) hb)
                have n2_ := Aside0.mk (hbox)
                have n3_ := Aside0.mk (szB hg HB.out)
                have n4_ := Aside0.mk (szB hg HB.out)
                clear HO_8
                clear HB
                have HO_8 := n0_
                have HB := n1_
                have BK223 := n2_
                have GW223 := n3_
                have GE223 := n4_
                clear n0_ n1_ n2_ n3_ n4_
                clear hb hbox hg
                refine hK.out _ _ ⟨(cellB HB.out hw218_0), (cellB HB.out hw218_1), (cellB HB.out hw218_2), (cellB HB.out hw219_0), (cellB HB.out hw219_1), (cellB HB.out hw219_2)⟩ (fun hHeld => ?_)
                clear hK K
                refine norm_ (a' := ?_) ?_ ?_
                rotate_left
                ·show Act.put _ (some 10) _ = _
                 simp only [Act.put, List.setIfInBounds_toArray, List.set_cons_zero, List.set_cons_succ, i64_w, i32_w]
                 rfl
                exact norm_ (by simp only [putAll, Act.put, List.setIfInBounds_toArray, List.set_cons_zero, List.set_cons_succ]) (hCont (gb223) _ ⟨hHeld, (rowN HO_8.out), (blkN BK223.out), GW223.out, GE223.out, (belS HB.out)⟩)
               ·skip
                refine box_step ?hg (N := 10) ?hd (cs := #[.int .i64 0, .int .i64 0]) (t := 24) ?hr ?_; (case hd => rfl); (case hg => rfl); (case hr => first | (go_simp; done) | (go_simp; rfl))
                intro gb223 hg w27 hbox hb
                have n0_ := Aside0.mk (Kd.R_below (rowN HO_8.out) hb)
                have n1_ := Aside0.mk (below_step (belN HB.out) hb)
                have n2_ := Aside0.mk (hbox)
                have n3_ := Aside0.mk (szB hg HB.out)
                have n4_ := Aside0.mk (szB hg HB.out)
                clear HO_8
                clear HB
                have HO_8 := n0_
                have HB := n1_
                have BK223 := n2_
                have GW223 := n3_
                have GE223 := n4_
                clear n0_ n1_ n2_ n3_ n4_
                clear hb hbox hg
                refine hK.out _ _ ⟨(cellB HB.out hw218_0), (cellB HB.out hw218_1), (cellB HB.out hw218_2), (cellB HB.out hw219_0), (cellB HB.out hw219_1), (cellB HB.out hw219_2)⟩ (fun hHeld => ?_)
                clear hK K
                refine norm_ (a' := ?_) ?_ ?_
                rotate_left
                ·show Act.put _ (some 10) _ = _
                 simp only [Act.put, List.setIfInBounds_toArray, List.set_cons_zero, List.set_cons_succ, i64_w, i32_w]
                 rfl
                refine one_ (i := 11) (N := some 45) (bA 18 36863) rfl rfl (one_of HT_.out (by kernel_rfl)) (by decide) (fun K hK => ?_)
                refine goes_ Try.func22 (by kernel_rfl) rfl #[.agg #[.int .i64 ((rd_T26 l0 (ji15)).f0), .int .i64 ((rd_T26 l0 (ji15)).f1.f0), .int .i64 ((rd_T26 l0 (ji15)).f1.f1)], .agg #[.int .i64 ((rd_T26 l0 x9_2).f0), .int .i64 ((rd_T26 l0 x9_2).f1.f0), .int .i64 ((rd_T26 l0 x9_2).f1.f1)], .bool a1, .int .i64 a2] (by rfl) rfl rfl (by (try simp only [List.map_toArray, List.map_cons, List.map_nil]); first | done | (simp only [hji15]; rfl) | rfl | (simp only [List.length_drop, List.length_take]; rfl)) ?_
                with_reducible refine (rate_change.calls k2 ((rd_T26 l0 (ji15)).f0) ((rd_T26 l0 (ji15)).f1.f0) ((rd_T26 l0 (ji15)).f1.f1) ((rd_T26 l0 x9_2).f0) ((rd_T26 l0 x9_2).f1.f0) ((rd_T26 l0 x9_2).f1.f1) a1 a2 t220 t221 t222 _ A19.out).mono ?_
                rintro e w28 ⟨rfl, hb⟩
                refine ⟨_, rfl, ?_⟩
                have n0_ := Aside0.mk (Kd.R_below (rowN HO_8.out) hb)
                have n1_ := Aside0.mk (bkB BK223.out hb)
                have n2_ := Aside0.mk (below_step (belS HB.out) hb)
                clear HO_8
                clear BK223
                clear HB
                have HO_8 := n0_
                have BK223 := n1_
                have HB := n2_
                clear n0_ n1_ n2_
                (try clear hb)
                (try clear hk)
                refine hK.out _ _ ⟨(cellB HB.out hw218_0), (cellB HB.out hw218_1), (cellB HB.out hw218_2), (cellB HB.out hw219_0), (cellB HB.out hw219_1), (cellB HB.out hw219_2)⟩ (fun hHeld => ?_)
                clear hK K
                refine norm_ (a' := ?_) ?_ ?_
                rotate_left
                ·show Act.put _ (some 45) _ = _
                 simp only [Act.put, List.setIfInBounds_toArray, List.set_cons_zero, List.set_cons_succ, i64_w, i32_w]
                 rfl
                refine pA 12 (some 33) (bA 18 40959) HT_.out ?_
                refine pA 13 (some 46) (bA 18 49151) HT_.out ?_
                refine pA 14 (some 47) (bA 18 65535) HT_.out ?_
                exact norm_ (by simp only [putAll, Act.put, List.setIfInBounds_toArray, List.set_cons_zero, List.set_cons_succ]) (hCont (gb223) _ ⟨hHeld, (rowN HO_8.out), (blkN BK223.out), GW223.out, GE223.out, (belS HB.out)⟩)
              rintro gb223 w29 ⟨hS_, h0_, h1_, h2_, h3_, h4_⟩
              have n0_ : Aside0 (Kd.R k26 26 w29 w.heap.size (fun _ => True) u8 x8_2) := ⟨h0_⟩
              have n1_ : Aside0 (w29.heap[gb223]? = some (.cells #[.int .i64 0, .int .i64 0] 24 (0, 0))) := ⟨h1_⟩
              have n2_ : Aside0 (w.heap.size ≤ gb223) := ⟨h2_⟩
              have n3_ : Aside0 (w.heap.size ≤ gb223) := ⟨h3_⟩
              have n4_ : Aside0 (Below w.heap.size w w29) := ⟨h4_⟩
              clear HO_8
              clear HB
              clear h0_ h1_ h2_ h3_ h4_
              have HO_8 := n0_
              have BK223 := n1_
              have GW223 := n2_
              have GE223 := n3_
              have HB := n4_
              clear n0_ n1_ n2_ n3_ n4_
              have hHeld : w29.cell? (ad218.add (((ji15)).toNat * 3)) = some (.int .i64 ((rd_T26 l0 (ji15)).f0)) ∧ w29.cell? ⟨(ad218.add (((ji15)).toNat * 3)).block, (ad218.add (((ji15)).toNat * 3)).off + 1, none⟩ = some (.int .i64 ((rd_T26 l0 (ji15)).f1.f0)) ∧ w29.cell? ⟨(ad218.add (((ji15)).toNat * 3)).block, (ad218.add (((ji15)).toNat * 3)).off + 2, none⟩ = some (.int .i64 ((rd_T26 l0 (ji15)).f1.f1)) ∧ w29.cell? (ad218.add ((x9_2).toNat * 3)) = some (.int .i64 ((rd_T26 l0 x9_2).f0)) ∧ w29.cell? ⟨(ad218.add ((x9_2).toNat * 3)).block, (ad218.add ((x9_2).toNat * 3)).off + 1, none⟩ = some (.int .i64 ((rd_T26 l0 x9_2).f1.f0)) ∧ w29.cell? ⟨(ad218.add ((x9_2).toNat * 3)).block, (ad218.add ((x9_2).toNat * 3)).off + 2, none⟩ = some (.int .i64 ((rd_T26 l0 x9_2).f1.f1)) := hS_
              refine norm_ (a' := ?_) ?_ ?_
              rotate_left
              ·simp only [putAll, Act.put, List.setIfInBounds_toArray, List.set_cons_zero, List.set_cons_succ]
               rfl
              refine one_ (i := 16) (N := none) (bA 18 131071) rfl rfl (one_of HT_.out (by kernel_rfl)) (by decide) (fun K hK => ?_)
              have hs30 : w29.cell? ⟨gb223, 0, none⟩ = some (.int .i64 0) := (blk_cell BK223.out 0).trans rfl
              have hfs30 := blk_frozen BK223.out 0
              have hs31 : w29.cell? ⟨gb223, 1, none⟩ = some (.int .i64 0) := (blk_cell BK223.out 1).trans rfl
              have hfs31 := blk_frozen BK223.out 1
              refine skip_ (w1 := ?_) (by rfl) rfl ?_ ?_
              rotate_left
              ·go_simp
               rfl
              refine hK.out _ _ ⟨((cell_far (p := ⟨gb223, _, none⟩) (by first | exact cellNe hw218_0 GW223.out | (rw [add_block]; exact cellNe hw218_0 GW223.out) | (show (Addr.add _ _).block ≠ _; rw [add_block]; exact cellNe hw218_0 GW223.out) | (dsimp only; exact cellNe hw218_0 GW223.out)) _).trans (((cell_far (p := ⟨gb223, _, none⟩) (by first | exact cellNe hw218_0 GW223.out | (rw [add_block]; exact cellNe hw218_0 GW223.out) | (show (Addr.add _ _).block ≠ _; rw [add_block]; exact cellNe hw218_0 GW223.out) | (dsimp only; exact cellNe hw218_0 GW223.out)) _).trans (hHeld.1)))), ((cell_far (p := ⟨gb223, _, none⟩) (by first | exact cellNe hw218_1 GW223.out | (rw [add_block]; exact cellNe hw218_1 GW223.out) | (show (Addr.add _ _).block ≠ _; rw [add_block]; exact cellNe hw218_1 GW223.out) | (dsimp only; exact cellNe hw218_1 GW223.out)) _).trans (((cell_far (p := ⟨gb223, _, none⟩) (by first | exact cellNe hw218_1 GW223.out | (rw [add_block]; exact cellNe hw218_1 GW223.out) | (show (Addr.add _ _).block ≠ _; rw [add_block]; exact cellNe hw218_1 GW223.out) | (dsimp only; exact cellNe hw218_1 GW223.out)) _).trans (hHeld.2.1)))), ((cell_far (p := ⟨gb223, _, none⟩) (by first | exact cellNe hw218_2 GW223.out | (rw [add_block]; exact cellNe hw218_2 GW223.out) | (show (Addr.add _ _).block ≠ _; rw [add_block]; exact cellNe hw218_2 GW223.out) | (dsimp only; exact cellNe hw218_2 GW223.out)) _).trans (((cell_far (p := ⟨gb223, _, none⟩) (by first | exact cellNe hw218_2 GW223.out | (rw [add_block]; exact cellNe hw218_2 GW223.out) | (show (Addr.add _ _).block ≠ _; rw [add_block]; exact cellNe hw218_2 GW223.out) | (dsimp only; exact cellNe hw218_2 GW223.out)) _).trans (hHeld.2.2.1)))), ((cell_far (p := ⟨gb223, _, none⟩) (by first | exact cellNe hw219_0 GW223.out | (rw [add_block]; exact cellNe hw219_0 GW223.out) | (show (Addr.add _ _).block ≠ _; rw [add_block]; exact cellNe hw219_0 GW223.out) | (dsimp only; exact cellNe hw219_0 GW223.out)) _).trans (((cell_far (p := ⟨gb223, _, none⟩) (by first | exact cellNe hw219_0 GW223.out | (rw [add_block]; exact cellNe hw219_0 GW223.out) | (show (Addr.add _ _).block ≠ _; rw [add_block]; exact cellNe hw219_0 GW223.out) | (dsimp only; exact cellNe hw219_0 GW223.out)) _).trans (hHeld.2.2.2.1)))), ((cell_far (p := ⟨gb223, _, none⟩) (by first | exact cellNe hw219_1 GW223.out | (rw [add_block]; exact cellNe hw219_1 GW223.out) | (show (Addr.add _ _).block ≠ _; rw [add_block]; exact cellNe hw219_1 GW223.out) | (dsimp only; exact cellNe hw219_1 GW223.out)) _).trans (((cell_far (p := ⟨gb223, _, none⟩) (by first | exact cellNe hw219_1 GW223.out | (rw [add_block]; exact cellNe hw219_1 GW223.out) | (show (Addr.add _ _).block ≠ _; rw [add_block]; exact cellNe hw219_1 GW223.out) | (dsimp only; exact cellNe hw219_1 GW223.out)) _).trans (hHeld.2.2.2.2.1)))), ((cell_far (p := ⟨gb223, _, none⟩) (by first | exact cellNe hw219_2 GW223.out | (rw [add_block]; exact cellNe hw219_2 GW223.out) | (show (Addr.add _ _).block ≠ _; rw [add_block]; exact cellNe hw219_2 GW223.out) | (dsimp only; exact cellNe hw219_2 GW223.out)) _).trans (((cell_far (p := ⟨gb223, _, none⟩) (by first | exact cellNe hw219_2 GW223.out | (rw [add_block]; exact cellNe hw219_2 GW223.out) | (show (Addr.add _ _).block ≠ _; rw [add_block]; exact cellNe hw219_2 GW223.out) | (dsimp only; exact cellNe hw219_2 GW223.out)) _).trans (hHeld.2.2.2.2.2))))⟩ (fun hHeld => ?_)
              clear hK K
              refine pA 17 (some 11) (bA 18 262143) HT_.out ?_
              refine done_ (done_of HT_.out (by kernel_rfl)) ?_
              try go_wp2
              have n0_ : Aside0 (Kd.R k26 26 ((w29.setCell ⟨gb223, 0, none⟩ (.int .i64 t220)).setCell ⟨gb223, 1, none⟩ (.int .i64 t221)) w.heap.size (fun _ => True) u8 x8_2) := ⟨by (with_reducible repeat (first | apply Kd.R_alloc | apply Kd.R_drewN | apply Kd.R_drew)); exact Kd.R_mono (Kd.R_far (p := ⟨gb223, 1, none⟩) (Kd.R_far (p := ⟨gb223, 0, none⟩) (Kd.R_types HO_8.out BK223.out (by decide)) (fun _ hk => hk.2) (.int .i64 t220)) (fun _ hk => hk.2) (.int .i64 t221)) (fun _ hk => trivial)⟩
              have n1_ : Aside0 (((w29.setCell ⟨gb223, 0, none⟩ (.int .i64 t220)).setCell ⟨gb223, 1, none⟩ (.int .i64 t221)).heap[gb223]? = some (.cells #[.int .i64 t220, .int .i64 t221] 24 (0, 0))) := ⟨by (with_reducible repeat (first | refine blk_drewN ?_ _ | refine blk_drew ?_ | refine blk_alloc ?_ _)); refine blk_put (cs := #[.int .i64 t220, .int .i64 0]) ?_ 1 _ rfl; (with_reducible repeat (first | refine blk_drewN ?_ _ | refine blk_drew ?_ | refine blk_alloc ?_ _)); refine blk_put (cs := #[.int .i64 0, .int .i64 0]) ?_ 0 _ rfl; (with_reducible repeat (first | refine blk_drewN ?_ _ | refine blk_drew ?_ | refine blk_alloc ?_ _)); exact BK223.out⟩
              have n2_ : Aside0 (Below w.heap.size w ((w29.setCell ⟨gb223, 0, none⟩ (.int .i64 t220)).setCell ⟨gb223, 1, none⟩ (.int .i64 t221))) := ⟨(belS HB.out)⟩
              (try clear HO_8)
              (try clear BK223)
              (try clear HB)
              generalize ((w29.setCell ⟨gb223, 0, none⟩ (.int .i64 t220)).setCell ⟨gb223, 1, none⟩ (.int .i64 t221)) = w32 at n0_ n1_ n2_ ⊢
              have HO_8 := n0_
              have BK223 := n1_
              have HB := n2_
              clear n0_ n1_ n2_
              have n0_ := Aside0.mk (Kd.R_drew HO_8.out)
              have n1_ := Aside0.mk (blk_drew BK223.out)
              have n2_ := Aside0.mk (below_drew1 HB.out)
              clear HO_8
              clear BK223
              clear HB
              have HO_8 := n0_
              have BK223 := n1_
              have HB := n2_
              clear n0_ n1_ n2_
              have p224 : 0 ≤ (x9_2 : Int) := of_decide_eq_true (by first | (with_reducible assumption) | assumption)
              have q224 : x9_2 < (l0.length : Int) := of_decide_eq_true (by first | (with_reducible assumption) | assumption)
              obtain ⟨ad224, e224, hx224_0, hx224_1, hx224_2⟩ := at_T26 HR0.out x9_2 p224 q224
              have hw224_2 := hx224_2
              have hw224_1 := hx224_1
              have hw224_0 := hx224_0
              obtain rfl : ad218 = ad224 := (by injection e224)
              replace hx224_0 := cellB HB.out hx224_0
              replace hx224_1 := cellB HB.out hx224_1
              replace hx224_2 := cellB HB.out hx224_2
              replace p224 := eq_true p224
              replace q224 := eq_true q224
              have p225 : 0 ≤ ((ji15) : Int) := of_decide_eq_true (by first | (with_reducible assumption) | assumption)
              have q225 : (ji15) < (l0.length : Int) := of_decide_eq_true (by first | (with_reducible assumption) | assumption)
              obtain ⟨ad225, e225, hx225_0, hx225_1, hx225_2⟩ := at_T26 HR0.out (ji15) p225 q225
              have hw225_2 := hx225_2
              have hw225_1 := hx225_1
              have hw225_0 := hx225_0
              obtain rfl : ad218 = ad225 := (by injection e225)
              replace hx225_0 := cellB HB.out hx225_0
              replace hx225_1 := cellB HB.out hx225_1
              replace hx225_2 := cellB HB.out hx225_2
              replace p225 := eq_true p225
              replace q225 := eq_true q225
              refine start_ (n := 19) (S := fun w' => w'.cell? (ad218.add ((x9_2).toNat * 3)) = some (.int .i64 ((rd_T26 l0 x9_2).f0)) ∧ w'.cell? ⟨(ad218.add ((x9_2).toNat * 3)).block, (ad218.add ((x9_2).toNat * 3)).off + 1, none⟩ = some (.int .i64 ((rd_T26 l0 x9_2).f1.f0)) ∧ w'.cell? ⟨(ad218.add ((x9_2).toNat * 3)).block, (ad218.add ((x9_2).toNat * 3)).off + 2, none⟩ = some (.int .i64 ((rd_T26 l0 x9_2).f1.f1)) ∧ w'.cell? (ad218.add (((ji15)).toNat * 3)) = some (.int .i64 ((rd_T26 l0 (ji15)).f0)) ∧ w'.cell? ⟨(ad218.add (((ji15)).toNat * 3)).block, (ad218.add (((ji15)).toNat * 3)).off + 1, none⟩ = some (.int .i64 ((rd_T26 l0 (ji15)).f1.f0)) ∧ w'.cell? ⟨(ad218.add (((ji15)).toNat * 3)).block, (ad218.add (((ji15)).toNat * 3)).off + 2, none⟩ = some (.int .i64 ((rd_T26 l0 (ji15)).f1.f1))) (ds := []) #[false, false, false, false, false, false, false, false, false, false, false, false, false, false, false, false, false, false, false] (by kernel_rfl) rfl rfl ⟨(cellB HB.out hw224_0), (cellB HB.out hw224_1), (cellB HB.out hw224_2), (cellB HB.out hw225_0), (cellB HB.out hw225_1), (cellB HB.out hw225_2)⟩ (fun hHeld => ?_); refine with_tabW rate_Do.tab10 rate_Do.bits10 (fun HT_ HW_ => ?_)
              generalize w32.drew = w33 at HO_8 BK223 HB hx224_0 hx224_1 hx224_2 hx225_0 hx225_1 hx225_2 hHeld ⊢
              refine pA 0 (some 52) (bA 19 1) HT_.out ?_
              refine pA 1 (some 53) (bA 19 3) HT_.out ?_
              refine pA 2 (some 54) (bA 19 7) HT_.out ?_
              refine pA 3 (some 55) (bA 19 15) HT_.out ?_
              refine pA 5 (some 57) (bA 19 47) HT_.out ?_
              refine pA 6 (some 58) (bA 19 111) HT_.out ?_
              refine pA 7 (some 59) (bA 19 239) HT_.out ?_
              refine pA 8 (some 60) (bA 19 495) HT_.out ?_
              refine pA 9 (some 61) (bA 19 1007) HT_.out ?_
              refine take_ (i := 4) (N := some 56) (v := ?_) (a' := ?_) (bA 19 1023) rfl rfl (take_ofW HT_.out HW_.out (by kernel_rfl)) (fun _ _ _ h => h) (Or.inl ⟨by rfl, ?_⟩) hHeld ?_ ?_
              rotate_left
              ·rintro w' ⟨s0, s1, s2, s3, s4, s5⟩
               go_simp
               with_reducible rfl
              rotate_left
              ·simp only [Act.put, List.setIfInBounds_toArray, List.set_cons_zero, List.set_cons_succ, i64_w, i32_w]
               rfl
              refine take_ (i := 10) (N := some 62) (v := ?_) (a' := ?_) (bA 19 2047) rfl rfl (take_ofW HT_.out HW_.out (by kernel_rfl)) (fun _ _ _ h => h) (Or.inl ⟨by rfl, ?_⟩) hHeld ?_ ?_
              rotate_left
              ·rintro w' ⟨s0, s1, s2, s3, s4, s5⟩
               go_simp
               with_reducible rfl
              rotate_left
              ·simp only [Act.put, List.setIfInBounds_toArray, List.set_cons_zero, List.set_cons_succ, i64_w, i32_w]
               rfl
              refine pA 11 (some 63) (bA 19 4095) HT_.out ?_
              refine join_ (σ := Nat) 2 (bA 19 131071) (fun s_ => [(64, .tuple #[.agg #[.int .i64 t226, .int .i64 t227], .int .i64 t228]), (12, .pointer (some ⟨s_, 0, none⟩)), (51, .tuple #[.agg #[.int .i64 t226, .int .i64 t227], .int .i64 t228]), (65, .agg #[.int .i64 t226, .int .i64 t227]), (66, .int .i64 t228)]) (fun s_ w' => (w'.cell? (ad218.add ((x9_2).toNat * 3)) = some (.int .i64 ((rd_T26 l0 x9_2).f0)) ∧ w'.cell? ⟨(ad218.add ((x9_2).toNat * 3)).block, (ad218.add ((x9_2).toNat * 3)).off + 1, none⟩ = some (.int .i64 ((rd_T26 l0 x9_2).f1.f0)) ∧ w'.cell? ⟨(ad218.add ((x9_2).toNat * 3)).block, (ad218.add ((x9_2).toNat * 3)).off + 2, none⟩ = some (.int .i64 ((rd_T26 l0 x9_2).f1.f1)) ∧ w'.cell? (ad218.add (((ji15)).toNat * 3)) = some (.int .i64 ((rd_T26 l0 (ji15)).f0)) ∧ w'.cell? ⟨(ad218.add (((ji15)).toNat * 3)).block, (ad218.add (((ji15)).toNat * 3)).off + 1, none⟩ = some (.int .i64 ((rd_T26 l0 (ji15)).f1.f0)) ∧ w'.cell? ⟨(ad218.add (((ji15)).toNat * 3)).block, (ad218.add (((ji15)).toNat * 3)).off + 2, none⟩ = some (.int .i64 ((rd_T26 l0 (ji15)).f1.f1))) ∧ (Kd.R k26 26 w' w.heap.size (fun _ => True) u8 x8_2) ∧ (w'.heap[gb223]? = some (.cells #[.int .i64 t220, .int .i64 t221] 24 (0, 0))) ∧ (w'.heap[s_]? = some (.cells #[.int .i64 0, .int .i64 0] 24 (0, 0))) ∧ (w.heap.size ≤ s_) ∧ (w.heap.size ≤ s_) ∧ (gb223 ≠ s_) ∧ (s_ ≠ gb223) ∧ (Below w.heap.size w w')) ?_ ?_
              rotate_left
              ·intro hCont
               refine two_ (i := 12) (j := 16) (Ni := some 64) (Nj := some 12) (bA 19 8191) (bA 19 69631) rfl rfl rfl rfl (two_of HT_.out (by kernel_rfl)) (by decide) (by decide) (fun K hK => ?_) (fun K hK => ?_)
               ·skip
                refine goes_ Try.func23 (by kernel_rfl) rfl #[.int .i64 (wrap64 (((rd_T26 l0 x9_2).f0) - ((rd_T26 l0 (ji15)).f0)))] (by rfl) rfl rfl (by (try simp only [List.map_toArray, List.map_cons, List.map_nil]); first | done | (simp only [hji15]; rfl) | rfl | (simp only [List.length_drop, List.length_take]; rfl)) ?_
                with_reducible refine (rat_Of.calls k2 (wrap64 (((rd_T26 l0 x9_2).f0) - ((rd_T26 l0 (ji15)).f0))) t226 t227 t228 _ A21.out).mono ?_
                rintro e w34 ⟨rfl, hb⟩
                refine ⟨_, rfl, ?_⟩
                have n0_ := Aside0.mk (Kd.R_below (rowN HO_8.out) hb)
                have n1_ := Aside0.mk (bkB BK223.out hb)
                have n2_ := Aside0.mk (below_step (belS HB.out) hb)
                clear HO_8
                clear BK223
                clear HB
                have HO_8 := n0_
                have BK223 := n1_
                have HB := n2_
                clear n0_ n1_ n2_
                (try clear hb)
                (try clear hk)
                refine hK.out _ _ ⟨(cellB HB.out hw224_0), (cellB HB.out hw224_1), (cellB HB.out hw224_2), (cellB HB.out hw225_0), (cellB HB.out hw225_1), (cellB HB.out hw225_2)⟩ (fun hHeld => ?_)
                clear hK K
                refine norm_ (a' := ?_) ?_ ?_
                rotate_left
                ·show Act.put _ (some 64) _ = _
                 simp only [Act.put, List.setIfInBounds_toArray, List.set_cons_zero, List.set_cons_succ, i64_w, i32_w]
                 rfl
                refine pA 13 (some 51) (bA 19 16383) HT_.out ?_
                refine pA 14 (some 65) (bA 19 32767) HT_.out ?_
                refine pA 15 (some 66) (bA 19 65535) HT_.out ?_
                refine one_ (i := 16) (N := some 12) (bA 19 131071) rfl rfl (one_of HT_.out (by kernel_rfl)) (by decide) (fun K hK => ?_)
                refine box_step ?hg (N := 12) ?hd (cs := #[.int .i64 0, .int .i64 0]) (t := 24) ?hr ?_; (case hd => rfl); (case hg => rfl); (case hr => first | (go_simp; done) | (go_simp; rfl))
                intro gb229 hg w35 hbox hb
                have n0_ := Aside0.mk (Kd.R_below (rowN HO_8.out) hb)
                have n1_ := Aside0.mk (bkB BK223.out hb)
                have n2_ := Aside0.mk (below_step (belS HB.out) hb)
                have n3_ := Aside0.mk (hbox)
                have n4_ := Aside0.mk (szB hg HB.out)
                have n5_ := Aside0.mk (szB hg HB.out)
                have n6_ := Aside0.mk ((bk1 hg BK223.out))
                have n7_ := Aside0.mk ((bk2 hg BK223.out))
                clear HO_8
                clear BK223
                clear HB
                have HO_8 := n0_
                have BK223 := n1_
                have HB := n2_
                have BK229 := n3_
                have GW229 := n4_
                have GE229 := n5_
                have NB223_229 := n6_
                have NB229_223 := n7_
                clear n0_ n1_ n2_ n3_ n4_ n5_ n6_ n7_
                clear hb hbox hg
                refine hK.out _ _ ⟨(cellB HB.out hw224_0), (cellB HB.out hw224_1), (cellB HB.out hw224_2), (cellB HB.out hw225_0), (cellB HB.out hw225_1), (cellB HB.out hw225_2)⟩ (fun hHeld => ?_)
                clear hK K
                refine norm_ (a' := ?_) ?_ ?_
                rotate_left
                ·show Act.put _ (some 12) _ = _
                 simp only [Act.put, List.setIfInBounds_toArray, List.set_cons_zero, List.set_cons_succ, i64_w, i32_w]
                 rfl
                exact norm_ (by simp only [putAll, Act.put, List.setIfInBounds_toArray, List.set_cons_zero, List.set_cons_succ]) (hCont (gb229) _ ⟨hHeld, (rowN HO_8.out), (blkN BK223.out), (blkN BK229.out), GW229.out, GE229.out, NB223_229.out, NB229_223.out, (belS HB.out)⟩)
               ·skip
                refine box_step ?hg (N := 12) ?hd (cs := #[.int .i64 0, .int .i64 0]) (t := 24) ?hr ?_; (case hd => rfl); (case hg => rfl); (case hr => first | (go_simp; done) | (go_simp; rfl))
                intro gb229 hg w34 hbox hb
                have n0_ := Aside0.mk (Kd.R_below (rowN HO_8.out) hb)
                have n1_ := Aside0.mk (bkB BK223.out hb)
                have n2_ := Aside0.mk (below_step (belS HB.out) hb)
                have n3_ := Aside0.mk (hbox)
                have n4_ := Aside0.mk (szB hg HB.out)
                have n5_ := Aside0.mk (szB hg HB.out)
                have n6_ := Aside0.mk ((bk1 hg BK223.out))
                have n7_ := Aside0.mk ((bk2 hg BK223.out))
                clear HO_8
                clear BK223
                clear HB
                have HO_8 := n0_
                have BK223 := n1_
                have HB := n2_
                have BK229 := n3_
                have GW229 := n4_
                have GE229 := n5_
                have NB223_229 := n6_
                have NB229_223 := n7_
                clear n0_ n1_ n2_ n3_ n4_ n5_ n6_ n7_
                clear hb hbox hg
                refine hK.out _ _ ⟨(cellB HB.out hw224_0), (cellB HB.out hw224_1), (cellB HB.out hw224_2), (cellB HB.out hw225_0), (cellB HB.out hw225_1), (cellB HB.out hw225_2)⟩ (fun hHeld => ?_)
                clear hK K
                refine norm_ (a' := ?_) ?_ ?_
                rotate_left
                ·show Act.put _ (some 12) _ = _
                 simp only [Act.put, List.setIfInBounds_toArray, List.set_cons_zero, List.set_cons_succ, i64_w, i32_w]
                 rfl
                refine one_ (i := 12) (N := some 64) (bA 19 73727) rfl rfl (one_of HT_.out (by kernel_rfl)) (by decide) (fun K hK => ?_)
                refine goes_ Try.func23 (by kernel_rfl) rfl #[.int .i64 (wrap64 (((rd_T26 l0 x9_2).f0) - ((rd_T26 l0 (ji15)).f0)))] (by rfl) rfl rfl (by (try simp only [List.map_toArray, List.map_cons, List.map_nil]); first | done | (simp only [hji15]; rfl) | rfl | (simp only [List.length_drop, List.length_take]; rfl)) ?_
                with_reducible refine (rat_Of.calls k2 (wrap64 (((rd_T26 l0 x9_2).f0) - ((rd_T26 l0 (ji15)).f0))) t226 t227 t228 _ A21.out).mono ?_
                rintro e w35 ⟨rfl, hb⟩
                refine ⟨_, rfl, ?_⟩
                have n0_ := Aside0.mk (Kd.R_below (rowN HO_8.out) hb)
                have n1_ := Aside0.mk (bkB BK223.out hb)
                have n2_ := Aside0.mk (bkB BK229.out hb)
                have n3_ := Aside0.mk (below_step (belS HB.out) hb)
                clear HO_8
                clear BK223
                clear BK229
                clear HB
                have HO_8 := n0_
                have BK223 := n1_
                have BK229 := n2_
                have HB := n3_
                clear n0_ n1_ n2_ n3_
                (try clear hb)
                (try clear hk)
                refine hK.out _ _ ⟨(cellB HB.out hw224_0), (cellB HB.out hw224_1), (cellB HB.out hw224_2), (cellB HB.out hw225_0), (cellB HB.out hw225_1), (cellB HB.out hw225_2)⟩ (fun hHeld => ?_)
                clear hK K
                refine norm_ (a' := ?_) ?_ ?_
                rotate_left
                ·show Act.put _ (some 64) _ = _
                 simp only [Act.put, List.setIfInBounds_toArray, List.set_cons_zero, List.set_cons_succ, i64_w, i32_w]
                 rfl
                refine pA 13 (some 51) (bA 19 81919) HT_.out ?_
                refine pA 14 (some 65) (bA 19 98303) HT_.out ?_
                refine pA 15 (some 66) (bA 19 131071) HT_.out ?_
                exact norm_ (by simp only [putAll, Act.put, List.setIfInBounds_toArray, List.set_cons_zero, List.set_cons_succ]) (hCont (gb229) _ ⟨hHeld, (rowN HO_8.out), (blkN BK223.out), (blkN BK229.out), GW229.out, GE229.out, NB223_229.out, NB229_223.out, (belS HB.out)⟩)
              rintro gb229 w36 ⟨hS_, h0_, h1_, h2_, h3_, h4_, h5_, h6_, h7_⟩
              have n0_ : Aside0 (Kd.R k26 26 w36 w.heap.size (fun _ => True) u8 x8_2) := ⟨h0_⟩
              have n1_ : Aside0 (w36.heap[gb223]? = some (.cells #[.int .i64 t220, .int .i64 t221] 24 (0, 0))) := ⟨h1_⟩
              have n2_ : Aside0 (w36.heap[gb229]? = some (.cells #[.int .i64 0, .int .i64 0] 24 (0, 0))) := ⟨h2_⟩
              have n3_ : Aside0 (w.heap.size ≤ gb229) := ⟨h3_⟩
              have n4_ : Aside0 (w.heap.size ≤ gb229) := ⟨h4_⟩
              have n5_ : Aside0 (gb223 ≠ gb229) := ⟨h5_⟩
              have n6_ : Aside0 (gb229 ≠ gb223) := ⟨h6_⟩
              have n7_ : Aside0 (Below w.heap.size w w36) := ⟨h7_⟩
              clear HO_8
              clear BK223
              clear HB
              clear h0_ h1_ h2_ h3_ h4_ h5_ h6_ h7_
              have HO_8 := n0_
              have BK223 := n1_
              have BK229 := n2_
              have GW229 := n3_
              have GE229 := n4_
              have NB223_229 := n5_
              have NB229_223 := n6_
              have HB := n7_
              clear n0_ n1_ n2_ n3_ n4_ n5_ n6_ n7_
              have hHeld : w36.cell? (ad218.add ((x9_2).toNat * 3)) = some (.int .i64 ((rd_T26 l0 x9_2).f0)) ∧ w36.cell? ⟨(ad218.add ((x9_2).toNat * 3)).block, (ad218.add ((x9_2).toNat * 3)).off + 1, none⟩ = some (.int .i64 ((rd_T26 l0 x9_2).f1.f0)) ∧ w36.cell? ⟨(ad218.add ((x9_2).toNat * 3)).block, (ad218.add ((x9_2).toNat * 3)).off + 2, none⟩ = some (.int .i64 ((rd_T26 l0 x9_2).f1.f1)) ∧ w36.cell? (ad218.add (((ji15)).toNat * 3)) = some (.int .i64 ((rd_T26 l0 (ji15)).f0)) ∧ w36.cell? ⟨(ad218.add (((ji15)).toNat * 3)).block, (ad218.add (((ji15)).toNat * 3)).off + 1, none⟩ = some (.int .i64 ((rd_T26 l0 (ji15)).f1.f0)) ∧ w36.cell? ⟨(ad218.add (((ji15)).toNat * 3)).block, (ad218.add (((ji15)).toNat * 3)).off + 2, none⟩ = some (.int .i64 ((rd_T26 l0 (ji15)).f1.f1)) := hS_
              refine norm_ (a' := ?_) ?_ ?_
              rotate_left
              ·simp only [putAll, Act.put, List.setIfInBounds_toArray, List.set_cons_zero, List.set_cons_succ]
               rfl
              refine one_ (i := 17) (N := none) (bA 19 262143) rfl rfl (one_of HT_.out (by kernel_rfl)) (by decide) (fun K hK => ?_)
              have hs37 : w36.cell? ⟨gb229, 0, none⟩ = some (.int .i64 0) := (blk_cell BK229.out 0).trans rfl
              have hfs37 := blk_frozen BK229.out 0
              have hns37_0 := NB223_229.out
              have hms37_0 := NB229_223.out
              have hs38 : w36.cell? ⟨gb229, 1, none⟩ = some (.int .i64 0) := (blk_cell BK229.out 1).trans rfl
              have hfs38 := blk_frozen BK229.out 1
              have hns38_0 := NB223_229.out
              have hms38_0 := NB229_223.out
              refine skip_ (w1 := ?_) (by rfl) rfl ?_ ?_
              rotate_left
              ·go_simp
               rfl
              refine hK.out _ _ ⟨((cell_far (p := ⟨gb229, _, none⟩) (by first | exact cellNe hw224_0 GW229.out | (rw [add_block]; exact cellNe hw224_0 GW229.out) | (show (Addr.add _ _).block ≠ _; rw [add_block]; exact cellNe hw224_0 GW229.out) | (dsimp only; exact cellNe hw224_0 GW229.out)) _).trans (((cell_far (p := ⟨gb229, _, none⟩) (by first | exact cellNe hw224_0 GW229.out | (rw [add_block]; exact cellNe hw224_0 GW229.out) | (show (Addr.add _ _).block ≠ _; rw [add_block]; exact cellNe hw224_0 GW229.out) | (dsimp only; exact cellNe hw224_0 GW229.out)) _).trans (hHeld.1)))), ((cell_far (p := ⟨gb229, _, none⟩) (by first | exact cellNe hw224_1 GW229.out | (rw [add_block]; exact cellNe hw224_1 GW229.out) | (show (Addr.add _ _).block ≠ _; rw [add_block]; exact cellNe hw224_1 GW229.out) | (dsimp only; exact cellNe hw224_1 GW229.out)) _).trans (((cell_far (p := ⟨gb229, _, none⟩) (by first | exact cellNe hw224_1 GW229.out | (rw [add_block]; exact cellNe hw224_1 GW229.out) | (show (Addr.add _ _).block ≠ _; rw [add_block]; exact cellNe hw224_1 GW229.out) | (dsimp only; exact cellNe hw224_1 GW229.out)) _).trans (hHeld.2.1)))), ((cell_far (p := ⟨gb229, _, none⟩) (by first | exact cellNe hw224_2 GW229.out | (rw [add_block]; exact cellNe hw224_2 GW229.out) | (show (Addr.add _ _).block ≠ _; rw [add_block]; exact cellNe hw224_2 GW229.out) | (dsimp only; exact cellNe hw224_2 GW229.out)) _).trans (((cell_far (p := ⟨gb229, _, none⟩) (by first | exact cellNe hw224_2 GW229.out | (rw [add_block]; exact cellNe hw224_2 GW229.out) | (show (Addr.add _ _).block ≠ _; rw [add_block]; exact cellNe hw224_2 GW229.out) | (dsimp only; exact cellNe hw224_2 GW229.out)) _).trans (hHeld.2.2.1)))), ((cell_far (p := ⟨gb229, _, none⟩) (by first | exact cellNe hw225_0 GW229.out | (rw [add_block]; exact cellNe hw225_0 GW229.out) | (show (Addr.add _ _).block ≠ _; rw [add_block]; exact cellNe hw225_0 GW229.out) | (dsimp only; exact cellNe hw225_0 GW229.out)) _).trans (((cell_far (p := ⟨gb229, _, none⟩) (by first | exact cellNe hw225_0 GW229.out | (rw [add_block]; exact cellNe hw225_0 GW229.out) | (show (Addr.add _ _).block ≠ _; rw [add_block]; exact cellNe hw225_0 GW229.out) | (dsimp only; exact cellNe hw225_0 GW229.out)) _).trans (hHeld.2.2.2.1)))), ((cell_far (p := ⟨gb229, _, none⟩) (by first | exact cellNe hw225_1 GW229.out | (rw [add_block]; exact cellNe hw225_1 GW229.out) | (show (Addr.add _ _).block ≠ _; rw [add_block]; exact cellNe hw225_1 GW229.out) | (dsimp only; exact cellNe hw225_1 GW229.out)) _).trans (((cell_far (p := ⟨gb229, _, none⟩) (by first | exact cellNe hw225_1 GW229.out | (rw [add_block]; exact cellNe hw225_1 GW229.out) | (show (Addr.add _ _).block ≠ _; rw [add_block]; exact cellNe hw225_1 GW229.out) | (dsimp only; exact cellNe hw225_1 GW229.out)) _).trans (hHeld.2.2.2.2.1)))), ((cell_far (p := ⟨gb229, _, none⟩) (by first | exact cellNe hw225_2 GW229.out | (rw [add_block]; exact cellNe hw225_2 GW229.out) | (show (Addr.add _ _).block ≠ _; rw [add_block]; exact cellNe hw225_2 GW229.out) | (dsimp only; exact cellNe hw225_2 GW229.out)) _).trans (((cell_far (p := ⟨gb229, _, none⟩) (by first | exact cellNe hw225_2 GW229.out | (rw [add_block]; exact cellNe hw225_2 GW229.out) | (show (Addr.add _ _).block ≠ _; rw [add_block]; exact cellNe hw225_2 GW229.out) | (dsimp only; exact cellNe hw225_2 GW229.out)) _).trans (hHeld.2.2.2.2.2))))⟩ (fun hHeld => ?_)
              clear hK K
              refine pA 18 (some 11) (bA 19 524287) HT_.out ?_
              refine done_ (done_of HT_.out (by kernel_rfl)) ?_
              have hnb39 := NB223_229.out
              have hnc39 := NB229_223.out
              have hcz40_0 : w36.cell? ⟨gb223, 0, none⟩ = some (.int .i64 t220) := (blk_cell BK223.out 0).trans rfl
              have hcz40_1 : w36.cell? ⟨gb223, 1, none⟩ = some (.int .i64 t221) := (blk_cell BK223.out 1).trans rfl
              have hfz40_0 := blk_frozen BK223.out 0
              have hfz40_1 := blk_frozen BK223.out 1
              have hcz41_0 : w36.cell? ⟨gb229, 0, none⟩ = some (.int .i64 0) := (blk_cell BK229.out 0).trans rfl
              have hcz41_1 : w36.cell? ⟨gb229, 1, none⟩ = some (.int .i64 0) := (blk_cell BK229.out 1).trans rfl
              have hfz41_0 := blk_frozen BK229.out 0
              have hfz41_1 := blk_frozen BK229.out 1
              try go_wp2_with (first | ((with_reducible refine gate_callee (f := 24) rfl ?_); refine goesL_ (some 73) rfl rfl Try.func24 (by kernel_rfl) rfl #[.agg #[.int .i64 t220, .int .i64 t221], .agg #[.int .i64 t226, .int .i64 t227]] rfl argN ?_; (with_reducible refine (rat_Div.calls k2 t220 t221 t226 t227 t230 t231 t232 _ A23.out).mono ?_); rintro e w42 ⟨rfl, hb⟩; refine ⟨_, rfl, ?_⟩; have n0_ := Aside0.mk (Kd.R_below (by (with_reducible repeat (first | apply Kd.R_alloc | apply Kd.R_drewN | apply Kd.R_drew)); exact (Kd.R_mono (Kd.R_far (p := ⟨gb229, 1, none⟩) (Kd.R_far (p := ⟨gb229, 0, none⟩) (Kd.R_types HO_8.out BK229.out (by decide)) (fun _ hk => hk.2) (.int .i64 t226)) (fun _ hk => hk.2) (.int .i64 t227)) (fun _ h_ => h_.1))) hb); have n1_ := Aside0.mk (bkBF BK223.out hb); have n2_ := Aside0.mk (blk_below (g := gb229) (o := .cells #[.int .i64 t226, .int .i64 t227] 24 (0, 0)) (by (with_reducible repeat (first | refine blk_drewN ?_ _ | refine blk_drew ?_ | refine blk_alloc ?_ _)); refine blk_put (cs := #[.int .i64 t226, .int .i64 0]) ?_ 1 _ rfl; (with_reducible repeat (first | refine blk_drewN ?_ _ | refine blk_drew ?_ | refine blk_alloc ?_ _)); refine blk_put (cs := #[.int .i64 0, .int .i64 0]) ?_ 0 _ rfl; (with_reducible repeat (first | refine blk_drewN ?_ _ | refine blk_drew ?_ | refine blk_alloc ?_ _)); exact BK229.out) hb); have n3_ := Aside0.mk (below_step (belS HB.out) hb); clear HO_8; clear BK223; clear BK229; clear HB; have HO_8 := n0_; have BK223 := n1_; have BK229 := n2_; have HB := n3_; clear n0_ n1_ n2_ n3_; (try clear hb); (try clear hk); have hcz43_0 : w42.cell? ⟨gb223, 0, none⟩ = some (.int .i64 t220) := (blk_cell BK223.out 0).trans rfl; have hcz43_1 : w42.cell? ⟨gb223, 1, none⟩ = some (.int .i64 t221) := (blk_cell BK223.out 1).trans rfl; have hfz43_0 := blk_frozen BK223.out 0; have hfz43_1 := blk_frozen BK223.out 1))
              have n0_ : Aside0 (Kd.R k26 26 ((w42.setCell ⟨gb223, 0, none⟩ (.int .i64 t230)).setCell ⟨gb223, 1, none⟩ (.int .i64 t231)) w.heap.size (fun _ => True) u8 x8_2) := ⟨by (with_reducible repeat (first | apply Kd.R_alloc | apply Kd.R_drewN | apply Kd.R_drew)); exact Kd.R_mono (Kd.R_far (p := ⟨gb223, 1, none⟩) (Kd.R_far (p := ⟨gb223, 0, none⟩) (Kd.R_types HO_8.out BK223.out (by decide)) (fun _ hk => hk.2) (.int .i64 t230)) (fun _ hk => hk.2) (.int .i64 t231)) (fun _ hk => trivial)⟩
              have n1_ : Aside0 (((w42.setCell ⟨gb223, 0, none⟩ (.int .i64 t230)).setCell ⟨gb223, 1, none⟩ (.int .i64 t231)).heap[gb223]? = some (.cells #[.int .i64 t230, .int .i64 t231] 24 (0, 0))) := ⟨by (with_reducible repeat (first | refine blk_drewN ?_ _ | refine blk_drew ?_ | refine blk_alloc ?_ _)); refine blk_put (cs := #[.int .i64 t230, .int .i64 t221]) ?_ 1 _ rfl; (with_reducible repeat (first | refine blk_drewN ?_ _ | refine blk_drew ?_ | refine blk_alloc ?_ _)); refine blk_put (cs := #[.int .i64 t220, .int .i64 t221]) ?_ 0 _ rfl; (with_reducible repeat (first | refine blk_drewN ?_ _ | refine blk_drew ?_ | refine blk_alloc ?_ _)); exact BK223.out⟩
              have n2_ : Aside0 (((w42.setCell ⟨gb223, 0, none⟩ (.int .i64 t230)).setCell ⟨gb223, 1, none⟩ (.int .i64 t231)).heap[gb229]? = some (.cells #[.int .i64 t226, .int .i64 t227] 24 (0, 0))) := ⟨blkF BK229.out⟩
              have n3_ : Aside0 (Below w.heap.size w ((w42.setCell ⟨gb223, 0, none⟩ (.int .i64 t230)).setCell ⟨gb223, 1, none⟩ (.int .i64 t231))) := ⟨(belS HB.out)⟩
              (try clear HO_8)
              (try clear BK223)
              (try clear BK229)
              (try clear HB)
              generalize ((w42.setCell ⟨gb223, 0, none⟩ (.int .i64 t230)).setCell ⟨gb223, 1, none⟩ (.int .i64 t231)) = w44 at n0_ n1_ n2_ n3_ ⊢
              have HO_8 := n0_
              have BK223 := n1_
              have BK229 := n2_
              have HB := n3_
              clear n0_ n1_ n2_ n3_
              have n0_ := Aside0.mk (Kd.R_drew HO_8.out)
              have n1_ := Aside0.mk (blk_drew BK223.out)
              have n2_ := Aside0.mk (blk_drew BK229.out)
              have n3_ := Aside0.mk (below_drew1 HB.out)
              clear HO_8
              clear BK223
              clear BK229
              clear HB
              have HO_8 := n0_
              have BK223 := n1_
              have BK229 := n2_
              have HB := n3_
              clear n0_ n1_ n2_ n3_
              have p233 : 0 ≤ (x9_2 : Int) := of_decide_eq_true (by first | (with_reducible assumption) | assumption)
              have q233 : x9_2 < (l0.length : Int) := of_decide_eq_true (by first | (with_reducible assumption) | assumption)
              obtain ⟨ad233, e233, hx233_0, hx233_1, hx233_2⟩ := at_T26 HR0.out x9_2 p233 q233
              have hw233_2 := hx233_2
              have hw233_1 := hx233_1
              have hw233_0 := hx233_0
              obtain rfl : ad218 = ad233 := (by injection e233)
              replace hx233_0 := cellB HB.out hx233_0
              replace hx233_1 := cellB HB.out hx233_1
              replace hx233_2 := cellB HB.out hx233_2
              replace p233 := eq_true p233
              replace q233 := eq_true q233
              refine start_ (n := 11) (S := fun w' => w'.cell? ⟨gb223, 0, none⟩ = some (.int .i64 t230) ∧ w'.cell? ⟨gb223, 1, none⟩ = some (.int .i64 t231) ∧ w'.cell? (ad218.add ((x9_2).toNat * 3)) = some (.int .i64 ((rd_T26 l0 x9_2).f0)) ∧ w'.cell? ⟨(ad218.add ((x9_2).toNat * 3)).block, (ad218.add ((x9_2).toNat * 3)).off + 1, none⟩ = some (.int .i64 ((rd_T26 l0 x9_2).f1.f0)) ∧ w'.cell? ⟨(ad218.add ((x9_2).toNat * 3)).block, (ad218.add ((x9_2).toNat * 3)).off + 2, none⟩ = some (.int .i64 ((rd_T26 l0 x9_2).f1.f1))) (ds := []) #[false, false, false, false, false, false, false, false, false, false, false] (by kernel_rfl) rfl rfl ⟨(blk_cell BK223.out 0).trans rfl, (blk_cell BK223.out 1).trans rfl, (cellB HB.out hw233_0), (cellB HB.out hw233_1), (cellB HB.out hw233_2)⟩ (fun hHeld => ?_); refine with_tabW rate_Do.tab16 rate_Do.bits16 (fun HT_ HW_ => ?_)
              generalize w44.drew = w45 at HO_8 BK223 BK229 HB hx233_0 hx233_1 hx233_2 hHeld ⊢
              refine pA 0 (some 79) (bA 11 1) HT_.out ?_
              refine pA 1 (some 80) (bA 11 3) HT_.out ?_
              refine pA 2 (some 81) (bA 11 7) HT_.out ?_
              refine pA 3 (some 82) (bA 11 15) HT_.out ?_
              refine pA 4 (some 83) (bA 11 31) HT_.out ?_
              refine take_ (i := 5) (N := some 84) (v := ?_) (a' := ?_) (bA 11 63) rfl rfl (take_ofW HT_.out HW_.out (by kernel_rfl)) (fun _ _ _ h => h) (Or.inl ⟨by rfl, ?_⟩) hHeld ?_ ?_
              rotate_left
              ·rintro w' ⟨s0, s1, s2, s3, s4⟩
               go_simp
               with_reducible rfl
              rotate_left
              ·simp only [Act.put, List.setIfInBounds_toArray, List.set_cons_zero, List.set_cons_succ, i64_w, i32_w]
               rfl
              refine take_ (i := 6) (N := some 85) (v := ?_) (a' := ?_) (bA 11 127) rfl rfl (take_ofW HT_.out HW_.out (by kernel_rfl)) (fun _ _ _ h => h) (Or.inl ⟨by rfl, ?_⟩) hHeld ?_ ?_
              rotate_left
              ·rintro w' ⟨s0, s1, s2, s3, s4⟩
               go_simp
               with_reducible rfl
              rotate_left
              ·simp only [Act.put, List.setIfInBounds_toArray, List.set_cons_zero, List.set_cons_succ, i64_w, i32_w]
               rfl
              refine pA 7 (some 86) (bA 11 255) HT_.out ?_
              refine one_ (i := 8) (N := some 87) (bA 11 511) rfl rfl (one_of HT_.out (by kernel_rfl)) (by decide) (fun K hK => ?_)
              refine value_ (w1 := ?_) (v := ?_) (by rfl) rfl ?_ ?_
              rotate_left 2
              ·go_simp
               constructor
               ·rfl
               ·rfl
              refine hK.out _ _ ⟨(blk_cell (blk_alloc BK223.out _) 0).trans rfl, (blk_cell (blk_alloc BK223.out _) 1).trans rfl, (World.cell?_alloc_lt _ _ _ (World.block_lt_of_cell? _ _ ((cellB HB.out hw233_0)))).trans ((cellB HB.out hw233_0)), (World.cell?_alloc_lt _ _ _ (World.block_lt_of_cell? _ _ ((cellB HB.out hw233_1)))).trans ((cellB HB.out hw233_1)), (World.cell?_alloc_lt _ _ _ (World.block_lt_of_cell? _ _ ((cellB HB.out hw233_2)))).trans ((cellB HB.out hw233_2))⟩ (fun hHeld => ?_)
              clear hK K
              refine norm_ (a' := ?_) ?_ ?_
              rotate_left
              ·show Act.put _ (some 87) _ = _
               simp only [Act.put, List.setIfInBounds_toArray, List.set_cons_zero, List.set_cons_succ, i64_w, i32_w]
               rfl
              refine one_ (i := 9) (N := some 88) (bA 11 1023) rfl rfl (one_of HT_.out (by kernel_rfl)) (by decide) (fun K hK => ?_)
              refine Kd.R_append_step k26 (w0 := w) w.heap.size (by rfl) (.tmp 79) (.tmp 87) 27 26 (.agg #[(.int .i64 0), (.int .i64 0), (.int .i64 0)]) 24 rfl Try.underlying27 info26 rfl (by decide) (by omega) u8 x8_2 (⟨(rd_T26 l0 x9_2).f0, (⟨t230, t231⟩ : S24)⟩ : S26) [.int .i64 ((rd_T26 l0 x9_2).f0), .int .i64 t230, .int .i64 t231] (fun _ => True) (fun _ => False) rfl rfl ?aP (fun _ hk => hk.elim) ?aF ?aO ?aB ?aS ?aL ?_
              (case aP => exact k26_mkM _ _ _ (⟨(rd_T26 l0 x9_2).f0, (⟨t230, t231⟩ : S24)⟩ : S26))
              (case aB => exact (belS HB.out))
              (case aF => exact (fun _ _ => trivial))
              (case aO => exact (rowN HO_8.out))
              (case aS => exact (below_size (belS HB.out)))
              (case aL => have := LMc25.out; omega)
              intro v235 w46 ho hb hg hat
              rw [← Ny234.out] at ho
              have n0_ := Aside0.mk (blk_grown (g := gb223) (o := .cells #[.int .i64 t230, .int .i64 t231] 24 (0, 0)) (blkN BK223.out) hg (Kd.R_ne HO_8.out BK223.out (by decide)))
              have n1_ := Aside0.mk (blk_grown (g := gb229) (o := .cells #[.int .i64 t226, .int .i64 t227] 24 (0, 0)) (blkN BK229.out) hg (Kd.R_ne HO_8.out BK229.out (by decide)))
              have n2_ := Aside0.mk (hb)
              have n3_ := Aside0.mk (ho)
              clear BK223
              clear BK229
              clear HB
              clear HO_8
              have BK223 := n0_
              have BK229 := n1_
              have HB := n2_
              have HO236 := n3_
              clear n0_ n1_ n2_ n3_
              clear ho hb hg hat
              refine hK.out _ _ ⟨(blk_cell BK223.out 0).trans rfl, (blk_cell BK223.out 1).trans rfl, (cellB HB.out hw233_0), (cellB HB.out hw233_1), (cellB HB.out hw233_2)⟩ (fun hHeld => ?_)
              clear hK K
              refine norm_ (a' := ?_) ?_ ?_
              rotate_left
              ·show Act.put _ (some 88) _ = _
               simp only [Act.put, List.setIfInBounds_toArray, List.set_cons_zero, List.set_cons_succ, i64_w, i32_w]
               rfl
              refine pA 10 (some 8) (bA 11 2047) HT_.out ?_
              refine done_ (done_of HT_.out (by kernel_rfl)) ?_
              try go_wp2
              go_roundg k2
              case measure => have := HJ3.out; have := HK2.out; omega
              case rel => exact ⟨(y234), (wrap64 (x9_2 + 1)), (by first | rfl | (simp; done) | (simp [*]; done)), H', ⟨by have := HJ3.out; have := HK2.out; omega⟩, ⟨(rowN HO236.out)⟩, ⟨(belS HB.out)⟩⟩
             ·rw [if_neg c25] at H
              exact absurd H (by simp)
            ·rw [if_neg c24] at H
             have c24b0 : (t232 == 0) = false := beq_eq_false_iff_ne.mpr c24
             have c24b1 : (t232 != 0) = true := bne_iff_ne.mpr c24
             simp only [Option.some.injEq, Prod.mk.injEq] at H
             obtain ⟨rfl, rfl⟩ := H
             try go_wp2
             have n0_ := Aside0.mk (Kd.R_drew HO_8.out)
             have n1_ := Aside0.mk (below_drew1 HB.out)
             clear HO_8
             clear HB
             have HO_8 := n0_
             have HB := n1_
             clear n0_ n1_
             have p218 : 0 ≤ ((ji15) : Int) := of_decide_eq_true (by first | (with_reducible assumption) | assumption)
             have q218 : (ji15) < (l0.length : Int) := of_decide_eq_true (by first | (with_reducible assumption) | assumption)
             obtain ⟨ad218, e218, hx218_0, hx218_1, hx218_2⟩ := at_T26 HR0.out (ji15) p218 q218
             have hw218_2 := hx218_2
             have hw218_1 := hx218_1
             have hw218_0 := hx218_0
             cases e218
             replace hx218_0 := cellB HB.out hx218_0
             replace hx218_1 := cellB HB.out hx218_1
             replace hx218_2 := cellB HB.out hx218_2
             replace p218 := eq_true p218
             replace q218 := eq_true q218
             have p219 : 0 ≤ (x9_2 : Int) := of_decide_eq_true (by first | (with_reducible assumption) | assumption)
             have q219 : x9_2 < (l0.length : Int) := of_decide_eq_true (by first | (with_reducible assumption) | assumption)
             obtain ⟨ad219, e219, hx219_0, hx219_1, hx219_2⟩ := at_T26 HR0.out x9_2 p219 q219
             have hw219_2 := hx219_2
             have hw219_1 := hx219_1
             have hw219_0 := hx219_0
             obtain rfl : ad218 = ad219 := (by injection e219)
             replace hx219_0 := cellB HB.out hx219_0
             replace hx219_1 := cellB HB.out hx219_1
             replace hx219_2 := cellB HB.out hx219_2
             replace p219 := eq_true p219
             replace q219 := eq_true q219
             refine start_ (n := 18) (S := fun w' => w'.cell? (ad218.add (((ji15)).toNat * 3)) = some (.int .i64 ((rd_T26 l0 (ji15)).f0)) ∧ w'.cell? ⟨(ad218.add (((ji15)).toNat * 3)).block, (ad218.add (((ji15)).toNat * 3)).off + 1, none⟩ = some (.int .i64 ((rd_T26 l0 (ji15)).f1.f0)) ∧ w'.cell? ⟨(ad218.add (((ji15)).toNat * 3)).block, (ad218.add (((ji15)).toNat * 3)).off + 2, none⟩ = some (.int .i64 ((rd_T26 l0 (ji15)).f1.f1)) ∧ w'.cell? (ad218.add ((x9_2).toNat * 3)) = some (.int .i64 ((rd_T26 l0 x9_2).f0)) ∧ w'.cell? ⟨(ad218.add ((x9_2).toNat * 3)).block, (ad218.add ((x9_2).toNat * 3)).off + 1, none⟩ = some (.int .i64 ((rd_T26 l0 x9_2).f1.f0)) ∧ w'.cell? ⟨(ad218.add ((x9_2).toNat * 3)).block, (ad218.add ((x9_2).toNat * 3)).off + 2, none⟩ = some (.int .i64 ((rd_T26 l0 x9_2).f1.f1))) (ds := []) #[false, false, false, false, false, false, false, false, false, false, false, false, false, false, false, false, false, false] (by kernel_rfl) rfl rfl ⟨(cellB HB.out hw218_0), (cellB HB.out hw218_1), (cellB HB.out hw218_2), (cellB HB.out hw219_0), (cellB HB.out hw219_1), (cellB HB.out hw219_2)⟩ (fun hHeld => ?_); refine with_tabW rate_Do.tab7 rate_Do.bits7 (fun HT_ HW_ => ?_)
             generalize wr.drew = w47 at HO_8 HB hx218_0 hx218_1 hx218_2 hx219_0 hx219_1 hx219_2 hHeld ⊢
             refine pA 0 (some 34) (bA 18 1) HT_.out ?_
             refine pA 1 (some 35) (bA 18 3) HT_.out ?_
             refine pA 2 (some 36) (bA 18 7) HT_.out ?_
             refine pA 3 (some 37) (bA 18 15) HT_.out ?_
             refine pA 5 (some 39) (bA 18 47) HT_.out ?_
             refine pA 6 (some 40) (bA 18 111) HT_.out ?_
             refine pA 7 (some 41) (bA 18 239) HT_.out ?_
             refine pA 9 (some 43) (bA 18 751) HT_.out ?_
             refine pA 10 (some 44) (bA 18 1775) HT_.out ?_
             refine take_ (i := 4) (N := some 38) (v := ?_) (a' := ?_) (bA 18 1791) rfl rfl (take_ofW HT_.out HW_.out (by kernel_rfl)) (fun _ _ _ h => h) (Or.inl ⟨by rfl, ?_⟩) hHeld ?_ ?_
             rotate_left
             ·rintro w' ⟨s0, s1, s2, s3, s4, s5⟩
              go_simp
              with_reducible rfl
             rotate_left
             ·simp only [Act.put, List.setIfInBounds_toArray, List.set_cons_zero, List.set_cons_succ, i64_w, i32_w]
              rfl
             refine take_ (i := 8) (N := some 42) (v := ?_) (a' := ?_) (bA 18 2047) rfl rfl (take_ofW HT_.out HW_.out (by kernel_rfl)) (fun _ _ _ h => h) (Or.inl ⟨by rfl, ?_⟩) hHeld ?_ ?_
             rotate_left
             ·rintro w' ⟨s0, s1, s2, s3, s4, s5⟩
              go_simp
              with_reducible rfl
             rotate_left
             ·simp only [Act.put, List.setIfInBounds_toArray, List.set_cons_zero, List.set_cons_succ, i64_w, i32_w]
              rfl
             refine join_ (σ := Nat) 2 (bA 18 65535) (fun s_ => [(45, .tuple #[.agg #[.int .i64 t220, .int .i64 t221], .int .i64 t222]), (10, .pointer (some ⟨s_, 0, none⟩)), (33, .tuple #[.agg #[.int .i64 t220, .int .i64 t221], .int .i64 t222]), (46, .agg #[.int .i64 t220, .int .i64 t221]), (47, .int .i64 t222)]) (fun s_ w' => (w'.cell? (ad218.add (((ji15)).toNat * 3)) = some (.int .i64 ((rd_T26 l0 (ji15)).f0)) ∧ w'.cell? ⟨(ad218.add (((ji15)).toNat * 3)).block, (ad218.add (((ji15)).toNat * 3)).off + 1, none⟩ = some (.int .i64 ((rd_T26 l0 (ji15)).f1.f0)) ∧ w'.cell? ⟨(ad218.add (((ji15)).toNat * 3)).block, (ad218.add (((ji15)).toNat * 3)).off + 2, none⟩ = some (.int .i64 ((rd_T26 l0 (ji15)).f1.f1)) ∧ w'.cell? (ad218.add ((x9_2).toNat * 3)) = some (.int .i64 ((rd_T26 l0 x9_2).f0)) ∧ w'.cell? ⟨(ad218.add ((x9_2).toNat * 3)).block, (ad218.add ((x9_2).toNat * 3)).off + 1, none⟩ = some (.int .i64 ((rd_T26 l0 x9_2).f1.f0)) ∧ w'.cell? ⟨(ad218.add ((x9_2).toNat * 3)).block, (ad218.add ((x9_2).toNat * 3)).off + 2, none⟩ = some (.int .i64 ((rd_T26 l0 x9_2).f1.f1))) ∧ (Kd.R k26 26 w' w.heap.size (fun _ => True) u8 x8_2) ∧ (w'.heap[s_]? = some (.cells #[.int .i64 0, .int .i64 0] 24 (0, 0))) ∧ (w.heap.size ≤ s_) ∧ (w.heap.size ≤ s_) ∧ (Below w.heap.size w w')) ?_ ?_
             rotate_left
             ·intro hCont
              refine two_ (i := 11) (j := 15) (Ni := some 45) (Nj := some 10) (bA 18 4095) (bA 18 34815) rfl rfl rfl rfl (two_of HT_.out (by kernel_rfl)) (by decide) (by decide) (fun K hK => ?_) (fun K hK => ?_)
              ·skip
               refine goes_ Try.func22 (by kernel_rfl) rfl #[.agg #[.int .i64 ((rd_T26 l0 (ji15)).f0), .int .i64 ((rd_T26 l0 (ji15)).f1.f0), .int .i64 ((rd_T26 l0 (ji15)).f1.f1)], .agg #[.int .i64 ((rd_T26 l0 x9_2).f0), .int .i64 ((rd_T26 l0 x9_2).f1.f0), .int .i64 ((rd_T26 l0 x9_2).f1.f1)], .bool a1, .int .i64 a2] (by rfl) rfl rfl (by (try simp only [List.map_toArray, List.map_cons, List.map_nil]); first | done | (simp only [hji15]; rfl) | rfl | (simp only [List.length_drop, List.length_take]; rfl)) ?_
               with_reducible refine (rate_change.calls k2 ((rd_T26 l0 (ji15)).f0) ((rd_T26 l0 (ji15)).f1.f0) ((rd_T26 l0 (ji15)).f1.f1) ((rd_T26 l0 x9_2).f0) ((rd_T26 l0 x9_2).f1.f0) ((rd_T26 l0 x9_2).f1.f1) a1 a2 t220 t221 t222 _ A19.out).mono ?_
               rintro e w48 ⟨rfl, hb⟩
               refine ⟨_, rfl, ?_⟩
               have n0_ := Aside0.mk (Kd.R_below (rowN HO_8.out) hb)
               have n1_ := Aside0.mk (below_step (belN HB.out) hb)
               clear HO_8
               clear HB
               have HO_8 := n0_
               have HB := n1_
               clear n0_ n1_
               (try clear hb)
               (try clear hk)
               refine hK.out _ _ ⟨(cellB HB.out hw218_0), (cellB HB.out hw218_1), (cellB HB.out hw218_2), (cellB HB.out hw219_0), (cellB HB.out hw219_1), (cellB HB.out hw219_2)⟩ (fun hHeld => ?_)
               clear hK K
               refine norm_ (a' := ?_) ?_ ?_
               rotate_left
               ·show Act.put _ (some 45) _ = _
                simp only [Act.put, List.setIfInBounds_toArray, List.set_cons_zero, List.set_cons_succ, i64_w, i32_w]
                rfl
               refine pA 12 (some 33) (bA 18 8191) HT_.out ?_
               refine pA 13 (some 46) (bA 18 16383) HT_.out ?_
               refine pA 14 (some 47) (bA 18 32767) HT_.out ?_
               refine one_ (i := 15) (N := some 10) (bA 18 65535) rfl rfl (one_of HT_.out (by kernel_rfl)) (by decide) (fun K hK => ?_)
               refine box_step ?hg (N := 10) ?hd (cs := #[.int .i64 0, .int .i64 0]) (t := 24) ?hr ?_; (case hd => rfl); (case hg => rfl); (case hr => first | (go_simp; done) | (go_simp; rfl))
               intro gb223 hg w49 hbox hb
               have n0_ := Aside0.mk (Kd.R_below (rowN HO_8.out) hb)
               have n1_ := Aside0.mk (below_step (belN HB.out) hb)
               have n2_ := Aside0.mk (hbox)
               have n3_ := Aside0.mk (szB hg HB.out)
               have n4_ := Aside0.mk (szB hg HB.out)
               clear HO_8
               clear HB
               have HO_8 := n0_
               have HB := n1_
               have BK223 := n2_
               have GW223 := n3_
               have GE223 := n4_
               clear n0_ n1_ n2_ n3_ n4_
               clear hb hbox hg
               refine hK.out _ _ ⟨(cellB HB.out hw218_0), (cellB HB.out hw218_1), (cellB HB.out hw218_2), (cellB HB.out hw219_0), (cellB HB.out hw219_1), (cellB HB.out hw219_2)⟩ (fun hHeld => ?_)
               clear hK K
               refine norm_ (a' := ?_) ?_ ?_
               rotate_left
               ·show Act.put _ (some 10) _ = _
                simp only [Act.put, List.setIfInBounds_toArray, List.set_cons_zero, List.set_cons_succ, i64_w, i32_w]
                rfl
               exact norm_ (by simp only [putAll, Act.put, List.setIfInBounds_toArray, List.set_cons_zero, List.set_cons_succ]) (hCont (gb223) _ ⟨hHeld, (rowN HO_8.out), (blkN BK223.out), GW223.out, GE223.out, (belS HB.out)⟩)
              ·skip
               refine box_step ?hg (N := 10) ?hd (cs := #[.int .i64 0, .int .i64 0]) (t := 24) ?hr ?_; (case hd => rfl); (case hg => rfl); (case hr => first | (go_simp; done) | (go_simp; rfl))
               intro gb223 hg w48 hbox hb
               have n0_ := Aside0.mk (Kd.R_below (rowN HO_8.out) hb)
               have n1_ := Aside0.mk (below_step (belN HB.out) hb)
               have n2_ := Aside0.mk (hbox)
               have n3_ := Aside0.mk (szB hg HB.out)
               have n4_ := Aside0.mk (szB hg HB.out)
               clear HO_8
               clear HB
               have HO_8 := n0_
               have HB := n1_
               have BK223 := n2_
               have GW223 := n3_
               have GE223 := n4_
               clear n0_ n1_ n2_ n3_ n4_
               clear hb hbox hg
               refine hK.out _ _ ⟨(cellB HB.out hw218_0), (cellB HB.out hw218_1), (cellB HB.out hw218_2), (cellB HB.out hw219_0), (cellB HB.out hw219_1), (cellB HB.out hw219_2)⟩ (fun hHeld => ?_)
               clear hK K
               refine norm_ (a' := ?_) ?_ ?_
               rotate_left
               ·show Act.put _ (some 10) _ = _
                simp only [Act.put, List.setIfInBounds_toArray, List.set_cons_zero, List.set_cons_succ, i64_w, i32_w]
                rfl
               refine one_ (i := 11) (N := some 45) (bA 18 36863) rfl rfl (one_of HT_.out (by kernel_rfl)) (by decide) (fun K hK => ?_)
               refine goes_ Try.func22 (by kernel_rfl) rfl #[.agg #[.int .i64 ((rd_T26 l0 (ji15)).f0), .int .i64 ((rd_T26 l0 (ji15)).f1.f0), .int .i64 ((rd_T26 l0 (ji15)).f1.f1)], .agg #[.int .i64 ((rd_T26 l0 x9_2).f0), .int .i64 ((rd_T26 l0 x9_2).f1.f0), .int .i64 ((rd_T26 l0 x9_2).f1.f1)], .bool a1, .int .i64 a2] (by rfl) rfl rfl (by (try simp only [List.map_toArray, List.map_cons, List.map_nil]); first | done | (simp only [hji15]; rfl) | rfl | (simp only [List.length_drop, List.length_take]; rfl)) ?_
               with_reducible refine (rate_change.calls k2 ((rd_T26 l0 (ji15)).f0) ((rd_T26 l0 (ji15)).f1.f0) ((rd_T26 l0 (ji15)).f1.f1) ((rd_T26 l0 x9_2).f0) ((rd_T26 l0 x9_2).f1.f0) ((rd_T26 l0 x9_2).f1.f1) a1 a2 t220 t221 t222 _ A19.out).mono ?_
               rintro e w49 ⟨rfl, hb⟩
               refine ⟨_, rfl, ?_⟩
               have n0_ := Aside0.mk (Kd.R_below (rowN HO_8.out) hb)
               have n1_ := Aside0.mk (bkB BK223.out hb)
               have n2_ := Aside0.mk (below_step (belS HB.out) hb)
               clear HO_8
               clear BK223
               clear HB
               have HO_8 := n0_
               have BK223 := n1_
               have HB := n2_
               clear n0_ n1_ n2_
               (try clear hb)
               (try clear hk)
               refine hK.out _ _ ⟨(cellB HB.out hw218_0), (cellB HB.out hw218_1), (cellB HB.out hw218_2), (cellB HB.out hw219_0), (cellB HB.out hw219_1), (cellB HB.out hw219_2)⟩ (fun hHeld => ?_)
               clear hK K
               refine norm_ (a' := ?_) ?_ ?_
               rotate_left
               ·show Act.put _ (some 45) _ = _
                simp only [Act.put, List.setIfInBounds_toArray, List.set_cons_zero, List.set_cons_succ, i64_w, i32_w]
                rfl
               refine pA 12 (some 33) (bA 18 40959) HT_.out ?_
               refine pA 13 (some 46) (bA 18 49151) HT_.out ?_
               refine pA 14 (some 47) (bA 18 65535) HT_.out ?_
               exact norm_ (by simp only [putAll, Act.put, List.setIfInBounds_toArray, List.set_cons_zero, List.set_cons_succ]) (hCont (gb223) _ ⟨hHeld, (rowN HO_8.out), (blkN BK223.out), GW223.out, GE223.out, (belS HB.out)⟩)
             rintro gb223 w50 ⟨hS_, h0_, h1_, h2_, h3_, h4_⟩
             have n0_ : Aside0 (Kd.R k26 26 w50 w.heap.size (fun _ => True) u8 x8_2) := ⟨h0_⟩
             have n1_ : Aside0 (w50.heap[gb223]? = some (.cells #[.int .i64 0, .int .i64 0] 24 (0, 0))) := ⟨h1_⟩
             have n2_ : Aside0 (w.heap.size ≤ gb223) := ⟨h2_⟩
             have n3_ : Aside0 (w.heap.size ≤ gb223) := ⟨h3_⟩
             have n4_ : Aside0 (Below w.heap.size w w50) := ⟨h4_⟩
             clear HO_8
             clear HB
             clear h0_ h1_ h2_ h3_ h4_
             have HO_8 := n0_
             have BK223 := n1_
             have GW223 := n2_
             have GE223 := n3_
             have HB := n4_
             clear n0_ n1_ n2_ n3_ n4_
             have hHeld : w50.cell? (ad218.add (((ji15)).toNat * 3)) = some (.int .i64 ((rd_T26 l0 (ji15)).f0)) ∧ w50.cell? ⟨(ad218.add (((ji15)).toNat * 3)).block, (ad218.add (((ji15)).toNat * 3)).off + 1, none⟩ = some (.int .i64 ((rd_T26 l0 (ji15)).f1.f0)) ∧ w50.cell? ⟨(ad218.add (((ji15)).toNat * 3)).block, (ad218.add (((ji15)).toNat * 3)).off + 2, none⟩ = some (.int .i64 ((rd_T26 l0 (ji15)).f1.f1)) ∧ w50.cell? (ad218.add ((x9_2).toNat * 3)) = some (.int .i64 ((rd_T26 l0 x9_2).f0)) ∧ w50.cell? ⟨(ad218.add ((x9_2).toNat * 3)).block, (ad218.add ((x9_2).toNat * 3)).off + 1, none⟩ = some (.int .i64 ((rd_T26 l0 x9_2).f1.f0)) ∧ w50.cell? ⟨(ad218.add ((x9_2).toNat * 3)).block, (ad218.add ((x9_2).toNat * 3)).off + 2, none⟩ = some (.int .i64 ((rd_T26 l0 x9_2).f1.f1)) := hS_
             refine norm_ (a' := ?_) ?_ ?_
             rotate_left
             ·simp only [putAll, Act.put, List.setIfInBounds_toArray, List.set_cons_zero, List.set_cons_succ]
              rfl
             refine one_ (i := 16) (N := none) (bA 18 131071) rfl rfl (one_of HT_.out (by kernel_rfl)) (by decide) (fun K hK => ?_)
             have hs51 : w50.cell? ⟨gb223, 0, none⟩ = some (.int .i64 0) := (blk_cell BK223.out 0).trans rfl
             have hfs51 := blk_frozen BK223.out 0
             have hs52 : w50.cell? ⟨gb223, 1, none⟩ = some (.int .i64 0) := (blk_cell BK223.out 1).trans rfl
             have hfs52 := blk_frozen BK223.out 1
             refine skip_ (w1 := ?_) (by rfl) rfl ?_ ?_
             rotate_left
             ·go_simp
              rfl
             refine hK.out _ _ ⟨((cell_far (p := ⟨gb223, _, none⟩) (by first | exact cellNe hw218_0 GW223.out | (rw [add_block]; exact cellNe hw218_0 GW223.out) | (show (Addr.add _ _).block ≠ _; rw [add_block]; exact cellNe hw218_0 GW223.out) | (dsimp only; exact cellNe hw218_0 GW223.out)) _).trans (((cell_far (p := ⟨gb223, _, none⟩) (by first | exact cellNe hw218_0 GW223.out | (rw [add_block]; exact cellNe hw218_0 GW223.out) | (show (Addr.add _ _).block ≠ _; rw [add_block]; exact cellNe hw218_0 GW223.out) | (dsimp only; exact cellNe hw218_0 GW223.out)) _).trans (hHeld.1)))), ((cell_far (p := ⟨gb223, _, none⟩) (by first | exact cellNe hw218_1 GW223.out | (rw [add_block]; exact cellNe hw218_1 GW223.out) | (show (Addr.add _ _).block ≠ _; rw [add_block]; exact cellNe hw218_1 GW223.out) | (dsimp only; exact cellNe hw218_1 GW223.out)) _).trans (((cell_far (p := ⟨gb223, _, none⟩) (by first | exact cellNe hw218_1 GW223.out | (rw [add_block]; exact cellNe hw218_1 GW223.out) | (show (Addr.add _ _).block ≠ _; rw [add_block]; exact cellNe hw218_1 GW223.out) | (dsimp only; exact cellNe hw218_1 GW223.out)) _).trans (hHeld.2.1)))), ((cell_far (p := ⟨gb223, _, none⟩) (by first | exact cellNe hw218_2 GW223.out | (rw [add_block]; exact cellNe hw218_2 GW223.out) | (show (Addr.add _ _).block ≠ _; rw [add_block]; exact cellNe hw218_2 GW223.out) | (dsimp only; exact cellNe hw218_2 GW223.out)) _).trans (((cell_far (p := ⟨gb223, _, none⟩) (by first | exact cellNe hw218_2 GW223.out | (rw [add_block]; exact cellNe hw218_2 GW223.out) | (show (Addr.add _ _).block ≠ _; rw [add_block]; exact cellNe hw218_2 GW223.out) | (dsimp only; exact cellNe hw218_2 GW223.out)) _).trans (hHeld.2.2.1)))), ((cell_far (p := ⟨gb223, _, none⟩) (by first | exact cellNe hw219_0 GW223.out | (rw [add_block]; exact cellNe hw219_0 GW223.out) | (show (Addr.add _ _).block ≠ _; rw [add_block]; exact cellNe hw219_0 GW223.out) | (dsimp only; exact cellNe hw219_0 GW223.out)) _).trans (((cell_far (p := ⟨gb223, _, none⟩) (by first | exact cellNe hw219_0 GW223.out | (rw [add_block]; exact cellNe hw219_0 GW223.out) | (show (Addr.add _ _).block ≠ _; rw [add_block]; exact cellNe hw219_0 GW223.out) | (dsimp only; exact cellNe hw219_0 GW223.out)) _).trans (hHeld.2.2.2.1)))), ((cell_far (p := ⟨gb223, _, none⟩) (by first | exact cellNe hw219_1 GW223.out | (rw [add_block]; exact cellNe hw219_1 GW223.out) | (show (Addr.add _ _).block ≠ _; rw [add_block]; exact cellNe hw219_1 GW223.out) | (dsimp only; exact cellNe hw219_1 GW223.out)) _).trans (((cell_far (p := ⟨gb223, _, none⟩) (by first | exact cellNe hw219_1 GW223.out | (rw [add_block]; exact cellNe hw219_1 GW223.out) | (show (Addr.add _ _).block ≠ _; rw [add_block]; exact cellNe hw219_1 GW223.out) | (dsimp only; exact cellNe hw219_1 GW223.out)) _).trans (hHeld.2.2.2.2.1)))), ((cell_far (p := ⟨gb223, _, none⟩) (by first | exact cellNe hw219_2 GW223.out | (rw [add_block]; exact cellNe hw219_2 GW223.out) | (show (Addr.add _ _).block ≠ _; rw [add_block]; exact cellNe hw219_2 GW223.out) | (dsimp only; exact cellNe hw219_2 GW223.out)) _).trans (((cell_far (p := ⟨gb223, _, none⟩) (by first | exact cellNe hw219_2 GW223.out | (rw [add_block]; exact cellNe hw219_2 GW223.out) | (show (Addr.add _ _).block ≠ _; rw [add_block]; exact cellNe hw219_2 GW223.out) | (dsimp only; exact cellNe hw219_2 GW223.out)) _).trans (hHeld.2.2.2.2.2))))⟩ (fun hHeld => ?_)
             clear hK K
             refine pA 17 (some 11) (bA 18 262143) HT_.out ?_
             refine done_ (done_of HT_.out (by kernel_rfl)) ?_
             try go_wp2
             have n0_ : Aside0 (Kd.R k26 26 ((w50.setCell ⟨gb223, 0, none⟩ (.int .i64 t220)).setCell ⟨gb223, 1, none⟩ (.int .i64 t221)) w.heap.size (fun _ => True) u8 x8_2) := ⟨by (with_reducible repeat (first | apply Kd.R_alloc | apply Kd.R_drewN | apply Kd.R_drew)); exact Kd.R_mono (Kd.R_far (p := ⟨gb223, 1, none⟩) (Kd.R_far (p := ⟨gb223, 0, none⟩) (Kd.R_types HO_8.out BK223.out (by decide)) (fun _ hk => hk.2) (.int .i64 t220)) (fun _ hk => hk.2) (.int .i64 t221)) (fun _ hk => trivial)⟩
             have n1_ : Aside0 (((w50.setCell ⟨gb223, 0, none⟩ (.int .i64 t220)).setCell ⟨gb223, 1, none⟩ (.int .i64 t221)).heap[gb223]? = some (.cells #[.int .i64 t220, .int .i64 t221] 24 (0, 0))) := ⟨by (with_reducible repeat (first | refine blk_drewN ?_ _ | refine blk_drew ?_ | refine blk_alloc ?_ _)); refine blk_put (cs := #[.int .i64 t220, .int .i64 0]) ?_ 1 _ rfl; (with_reducible repeat (first | refine blk_drewN ?_ _ | refine blk_drew ?_ | refine blk_alloc ?_ _)); refine blk_put (cs := #[.int .i64 0, .int .i64 0]) ?_ 0 _ rfl; (with_reducible repeat (first | refine blk_drewN ?_ _ | refine blk_drew ?_ | refine blk_alloc ?_ _)); exact BK223.out⟩
             have n2_ : Aside0 (Below w.heap.size w ((w50.setCell ⟨gb223, 0, none⟩ (.int .i64 t220)).setCell ⟨gb223, 1, none⟩ (.int .i64 t221))) := ⟨(belS HB.out)⟩
             (try clear HO_8)
             (try clear BK223)
             (try clear HB)
             generalize ((w50.setCell ⟨gb223, 0, none⟩ (.int .i64 t220)).setCell ⟨gb223, 1, none⟩ (.int .i64 t221)) = w53 at n0_ n1_ n2_ ⊢
             have HO_8 := n0_
             have BK223 := n1_
             have HB := n2_
             clear n0_ n1_ n2_
             have n0_ := Aside0.mk (Kd.R_drew HO_8.out)
             have n1_ := Aside0.mk (blk_drew BK223.out)
             have n2_ := Aside0.mk (below_drew1 HB.out)
             clear HO_8
             clear BK223
             clear HB
             have HO_8 := n0_
             have BK223 := n1_
             have HB := n2_
             clear n0_ n1_ n2_
             have p224 : 0 ≤ (x9_2 : Int) := of_decide_eq_true (by first | (with_reducible assumption) | assumption)
             have q224 : x9_2 < (l0.length : Int) := of_decide_eq_true (by first | (with_reducible assumption) | assumption)
             obtain ⟨ad224, e224, hx224_0, hx224_1, hx224_2⟩ := at_T26 HR0.out x9_2 p224 q224
             have hw224_2 := hx224_2
             have hw224_1 := hx224_1
             have hw224_0 := hx224_0
             obtain rfl : ad218 = ad224 := (by injection e224)
             replace hx224_0 := cellB HB.out hx224_0
             replace hx224_1 := cellB HB.out hx224_1
             replace hx224_2 := cellB HB.out hx224_2
             replace p224 := eq_true p224
             replace q224 := eq_true q224
             have p225 : 0 ≤ ((ji15) : Int) := of_decide_eq_true (by first | (with_reducible assumption) | assumption)
             have q225 : (ji15) < (l0.length : Int) := of_decide_eq_true (by first | (with_reducible assumption) | assumption)
             obtain ⟨ad225, e225, hx225_0, hx225_1, hx225_2⟩ := at_T26 HR0.out (ji15) p225 q225
             have hw225_2 := hx225_2
             have hw225_1 := hx225_1
             have hw225_0 := hx225_0
             obtain rfl : ad218 = ad225 := (by injection e225)
             replace hx225_0 := cellB HB.out hx225_0
             replace hx225_1 := cellB HB.out hx225_1
             replace hx225_2 := cellB HB.out hx225_2
             replace p225 := eq_true p225
             replace q225 := eq_true q225
             refine start_ (n := 19) (S := fun w' => w'.cell? (ad218.add ((x9_2).toNat * 3)) = some (.int .i64 ((rd_T26 l0 x9_2).f0)) ∧ w'.cell? ⟨(ad218.add ((x9_2).toNat * 3)).block, (ad218.add ((x9_2).toNat * 3)).off + 1, none⟩ = some (.int .i64 ((rd_T26 l0 x9_2).f1.f0)) ∧ w'.cell? ⟨(ad218.add ((x9_2).toNat * 3)).block, (ad218.add ((x9_2).toNat * 3)).off + 2, none⟩ = some (.int .i64 ((rd_T26 l0 x9_2).f1.f1)) ∧ w'.cell? (ad218.add (((ji15)).toNat * 3)) = some (.int .i64 ((rd_T26 l0 (ji15)).f0)) ∧ w'.cell? ⟨(ad218.add (((ji15)).toNat * 3)).block, (ad218.add (((ji15)).toNat * 3)).off + 1, none⟩ = some (.int .i64 ((rd_T26 l0 (ji15)).f1.f0)) ∧ w'.cell? ⟨(ad218.add (((ji15)).toNat * 3)).block, (ad218.add (((ji15)).toNat * 3)).off + 2, none⟩ = some (.int .i64 ((rd_T26 l0 (ji15)).f1.f1))) (ds := []) #[false, false, false, false, false, false, false, false, false, false, false, false, false, false, false, false, false, false, false] (by kernel_rfl) rfl rfl ⟨(cellB HB.out hw224_0), (cellB HB.out hw224_1), (cellB HB.out hw224_2), (cellB HB.out hw225_0), (cellB HB.out hw225_1), (cellB HB.out hw225_2)⟩ (fun hHeld => ?_); refine with_tabW rate_Do.tab10 rate_Do.bits10 (fun HT_ HW_ => ?_)
             generalize w53.drew = w54 at HO_8 BK223 HB hx224_0 hx224_1 hx224_2 hx225_0 hx225_1 hx225_2 hHeld ⊢
             refine pA 0 (some 52) (bA 19 1) HT_.out ?_
             refine pA 1 (some 53) (bA 19 3) HT_.out ?_
             refine pA 2 (some 54) (bA 19 7) HT_.out ?_
             refine pA 3 (some 55) (bA 19 15) HT_.out ?_
             refine pA 5 (some 57) (bA 19 47) HT_.out ?_
             refine pA 6 (some 58) (bA 19 111) HT_.out ?_
             refine pA 7 (some 59) (bA 19 239) HT_.out ?_
             refine pA 8 (some 60) (bA 19 495) HT_.out ?_
             refine pA 9 (some 61) (bA 19 1007) HT_.out ?_
             refine take_ (i := 4) (N := some 56) (v := ?_) (a' := ?_) (bA 19 1023) rfl rfl (take_ofW HT_.out HW_.out (by kernel_rfl)) (fun _ _ _ h => h) (Or.inl ⟨by rfl, ?_⟩) hHeld ?_ ?_
             rotate_left
             ·rintro w' ⟨s0, s1, s2, s3, s4, s5⟩
              go_simp
              with_reducible rfl
             rotate_left
             ·simp only [Act.put, List.setIfInBounds_toArray, List.set_cons_zero, List.set_cons_succ, i64_w, i32_w]
              rfl
             refine take_ (i := 10) (N := some 62) (v := ?_) (a' := ?_) (bA 19 2047) rfl rfl (take_ofW HT_.out HW_.out (by kernel_rfl)) (fun _ _ _ h => h) (Or.inl ⟨by rfl, ?_⟩) hHeld ?_ ?_
             rotate_left
             ·rintro w' ⟨s0, s1, s2, s3, s4, s5⟩
              go_simp
              with_reducible rfl
             rotate_left
             ·simp only [Act.put, List.setIfInBounds_toArray, List.set_cons_zero, List.set_cons_succ, i64_w, i32_w]
              rfl
             refine pA 11 (some 63) (bA 19 4095) HT_.out ?_
             refine join_ (σ := Nat) 2 (bA 19 131071) (fun s_ => [(64, .tuple #[.agg #[.int .i64 t226, .int .i64 t227], .int .i64 t228]), (12, .pointer (some ⟨s_, 0, none⟩)), (51, .tuple #[.agg #[.int .i64 t226, .int .i64 t227], .int .i64 t228]), (65, .agg #[.int .i64 t226, .int .i64 t227]), (66, .int .i64 t228)]) (fun s_ w' => (w'.cell? (ad218.add ((x9_2).toNat * 3)) = some (.int .i64 ((rd_T26 l0 x9_2).f0)) ∧ w'.cell? ⟨(ad218.add ((x9_2).toNat * 3)).block, (ad218.add ((x9_2).toNat * 3)).off + 1, none⟩ = some (.int .i64 ((rd_T26 l0 x9_2).f1.f0)) ∧ w'.cell? ⟨(ad218.add ((x9_2).toNat * 3)).block, (ad218.add ((x9_2).toNat * 3)).off + 2, none⟩ = some (.int .i64 ((rd_T26 l0 x9_2).f1.f1)) ∧ w'.cell? (ad218.add (((ji15)).toNat * 3)) = some (.int .i64 ((rd_T26 l0 (ji15)).f0)) ∧ w'.cell? ⟨(ad218.add (((ji15)).toNat * 3)).block, (ad218.add (((ji15)).toNat * 3)).off + 1, none⟩ = some (.int .i64 ((rd_T26 l0 (ji15)).f1.f0)) ∧ w'.cell? ⟨(ad218.add (((ji15)).toNat * 3)).block, (ad218.add (((ji15)).toNat * 3)).off + 2, none⟩ = some (.int .i64 ((rd_T26 l0 (ji15)).f1.f1))) ∧ (Kd.R k26 26 w' w.heap.size (fun _ => True) u8 x8_2) ∧ (w'.heap[gb223]? = some (.cells #[.int .i64 t220, .int .i64 t221] 24 (0, 0))) ∧ (w'.heap[s_]? = some (.cells #[.int .i64 0, .int .i64 0] 24 (0, 0))) ∧ (w.heap.size ≤ s_) ∧ (w.heap.size ≤ s_) ∧ (gb223 ≠ s_) ∧ (s_ ≠ gb223) ∧ (Below w.heap.size w w')) ?_ ?_
             rotate_left
             ·intro hCont
              refine two_ (i := 12) (j := 16) (Ni := some 64) (Nj := some 12) (bA 19 8191) (bA 19 69631) rfl rfl rfl rfl (two_of HT_.out (by kernel_rfl)) (by decide) (by decide) (fun K hK => ?_) (fun K hK => ?_)
              ·skip
               refine goes_ Try.func23 (by kernel_rfl) rfl #[.int .i64 (wrap64 (((rd_T26 l0 x9_2).f0) - ((rd_T26 l0 (ji15)).f0)))] (by rfl) rfl rfl (by (try simp only [List.map_toArray, List.map_cons, List.map_nil]); first | done | (simp only [hji15]; rfl) | rfl | (simp only [List.length_drop, List.length_take]; rfl)) ?_
               with_reducible refine (rat_Of.calls k2 (wrap64 (((rd_T26 l0 x9_2).f0) - ((rd_T26 l0 (ji15)).f0))) t226 t227 t228 _ A21.out).mono ?_
               rintro e w55 ⟨rfl, hb⟩
               refine ⟨_, rfl, ?_⟩
               have n0_ := Aside0.mk (Kd.R_below (rowN HO_8.out) hb)
               have n1_ := Aside0.mk (bkB BK223.out hb)
               have n2_ := Aside0.mk (below_step (belS HB.out) hb)
               clear HO_8
               clear BK223
               clear HB
               have HO_8 := n0_
               have BK223 := n1_
               have HB := n2_
               clear n0_ n1_ n2_
               (try clear hb)
               (try clear hk)
               refine hK.out _ _ ⟨(cellB HB.out hw224_0), (cellB HB.out hw224_1), (cellB HB.out hw224_2), (cellB HB.out hw225_0), (cellB HB.out hw225_1), (cellB HB.out hw225_2)⟩ (fun hHeld => ?_)
               clear hK K
               refine norm_ (a' := ?_) ?_ ?_
               rotate_left
               ·show Act.put _ (some 64) _ = _
                simp only [Act.put, List.setIfInBounds_toArray, List.set_cons_zero, List.set_cons_succ, i64_w, i32_w]
                rfl
               refine pA 13 (some 51) (bA 19 16383) HT_.out ?_
               refine pA 14 (some 65) (bA 19 32767) HT_.out ?_
               refine pA 15 (some 66) (bA 19 65535) HT_.out ?_
               refine one_ (i := 16) (N := some 12) (bA 19 131071) rfl rfl (one_of HT_.out (by kernel_rfl)) (by decide) (fun K hK => ?_)
               refine box_step ?hg (N := 12) ?hd (cs := #[.int .i64 0, .int .i64 0]) (t := 24) ?hr ?_; (case hd => rfl); (case hg => rfl); (case hr => first | (go_simp; done) | (go_simp; rfl))
               intro gb229 hg w56 hbox hb
               have n0_ := Aside0.mk (Kd.R_below (rowN HO_8.out) hb)
               have n1_ := Aside0.mk (bkB BK223.out hb)
               have n2_ := Aside0.mk (below_step (belS HB.out) hb)
               have n3_ := Aside0.mk (hbox)
               have n4_ := Aside0.mk (szB hg HB.out)
               have n5_ := Aside0.mk (szB hg HB.out)
               have n6_ := Aside0.mk ((bk1 hg BK223.out))
               have n7_ := Aside0.mk ((bk2 hg BK223.out))
               clear HO_8
               clear BK223
               clear HB
               have HO_8 := n0_
               have BK223 := n1_
               have HB := n2_
               have BK229 := n3_
               have GW229 := n4_
               have GE229 := n5_
               have NB223_229 := n6_
               have NB229_223 := n7_
               clear n0_ n1_ n2_ n3_ n4_ n5_ n6_ n7_
               clear hb hbox hg
               refine hK.out _ _ ⟨(cellB HB.out hw224_0), (cellB HB.out hw224_1), (cellB HB.out hw224_2), (cellB HB.out hw225_0), (cellB HB.out hw225_1), (cellB HB.out hw225_2)⟩ (fun hHeld => ?_)
               clear hK K
               refine norm_ (a' := ?_) ?_ ?_
               rotate_left
               ·show Act.put _ (some 12) _ = _
                simp only [Act.put, List.setIfInBounds_toArray, List.set_cons_zero, List.set_cons_succ, i64_w, i32_w]
                rfl
               exact norm_ (by simp only [putAll, Act.put, List.setIfInBounds_toArray, List.set_cons_zero, List.set_cons_succ]) (hCont (gb229) _ ⟨hHeld, (rowN HO_8.out), (blkN BK223.out), (blkN BK229.out), GW229.out, GE229.out, NB223_229.out, NB229_223.out, (belS HB.out)⟩)
              ·skip
               refine box_step ?hg (N := 12) ?hd (cs := #[.int .i64 0, .int .i64 0]) (t := 24) ?hr ?_; (case hd => rfl); (case hg => rfl); (case hr => first | (go_simp; done) | (go_simp; rfl))
               intro gb229 hg w55 hbox hb
               have n0_ := Aside0.mk (Kd.R_below (rowN HO_8.out) hb)
               have n1_ := Aside0.mk (bkB BK223.out hb)
               have n2_ := Aside0.mk (below_step (belS HB.out) hb)
               have n3_ := Aside0.mk (hbox)
               have n4_ := Aside0.mk (szB hg HB.out)
               have n5_ := Aside0.mk (szB hg HB.out)
               have n6_ := Aside0.mk ((bk1 hg BK223.out))
               have n7_ := Aside0.mk ((bk2 hg BK223.out))
               clear HO_8
               clear BK223
               clear HB
               have HO_8 := n0_
               have BK223 := n1_
               have HB := n2_
               have BK229 := n3_
               have GW229 := n4_
               have GE229 := n5_
               have NB223_229 := n6_
               have NB229_223 := n7_
               clear n0_ n1_ n2_ n3_ n4_ n5_ n6_ n7_
               clear hb hbox hg
               refine hK.out _ _ ⟨(cellB HB.out hw224_0), (cellB HB.out hw224_1), (cellB HB.out hw224_2), (cellB HB.out hw225_0), (cellB HB.out hw225_1), (cellB HB.out hw225_2)⟩ (fun hHeld => ?_)
               clear hK K
               refine norm_ (a' := ?_) ?_ ?_
               rotate_left
               ·show Act.put _ (some 12) _ = _
                simp only [Act.put, List.setIfInBounds_toArray, List.set_cons_zero, List.set_cons_succ, i64_w, i32_w]
                rfl
               refine one_ (i := 12) (N := some 64) (bA 19 73727) rfl rfl (one_of HT_.out (by kernel_rfl)) (by decide) (fun K hK => ?_)
               refine goes_ Try.func23 (by kernel_rfl) rfl #[.int .i64 (wrap64 (((rd_T26 l0 x9_2).f0) - ((rd_T26 l0 (ji15)).f0)))] (by rfl) rfl rfl (by (try simp only [List.map_toArray, List.map_cons, List.map_nil]); first | done | (simp only [hji15]; rfl) | rfl | (simp only [List.length_drop, List.length_take]; rfl)) ?_
               with_reducible refine (rat_Of.calls k2 (wrap64 (((rd_T26 l0 x9_2).f0) - ((rd_T26 l0 (ji15)).f0))) t226 t227 t228 _ A21.out).mono ?_
               rintro e w56 ⟨rfl, hb⟩
               refine ⟨_, rfl, ?_⟩
               have n0_ := Aside0.mk (Kd.R_below (rowN HO_8.out) hb)
               have n1_ := Aside0.mk (bkB BK223.out hb)
               have n2_ := Aside0.mk (bkB BK229.out hb)
               have n3_ := Aside0.mk (below_step (belS HB.out) hb)
               clear HO_8
               clear BK223
               clear BK229
               clear HB
               have HO_8 := n0_
               have BK223 := n1_
               have BK229 := n2_
               have HB := n3_
               clear n0_ n1_ n2_ n3_
               (try clear hb)
               (try clear hk)
               refine hK.out _ _ ⟨(cellB HB.out hw224_0), (cellB HB.out hw224_1), (cellB HB.out hw224_2), (cellB HB.out hw225_0), (cellB HB.out hw225_1), (cellB HB.out hw225_2)⟩ (fun hHeld => ?_)
               clear hK K
               refine norm_ (a' := ?_) ?_ ?_
               rotate_left
               ·show Act.put _ (some 64) _ = _
                simp only [Act.put, List.setIfInBounds_toArray, List.set_cons_zero, List.set_cons_succ, i64_w, i32_w]
                rfl
               refine pA 13 (some 51) (bA 19 81919) HT_.out ?_
               refine pA 14 (some 65) (bA 19 98303) HT_.out ?_
               refine pA 15 (some 66) (bA 19 131071) HT_.out ?_
               exact norm_ (by simp only [putAll, Act.put, List.setIfInBounds_toArray, List.set_cons_zero, List.set_cons_succ]) (hCont (gb229) _ ⟨hHeld, (rowN HO_8.out), (blkN BK223.out), (blkN BK229.out), GW229.out, GE229.out, NB223_229.out, NB229_223.out, (belS HB.out)⟩)
             rintro gb229 w57 ⟨hS_, h0_, h1_, h2_, h3_, h4_, h5_, h6_, h7_⟩
             have n0_ : Aside0 (Kd.R k26 26 w57 w.heap.size (fun _ => True) u8 x8_2) := ⟨h0_⟩
             have n1_ : Aside0 (w57.heap[gb223]? = some (.cells #[.int .i64 t220, .int .i64 t221] 24 (0, 0))) := ⟨h1_⟩
             have n2_ : Aside0 (w57.heap[gb229]? = some (.cells #[.int .i64 0, .int .i64 0] 24 (0, 0))) := ⟨h2_⟩
             have n3_ : Aside0 (w.heap.size ≤ gb229) := ⟨h3_⟩
             have n4_ : Aside0 (w.heap.size ≤ gb229) := ⟨h4_⟩
             have n5_ : Aside0 (gb223 ≠ gb229) := ⟨h5_⟩
             have n6_ : Aside0 (gb229 ≠ gb223) := ⟨h6_⟩
             have n7_ : Aside0 (Below w.heap.size w w57) := ⟨h7_⟩
             clear HO_8
             clear BK223
             clear HB
             clear h0_ h1_ h2_ h3_ h4_ h5_ h6_ h7_
             have HO_8 := n0_
             have BK223 := n1_
             have BK229 := n2_
             have GW229 := n3_
             have GE229 := n4_
             have NB223_229 := n5_
             have NB229_223 := n6_
             have HB := n7_
             clear n0_ n1_ n2_ n3_ n4_ n5_ n6_ n7_
             have hHeld : w57.cell? (ad218.add ((x9_2).toNat * 3)) = some (.int .i64 ((rd_T26 l0 x9_2).f0)) ∧ w57.cell? ⟨(ad218.add ((x9_2).toNat * 3)).block, (ad218.add ((x9_2).toNat * 3)).off + 1, none⟩ = some (.int .i64 ((rd_T26 l0 x9_2).f1.f0)) ∧ w57.cell? ⟨(ad218.add ((x9_2).toNat * 3)).block, (ad218.add ((x9_2).toNat * 3)).off + 2, none⟩ = some (.int .i64 ((rd_T26 l0 x9_2).f1.f1)) ∧ w57.cell? (ad218.add (((ji15)).toNat * 3)) = some (.int .i64 ((rd_T26 l0 (ji15)).f0)) ∧ w57.cell? ⟨(ad218.add (((ji15)).toNat * 3)).block, (ad218.add (((ji15)).toNat * 3)).off + 1, none⟩ = some (.int .i64 ((rd_T26 l0 (ji15)).f1.f0)) ∧ w57.cell? ⟨(ad218.add (((ji15)).toNat * 3)).block, (ad218.add (((ji15)).toNat * 3)).off + 2, none⟩ = some (.int .i64 ((rd_T26 l0 (ji15)).f1.f1)) := hS_
             refine norm_ (a' := ?_) ?_ ?_
             rotate_left
             ·simp only [putAll, Act.put, List.setIfInBounds_toArray, List.set_cons_zero, List.set_cons_succ]
              rfl
             refine one_ (i := 17) (N := none) (bA 19 262143) rfl rfl (one_of HT_.out (by kernel_rfl)) (by decide) (fun K hK => ?_)
             have hs58 : w57.cell? ⟨gb229, 0, none⟩ = some (.int .i64 0) := (blk_cell BK229.out 0).trans rfl
             have hfs58 := blk_frozen BK229.out 0
             have hns58_0 := NB223_229.out
             have hms58_0 := NB229_223.out
             have hs59 : w57.cell? ⟨gb229, 1, none⟩ = some (.int .i64 0) := (blk_cell BK229.out 1).trans rfl
             have hfs59 := blk_frozen BK229.out 1
             have hns59_0 := NB223_229.out
             have hms59_0 := NB229_223.out
             refine skip_ (w1 := ?_) (by rfl) rfl ?_ ?_
             rotate_left
             ·go_simp
              rfl
             refine hK.out _ _ ⟨((cell_far (p := ⟨gb229, _, none⟩) (by first | exact cellNe hw224_0 GW229.out | (rw [add_block]; exact cellNe hw224_0 GW229.out) | (show (Addr.add _ _).block ≠ _; rw [add_block]; exact cellNe hw224_0 GW229.out) | (dsimp only; exact cellNe hw224_0 GW229.out)) _).trans (((cell_far (p := ⟨gb229, _, none⟩) (by first | exact cellNe hw224_0 GW229.out | (rw [add_block]; exact cellNe hw224_0 GW229.out) | (show (Addr.add _ _).block ≠ _; rw [add_block]; exact cellNe hw224_0 GW229.out) | (dsimp only; exact cellNe hw224_0 GW229.out)) _).trans (hHeld.1)))), ((cell_far (p := ⟨gb229, _, none⟩) (by first | exact cellNe hw224_1 GW229.out | (rw [add_block]; exact cellNe hw224_1 GW229.out) | (show (Addr.add _ _).block ≠ _; rw [add_block]; exact cellNe hw224_1 GW229.out) | (dsimp only; exact cellNe hw224_1 GW229.out)) _).trans (((cell_far (p := ⟨gb229, _, none⟩) (by first | exact cellNe hw224_1 GW229.out | (rw [add_block]; exact cellNe hw224_1 GW229.out) | (show (Addr.add _ _).block ≠ _; rw [add_block]; exact cellNe hw224_1 GW229.out) | (dsimp only; exact cellNe hw224_1 GW229.out)) _).trans (hHeld.2.1)))), ((cell_far (p := ⟨gb229, _, none⟩) (by first | exact cellNe hw224_2 GW229.out | (rw [add_block]; exact cellNe hw224_2 GW229.out) | (show (Addr.add _ _).block ≠ _; rw [add_block]; exact cellNe hw224_2 GW229.out) | (dsimp only; exact cellNe hw224_2 GW229.out)) _).trans (((cell_far (p := ⟨gb229, _, none⟩) (by first | exact cellNe hw224_2 GW229.out | (rw [add_block]; exact cellNe hw224_2 GW229.out) | (show (Addr.add _ _).block ≠ _; rw [add_block]; exact cellNe hw224_2 GW229.out) | (dsimp only; exact cellNe hw224_2 GW229.out)) _).trans (hHeld.2.2.1)))), ((cell_far (p := ⟨gb229, _, none⟩) (by first | exact cellNe hw225_0 GW229.out | (rw [add_block]; exact cellNe hw225_0 GW229.out) | (show (Addr.add _ _).block ≠ _; rw [add_block]; exact cellNe hw225_0 GW229.out) | (dsimp only; exact cellNe hw225_0 GW229.out)) _).trans (((cell_far (p := ⟨gb229, _, none⟩) (by first | exact cellNe hw225_0 GW229.out | (rw [add_block]; exact cellNe hw225_0 GW229.out) | (show (Addr.add _ _).block ≠ _; rw [add_block]; exact cellNe hw225_0 GW229.out) | (dsimp only; exact cellNe hw225_0 GW229.out)) _).trans (hHeld.2.2.2.1)))), ((cell_far (p := ⟨gb229, _, none⟩) (by first | exact cellNe hw225_1 GW229.out | (rw [add_block]; exact cellNe hw225_1 GW229.out) | (show (Addr.add _ _).block ≠ _; rw [add_block]; exact cellNe hw225_1 GW229.out) | (dsimp only; exact cellNe hw225_1 GW229.out)) _).trans (((cell_far (p := ⟨gb229, _, none⟩) (by first | exact cellNe hw225_1 GW229.out | (rw [add_block]; exact cellNe hw225_1 GW229.out) | (show (Addr.add _ _).block ≠ _; rw [add_block]; exact cellNe hw225_1 GW229.out) | (dsimp only; exact cellNe hw225_1 GW229.out)) _).trans (hHeld.2.2.2.2.1)))), ((cell_far (p := ⟨gb229, _, none⟩) (by first | exact cellNe hw225_2 GW229.out | (rw [add_block]; exact cellNe hw225_2 GW229.out) | (show (Addr.add _ _).block ≠ _; rw [add_block]; exact cellNe hw225_2 GW229.out) | (dsimp only; exact cellNe hw225_2 GW229.out)) _).trans (((cell_far (p := ⟨gb229, _, none⟩) (by first | exact cellNe hw225_2 GW229.out | (rw [add_block]; exact cellNe hw225_2 GW229.out) | (show (Addr.add _ _).block ≠ _; rw [add_block]; exact cellNe hw225_2 GW229.out) | (dsimp only; exact cellNe hw225_2 GW229.out)) _).trans (hHeld.2.2.2.2.2))))⟩ (fun hHeld => ?_)
             clear hK K
             refine pA 18 (some 11) (bA 19 524287) HT_.out ?_
             refine done_ (done_of HT_.out (by kernel_rfl)) ?_
             have hnb60 := NB223_229.out
             have hnc60 := NB229_223.out
             have hcz61_0 : w57.cell? ⟨gb223, 0, none⟩ = some (.int .i64 t220) := (blk_cell BK223.out 0).trans rfl
             have hcz61_1 : w57.cell? ⟨gb223, 1, none⟩ = some (.int .i64 t221) := (blk_cell BK223.out 1).trans rfl
             have hfz61_0 := blk_frozen BK223.out 0
             have hfz61_1 := blk_frozen BK223.out 1
             have hcz62_0 : w57.cell? ⟨gb229, 0, none⟩ = some (.int .i64 0) := (blk_cell BK229.out 0).trans rfl
             have hcz62_1 : w57.cell? ⟨gb229, 1, none⟩ = some (.int .i64 0) := (blk_cell BK229.out 1).trans rfl
             have hfz62_0 := blk_frozen BK229.out 0
             have hfz62_1 := blk_frozen BK229.out 1
             try go_wp2_with (first | ((with_reducible refine gate_callee (f := 24) rfl ?_); refine goesL_ (some 73) rfl rfl Try.func24 (by kernel_rfl) rfl #[.agg #[.int .i64 t220, .int .i64 t221], .agg #[.int .i64 t226, .int .i64 t227]] rfl argN ?_; (with_reducible refine (rat_Div.calls k2 t220 t221 t226 t227 t230 t231 t232 _ A23.out).mono ?_); rintro e w63 ⟨rfl, hb⟩; refine ⟨_, rfl, ?_⟩; have n0_ := Aside0.mk (Kd.R_below (by (with_reducible repeat (first | apply Kd.R_alloc | apply Kd.R_drewN | apply Kd.R_drew)); exact (Kd.R_mono (Kd.R_far (p := ⟨gb229, 1, none⟩) (Kd.R_far (p := ⟨gb229, 0, none⟩) (Kd.R_types HO_8.out BK229.out (by decide)) (fun _ hk => hk.2) (.int .i64 t226)) (fun _ hk => hk.2) (.int .i64 t227)) (fun _ h_ => h_.1))) hb); have n1_ := Aside0.mk (bkBF BK223.out hb); have n2_ := Aside0.mk (blk_below (g := gb229) (o := .cells #[.int .i64 t226, .int .i64 t227] 24 (0, 0)) (by (with_reducible repeat (first | refine blk_drewN ?_ _ | refine blk_drew ?_ | refine blk_alloc ?_ _)); refine blk_put (cs := #[.int .i64 t226, .int .i64 0]) ?_ 1 _ rfl; (with_reducible repeat (first | refine blk_drewN ?_ _ | refine blk_drew ?_ | refine blk_alloc ?_ _)); refine blk_put (cs := #[.int .i64 0, .int .i64 0]) ?_ 0 _ rfl; (with_reducible repeat (first | refine blk_drewN ?_ _ | refine blk_drew ?_ | refine blk_alloc ?_ _)); exact BK229.out) hb); have n3_ := Aside0.mk (below_step (belS HB.out) hb); clear HO_8; clear BK223; clear BK229; clear HB; have HO_8 := n0_; have BK223 := n1_; have BK229 := n2_; have HB := n3_; clear n0_ n1_ n2_ n3_; (try clear hb); (try clear hk); have hcz64_0 : w63.cell? ⟨gb223, 0, none⟩ = some (.int .i64 t220) := (blk_cell BK223.out 0).trans rfl; have hcz64_1 : w63.cell? ⟨gb223, 1, none⟩ = some (.int .i64 t221) := (blk_cell BK223.out 1).trans rfl; have hfz64_0 := blk_frozen BK223.out 0; have hfz64_1 := blk_frozen BK223.out 1))
             go_ret2
             exact ⟨_, by first | rfl | (simp [errW_none, errW_some] <;> rfl) | (simp only [← hji15]; first | rfl | (simp [errW_none, errW_some] <;> rfl)) | (simp [*, errW_none, errW_some] <;> rfl), by first | exact Kd.R_nil _ _ _ _ _ | exact Kd.N_nil _ _ _ _ _ | exact Kd.V_nil _ _ _ _ _ | exact Kd.Q_nil _ _ _ _ _ | exact Kd.S_nil _ _ _ _ _, (belS HB.out)⟩
           ·rw [if_neg c22] at H
            have c22b0 : (t228 == 0) = false := beq_eq_false_iff_ne.mpr c22
            have c22b1 : (t228 != 0) = true := bne_iff_ne.mpr c22
            simp only [Option.some.injEq, Prod.mk.injEq] at H
            obtain ⟨rfl, rfl⟩ := H
            try go_wp2
            have n0_ := Aside0.mk (Kd.R_drew HO_8.out)
            have n1_ := Aside0.mk (below_drew1 HB.out)
            clear HO_8
            clear HB
            have HO_8 := n0_
            have HB := n1_
            clear n0_ n1_
            have p218 : 0 ≤ ((ji15) : Int) := of_decide_eq_true (by first | (with_reducible assumption) | assumption)
            have q218 : (ji15) < (l0.length : Int) := of_decide_eq_true (by first | (with_reducible assumption) | assumption)
            obtain ⟨ad218, e218, hx218_0, hx218_1, hx218_2⟩ := at_T26 HR0.out (ji15) p218 q218
            have hw218_2 := hx218_2
            have hw218_1 := hx218_1
            have hw218_0 := hx218_0
            cases e218
            replace hx218_0 := cellB HB.out hx218_0
            replace hx218_1 := cellB HB.out hx218_1
            replace hx218_2 := cellB HB.out hx218_2
            replace p218 := eq_true p218
            replace q218 := eq_true q218
            have p219 : 0 ≤ (x9_2 : Int) := of_decide_eq_true (by first | (with_reducible assumption) | assumption)
            have q219 : x9_2 < (l0.length : Int) := of_decide_eq_true (by first | (with_reducible assumption) | assumption)
            obtain ⟨ad219, e219, hx219_0, hx219_1, hx219_2⟩ := at_T26 HR0.out x9_2 p219 q219
            have hw219_2 := hx219_2
            have hw219_1 := hx219_1
            have hw219_0 := hx219_0
            obtain rfl : ad218 = ad219 := (by injection e219)
            replace hx219_0 := cellB HB.out hx219_0
            replace hx219_1 := cellB HB.out hx219_1
            replace hx219_2 := cellB HB.out hx219_2
            replace p219 := eq_true p219
            replace q219 := eq_true q219
            refine start_ (n := 18) (S := fun w' => w'.cell? (ad218.add (((ji15)).toNat * 3)) = some (.int .i64 ((rd_T26 l0 (ji15)).f0)) ∧ w'.cell? ⟨(ad218.add (((ji15)).toNat * 3)).block, (ad218.add (((ji15)).toNat * 3)).off + 1, none⟩ = some (.int .i64 ((rd_T26 l0 (ji15)).f1.f0)) ∧ w'.cell? ⟨(ad218.add (((ji15)).toNat * 3)).block, (ad218.add (((ji15)).toNat * 3)).off + 2, none⟩ = some (.int .i64 ((rd_T26 l0 (ji15)).f1.f1)) ∧ w'.cell? (ad218.add ((x9_2).toNat * 3)) = some (.int .i64 ((rd_T26 l0 x9_2).f0)) ∧ w'.cell? ⟨(ad218.add ((x9_2).toNat * 3)).block, (ad218.add ((x9_2).toNat * 3)).off + 1, none⟩ = some (.int .i64 ((rd_T26 l0 x9_2).f1.f0)) ∧ w'.cell? ⟨(ad218.add ((x9_2).toNat * 3)).block, (ad218.add ((x9_2).toNat * 3)).off + 2, none⟩ = some (.int .i64 ((rd_T26 l0 x9_2).f1.f1))) (ds := []) #[false, false, false, false, false, false, false, false, false, false, false, false, false, false, false, false, false, false] (by kernel_rfl) rfl rfl ⟨(cellB HB.out hw218_0), (cellB HB.out hw218_1), (cellB HB.out hw218_2), (cellB HB.out hw219_0), (cellB HB.out hw219_1), (cellB HB.out hw219_2)⟩ (fun hHeld => ?_); refine with_tabW rate_Do.tab7 rate_Do.bits7 (fun HT_ HW_ => ?_)
            generalize wr.drew = w65 at HO_8 HB hx218_0 hx218_1 hx218_2 hx219_0 hx219_1 hx219_2 hHeld ⊢
            refine pA 0 (some 34) (bA 18 1) HT_.out ?_
            refine pA 1 (some 35) (bA 18 3) HT_.out ?_
            refine pA 2 (some 36) (bA 18 7) HT_.out ?_
            refine pA 3 (some 37) (bA 18 15) HT_.out ?_
            refine pA 5 (some 39) (bA 18 47) HT_.out ?_
            refine pA 6 (some 40) (bA 18 111) HT_.out ?_
            refine pA 7 (some 41) (bA 18 239) HT_.out ?_
            refine pA 9 (some 43) (bA 18 751) HT_.out ?_
            refine pA 10 (some 44) (bA 18 1775) HT_.out ?_
            refine take_ (i := 4) (N := some 38) (v := ?_) (a' := ?_) (bA 18 1791) rfl rfl (take_ofW HT_.out HW_.out (by kernel_rfl)) (fun _ _ _ h => h) (Or.inl ⟨by rfl, ?_⟩) hHeld ?_ ?_
            rotate_left
            ·rintro w' ⟨s0, s1, s2, s3, s4, s5⟩
             go_simp
             with_reducible rfl
            rotate_left
            ·simp only [Act.put, List.setIfInBounds_toArray, List.set_cons_zero, List.set_cons_succ, i64_w, i32_w]
             rfl
            refine take_ (i := 8) (N := some 42) (v := ?_) (a' := ?_) (bA 18 2047) rfl rfl (take_ofW HT_.out HW_.out (by kernel_rfl)) (fun _ _ _ h => h) (Or.inl ⟨by rfl, ?_⟩) hHeld ?_ ?_
            rotate_left
            ·rintro w' ⟨s0, s1, s2, s3, s4, s5⟩
             go_simp
             with_reducible rfl
            rotate_left
            ·simp only [Act.put, List.setIfInBounds_toArray, List.set_cons_zero, List.set_cons_succ, i64_w, i32_w]
             rfl
            refine join_ (σ := Nat) 2 (bA 18 65535) (fun s_ => [(45, .tuple #[.agg #[.int .i64 t220, .int .i64 t221], .int .i64 t222]), (10, .pointer (some ⟨s_, 0, none⟩)), (33, .tuple #[.agg #[.int .i64 t220, .int .i64 t221], .int .i64 t222]), (46, .agg #[.int .i64 t220, .int .i64 t221]), (47, .int .i64 t222)]) (fun s_ w' => (w'.cell? (ad218.add (((ji15)).toNat * 3)) = some (.int .i64 ((rd_T26 l0 (ji15)).f0)) ∧ w'.cell? ⟨(ad218.add (((ji15)).toNat * 3)).block, (ad218.add (((ji15)).toNat * 3)).off + 1, none⟩ = some (.int .i64 ((rd_T26 l0 (ji15)).f1.f0)) ∧ w'.cell? ⟨(ad218.add (((ji15)).toNat * 3)).block, (ad218.add (((ji15)).toNat * 3)).off + 2, none⟩ = some (.int .i64 ((rd_T26 l0 (ji15)).f1.f1)) ∧ w'.cell? (ad218.add ((x9_2).toNat * 3)) = some (.int .i64 ((rd_T26 l0 x9_2).f0)) ∧ w'.cell? ⟨(ad218.add ((x9_2).toNat * 3)).block, (ad218.add ((x9_2).toNat * 3)).off + 1, none⟩ = some (.int .i64 ((rd_T26 l0 x9_2).f1.f0)) ∧ w'.cell? ⟨(ad218.add ((x9_2).toNat * 3)).block, (ad218.add ((x9_2).toNat * 3)).off + 2, none⟩ = some (.int .i64 ((rd_T26 l0 x9_2).f1.f1))) ∧ (Kd.R k26 26 w' w.heap.size (fun _ => True) u8 x8_2) ∧ (w'.heap[s_]? = some (.cells #[.int .i64 0, .int .i64 0] 24 (0, 0))) ∧ (w.heap.size ≤ s_) ∧ (w.heap.size ≤ s_) ∧ (Below w.heap.size w w')) ?_ ?_
            rotate_left
            ·intro hCont
             refine two_ (i := 11) (j := 15) (Ni := some 45) (Nj := some 10) (bA 18 4095) (bA 18 34815) rfl rfl rfl rfl (two_of HT_.out (by kernel_rfl)) (by decide) (by decide) (fun K hK => ?_) (fun K hK => ?_)
             ·skip
              refine goes_ Try.func22 (by kernel_rfl) rfl #[.agg #[.int .i64 ((rd_T26 l0 (ji15)).f0), .int .i64 ((rd_T26 l0 (ji15)).f1.f0), .int .i64 ((rd_T26 l0 (ji15)).f1.f1)], .agg #[.int .i64 ((rd_T26 l0 x9_2).f0), .int .i64 ((rd_T26 l0 x9_2).f1.f0), .int .i64 ((rd_T26 l0 x9_2).f1.f1)], .bool a1, .int .i64 a2] (by rfl) rfl rfl (by (try simp only [List.map_toArray, List.map_cons, List.map_nil]); first | done | (simp only [hji15]; rfl) | rfl | (simp only [List.length_drop, List.length_take]; rfl)) ?_
              with_reducible refine (rate_change.calls k2 ((rd_T26 l0 (ji15)).f0) ((rd_T26 l0 (ji15)).f1.f0) ((rd_T26 l0 (ji15)).f1.f1) ((rd_T26 l0 x9_2).f0) ((rd_T26 l0 x9_2).f1.f0) ((rd_T26 l0 x9_2).f1.f1) a1 a2 t220 t221 t222 _ A19.out).mono ?_
              rintro e w66 ⟨rfl, hb⟩
              refine ⟨_, rfl, ?_⟩
              have n0_ := Aside0.mk (Kd.R_below (rowN HO_8.out) hb)
              have n1_ := Aside0.mk (below_step (belN HB.out) hb)
              clear HO_8
              clear HB
              have HO_8 := n0_
              have HB := n1_
              clear n0_ n1_
              (try clear hb)
              (try clear hk)
              refine hK.out _ _ ⟨(cellB HB.out hw218_0), (cellB HB.out hw218_1), (cellB HB.out hw218_2), (cellB HB.out hw219_0), (cellB HB.out hw219_1), (cellB HB.out hw219_2)⟩ (fun hHeld => ?_)
              clear hK K
              refine norm_ (a' := ?_) ?_ ?_
              rotate_left
              ·show Act.put _ (some 45) _ = _
               simp only [Act.put, List.setIfInBounds_toArray, List.set_cons_zero, List.set_cons_succ, i64_w, i32_w]
               rfl
              refine pA 12 (some 33) (bA 18 8191) HT_.out ?_
              refine pA 13 (some 46) (bA 18 16383) HT_.out ?_
              refine pA 14 (some 47) (bA 18 32767) HT_.out ?_
              refine one_ (i := 15) (N := some 10) (bA 18 65535) rfl rfl (one_of HT_.out (by kernel_rfl)) (by decide) (fun K hK => ?_)
              refine box_step ?hg (N := 10) ?hd (cs := #[.int .i64 0, .int .i64 0]) (t := 24) ?hr ?_; (case hd => rfl); (case hg => rfl); (case hr => first | (go_simp; done) | (go_simp; rfl))
              intro gb223 hg w67 hbox hb
              have n0_ := Aside0.mk (Kd.R_below (rowN HO_8.out) hb)
              have n1_ := Aside0.mk (below_step (belN HB.out) hb)
              have n2_ := Aside0.mk (hbox)
              have n3_ := Aside0.mk (szB hg HB.out)
              have n4_ := Aside0.mk (szB hg HB.out)
              clear HO_8
              clear HB
              have HO_8 := n0_
              have HB := n1_
              have BK223 := n2_
              have GW223 := n3_
              have GE223 := n4_
              clear n0_ n1_ n2_ n3_ n4_
              clear hb hbox hg
              refine hK.out _ _ ⟨(cellB HB.out hw218_0), (cellB HB.out hw218_1), (cellB HB.out hw218_2), (cellB HB.out hw219_0), (cellB HB.out hw219_1), (cellB HB.out hw219_2)⟩ (fun hHeld => ?_)
              clear hK K
              refine norm_ (a' := ?_) ?_ ?_
              rotate_left
              ·show Act.put _ (some 10) _ = _
               simp only [Act.put, List.setIfInBounds_toArray, List.set_cons_zero, List.set_cons_succ, i64_w, i32_w]
               rfl
              exact norm_ (by simp only [putAll, Act.put, List.setIfInBounds_toArray, List.set_cons_zero, List.set_cons_succ]) (hCont (gb223) _ ⟨hHeld, (rowN HO_8.out), (blkN BK223.out), GW223.out, GE223.out, (belS HB.out)⟩)
             ·skip
              refine box_step ?hg (N := 10) ?hd (cs := #[.int .i64 0, .int .i64 0]) (t := 24) ?hr ?_; (case hd => rfl); (case hg => rfl); (case hr => first | (go_simp; done) | (go_simp; rfl))
              intro gb223 hg w66 hbox hb
              have n0_ := Aside0.mk (Kd.R_below (rowN HO_8.out) hb)
              have n1_ := Aside0.mk (below_step (belN HB.out) hb)
              have n2_ := Aside0.mk (hbox)
              have n3_ := Aside0.mk (szB hg HB.out)
              have n4_ := Aside0.mk (szB hg HB.out)
              clear HO_8
              clear HB
              have HO_8 := n0_
              have HB := n1_
              have BK223 := n2_
              have GW223 := n3_
              have GE223 := n4_
              clear n0_ n1_ n2_ n3_ n4_
              clear hb hbox hg
              refine hK.out _ _ ⟨(cellB HB.out hw218_0), (cellB HB.out hw218_1), (cellB HB.out hw218_2), (cellB HB.out hw219_0), (cellB HB.out hw219_1), (cellB HB.out hw219_2)⟩ (fun hHeld => ?_)
              clear hK K
              refine norm_ (a' := ?_) ?_ ?_
              rotate_left
              ·show Act.put _ (some 10) _ = _
               simp only [Act.put, List.setIfInBounds_toArray, List.set_cons_zero, List.set_cons_succ, i64_w, i32_w]
               rfl
              refine one_ (i := 11) (N := some 45) (bA 18 36863) rfl rfl (one_of HT_.out (by kernel_rfl)) (by decide) (fun K hK => ?_)
              refine goes_ Try.func22 (by kernel_rfl) rfl #[.agg #[.int .i64 ((rd_T26 l0 (ji15)).f0), .int .i64 ((rd_T26 l0 (ji15)).f1.f0), .int .i64 ((rd_T26 l0 (ji15)).f1.f1)], .agg #[.int .i64 ((rd_T26 l0 x9_2).f0), .int .i64 ((rd_T26 l0 x9_2).f1.f0), .int .i64 ((rd_T26 l0 x9_2).f1.f1)], .bool a1, .int .i64 a2] (by rfl) rfl rfl (by (try simp only [List.map_toArray, List.map_cons, List.map_nil]); first | done | (simp only [hji15]; rfl) | rfl | (simp only [List.length_drop, List.length_take]; rfl)) ?_
              with_reducible refine (rate_change.calls k2 ((rd_T26 l0 (ji15)).f0) ((rd_T26 l0 (ji15)).f1.f0) ((rd_T26 l0 (ji15)).f1.f1) ((rd_T26 l0 x9_2).f0) ((rd_T26 l0 x9_2).f1.f0) ((rd_T26 l0 x9_2).f1.f1) a1 a2 t220 t221 t222 _ A19.out).mono ?_
              rintro e w67 ⟨rfl, hb⟩
              refine ⟨_, rfl, ?_⟩
              have n0_ := Aside0.mk (Kd.R_below (rowN HO_8.out) hb)
              have n1_ := Aside0.mk (bkB BK223.out hb)
              have n2_ := Aside0.mk (below_step (belS HB.out) hb)
              clear HO_8
              clear BK223
              clear HB
              have HO_8 := n0_
              have BK223 := n1_
              have HB := n2_
              clear n0_ n1_ n2_
              (try clear hb)
              (try clear hk)
              refine hK.out _ _ ⟨(cellB HB.out hw218_0), (cellB HB.out hw218_1), (cellB HB.out hw218_2), (cellB HB.out hw219_0), (cellB HB.out hw219_1), (cellB HB.out hw219_2)⟩ (fun hHeld => ?_)
              clear hK K
              refine norm_ (a' := ?_) ?_ ?_
              rotate_left
              ·show Act.put _ (some 45) _ = _
               simp only [Act.put, List.setIfInBounds_toArray, List.set_cons_zero, List.set_cons_succ, i64_w, i32_w]
               rfl
              refine pA 12 (some 33) (bA 18 40959) HT_.out ?_
              refine pA 13 (some 46) (bA 18 49151) HT_.out ?_
              refine pA 14 (some 47) (bA 18 65535) HT_.out ?_
              exact norm_ (by simp only [putAll, Act.put, List.setIfInBounds_toArray, List.set_cons_zero, List.set_cons_succ]) (hCont (gb223) _ ⟨hHeld, (rowN HO_8.out), (blkN BK223.out), GW223.out, GE223.out, (belS HB.out)⟩)
            rintro gb223 w68 ⟨hS_, h0_, h1_, h2_, h3_, h4_⟩
            have n0_ : Aside0 (Kd.R k26 26 w68 w.heap.size (fun _ => True) u8 x8_2) := ⟨h0_⟩
            have n1_ : Aside0 (w68.heap[gb223]? = some (.cells #[.int .i64 0, .int .i64 0] 24 (0, 0))) := ⟨h1_⟩
            have n2_ : Aside0 (w.heap.size ≤ gb223) := ⟨h2_⟩
            have n3_ : Aside0 (w.heap.size ≤ gb223) := ⟨h3_⟩
            have n4_ : Aside0 (Below w.heap.size w w68) := ⟨h4_⟩
            clear HO_8
            clear HB
            clear h0_ h1_ h2_ h3_ h4_
            have HO_8 := n0_
            have BK223 := n1_
            have GW223 := n2_
            have GE223 := n3_
            have HB := n4_
            clear n0_ n1_ n2_ n3_ n4_
            have hHeld : w68.cell? (ad218.add (((ji15)).toNat * 3)) = some (.int .i64 ((rd_T26 l0 (ji15)).f0)) ∧ w68.cell? ⟨(ad218.add (((ji15)).toNat * 3)).block, (ad218.add (((ji15)).toNat * 3)).off + 1, none⟩ = some (.int .i64 ((rd_T26 l0 (ji15)).f1.f0)) ∧ w68.cell? ⟨(ad218.add (((ji15)).toNat * 3)).block, (ad218.add (((ji15)).toNat * 3)).off + 2, none⟩ = some (.int .i64 ((rd_T26 l0 (ji15)).f1.f1)) ∧ w68.cell? (ad218.add ((x9_2).toNat * 3)) = some (.int .i64 ((rd_T26 l0 x9_2).f0)) ∧ w68.cell? ⟨(ad218.add ((x9_2).toNat * 3)).block, (ad218.add ((x9_2).toNat * 3)).off + 1, none⟩ = some (.int .i64 ((rd_T26 l0 x9_2).f1.f0)) ∧ w68.cell? ⟨(ad218.add ((x9_2).toNat * 3)).block, (ad218.add ((x9_2).toNat * 3)).off + 2, none⟩ = some (.int .i64 ((rd_T26 l0 x9_2).f1.f1)) := hS_
            refine norm_ (a' := ?_) ?_ ?_
            rotate_left
            ·simp only [putAll, Act.put, List.setIfInBounds_toArray, List.set_cons_zero, List.set_cons_succ]
             rfl
            refine one_ (i := 16) (N := none) (bA 18 131071) rfl rfl (one_of HT_.out (by kernel_rfl)) (by decide) (fun K hK => ?_)
            have hs69 : w68.cell? ⟨gb223, 0, none⟩ = some (.int .i64 0) := (blk_cell BK223.out 0).trans rfl
            have hfs69 := blk_frozen BK223.out 0
            have hs70 : w68.cell? ⟨gb223, 1, none⟩ = some (.int .i64 0) := (blk_cell BK223.out 1).trans rfl
            have hfs70 := blk_frozen BK223.out 1
            refine skip_ (w1 := ?_) (by rfl) rfl ?_ ?_
            rotate_left
            ·go_simp
             rfl
            refine hK.out _ _ ⟨((cell_far (p := ⟨gb223, _, none⟩) (by first | exact cellNe hw218_0 GW223.out | (rw [add_block]; exact cellNe hw218_0 GW223.out) | (show (Addr.add _ _).block ≠ _; rw [add_block]; exact cellNe hw218_0 GW223.out) | (dsimp only; exact cellNe hw218_0 GW223.out)) _).trans (((cell_far (p := ⟨gb223, _, none⟩) (by first | exact cellNe hw218_0 GW223.out | (rw [add_block]; exact cellNe hw218_0 GW223.out) | (show (Addr.add _ _).block ≠ _; rw [add_block]; exact cellNe hw218_0 GW223.out) | (dsimp only; exact cellNe hw218_0 GW223.out)) _).trans (hHeld.1)))), ((cell_far (p := ⟨gb223, _, none⟩) (by first | exact cellNe hw218_1 GW223.out | (rw [add_block]; exact cellNe hw218_1 GW223.out) | (show (Addr.add _ _).block ≠ _; rw [add_block]; exact cellNe hw218_1 GW223.out) | (dsimp only; exact cellNe hw218_1 GW223.out)) _).trans (((cell_far (p := ⟨gb223, _, none⟩) (by first | exact cellNe hw218_1 GW223.out | (rw [add_block]; exact cellNe hw218_1 GW223.out) | (show (Addr.add _ _).block ≠ _; rw [add_block]; exact cellNe hw218_1 GW223.out) | (dsimp only; exact cellNe hw218_1 GW223.out)) _).trans (hHeld.2.1)))), ((cell_far (p := ⟨gb223, _, none⟩) (by first | exact cellNe hw218_2 GW223.out | (rw [add_block]; exact cellNe hw218_2 GW223.out) | (show (Addr.add _ _).block ≠ _; rw [add_block]; exact cellNe hw218_2 GW223.out) | (dsimp only; exact cellNe hw218_2 GW223.out)) _).trans (((cell_far (p := ⟨gb223, _, none⟩) (by first | exact cellNe hw218_2 GW223.out | (rw [add_block]; exact cellNe hw218_2 GW223.out) | (show (Addr.add _ _).block ≠ _; rw [add_block]; exact cellNe hw218_2 GW223.out) | (dsimp only; exact cellNe hw218_2 GW223.out)) _).trans (hHeld.2.2.1)))), ((cell_far (p := ⟨gb223, _, none⟩) (by first | exact cellNe hw219_0 GW223.out | (rw [add_block]; exact cellNe hw219_0 GW223.out) | (show (Addr.add _ _).block ≠ _; rw [add_block]; exact cellNe hw219_0 GW223.out) | (dsimp only; exact cellNe hw219_0 GW223.out)) _).trans (((cell_far (p := ⟨gb223, _, none⟩) (by first | exact cellNe hw219_0 GW223.out | (rw [add_block]; exact cellNe hw219_0 GW223.out) | (show (Addr.add _ _).block ≠ _; rw [add_block]; exact cellNe hw219_0 GW223.out) | (dsimp only; exact cellNe hw219_0 GW223.out)) _).trans (hHeld.2.2.2.1)))), ((cell_far (p := ⟨gb223, _, none⟩) (by first | exact cellNe hw219_1 GW223.out | (rw [add_block]; exact cellNe hw219_1 GW223.out) | (show (Addr.add _ _).block ≠ _; rw [add_block]; exact cellNe hw219_1 GW223.out) | (dsimp only; exact cellNe hw219_1 GW223.out)) _).trans (((cell_far (p := ⟨gb223, _, none⟩) (by first | exact cellNe hw219_1 GW223.out | (rw [add_block]; exact cellNe hw219_1 GW223.out) | (show (Addr.add _ _).block ≠ _; rw [add_block]; exact cellNe hw219_1 GW223.out) | (dsimp only; exact cellNe hw219_1 GW223.out)) _).trans (hHeld.2.2.2.2.1)))), ((cell_far (p := ⟨gb223, _, none⟩) (by first | exact cellNe hw219_2 GW223.out | (rw [add_block]; exact cellNe hw219_2 GW223.out) | (show (Addr.add _ _).block ≠ _; rw [add_block]; exact cellNe hw219_2 GW223.out) | (dsimp only; exact cellNe hw219_2 GW223.out)) _).trans (((cell_far (p := ⟨gb223, _, none⟩) (by first | exact cellNe hw219_2 GW223.out | (rw [add_block]; exact cellNe hw219_2 GW223.out) | (show (Addr.add _ _).block ≠ _; rw [add_block]; exact cellNe hw219_2 GW223.out) | (dsimp only; exact cellNe hw219_2 GW223.out)) _).trans (hHeld.2.2.2.2.2))))⟩ (fun hHeld => ?_)
            clear hK K
            refine pA 17 (some 11) (bA 18 262143) HT_.out ?_
            refine done_ (done_of HT_.out (by kernel_rfl)) ?_
            try go_wp2
            have n0_ : Aside0 (Kd.R k26 26 ((w68.setCell ⟨gb223, 0, none⟩ (.int .i64 t220)).setCell ⟨gb223, 1, none⟩ (.int .i64 t221)) w.heap.size (fun _ => True) u8 x8_2) := ⟨by (with_reducible repeat (first | apply Kd.R_alloc | apply Kd.R_drewN | apply Kd.R_drew)); exact Kd.R_mono (Kd.R_far (p := ⟨gb223, 1, none⟩) (Kd.R_far (p := ⟨gb223, 0, none⟩) (Kd.R_types HO_8.out BK223.out (by decide)) (fun _ hk => hk.2) (.int .i64 t220)) (fun _ hk => hk.2) (.int .i64 t221)) (fun _ hk => trivial)⟩
            have n1_ : Aside0 (((w68.setCell ⟨gb223, 0, none⟩ (.int .i64 t220)).setCell ⟨gb223, 1, none⟩ (.int .i64 t221)).heap[gb223]? = some (.cells #[.int .i64 t220, .int .i64 t221] 24 (0, 0))) := ⟨by (with_reducible repeat (first | refine blk_drewN ?_ _ | refine blk_drew ?_ | refine blk_alloc ?_ _)); refine blk_put (cs := #[.int .i64 t220, .int .i64 0]) ?_ 1 _ rfl; (with_reducible repeat (first | refine blk_drewN ?_ _ | refine blk_drew ?_ | refine blk_alloc ?_ _)); refine blk_put (cs := #[.int .i64 0, .int .i64 0]) ?_ 0 _ rfl; (with_reducible repeat (first | refine blk_drewN ?_ _ | refine blk_drew ?_ | refine blk_alloc ?_ _)); exact BK223.out⟩
            have n2_ : Aside0 (Below w.heap.size w ((w68.setCell ⟨gb223, 0, none⟩ (.int .i64 t220)).setCell ⟨gb223, 1, none⟩ (.int .i64 t221))) := ⟨(belS HB.out)⟩
            (try clear HO_8)
            (try clear BK223)
            (try clear HB)
            generalize ((w68.setCell ⟨gb223, 0, none⟩ (.int .i64 t220)).setCell ⟨gb223, 1, none⟩ (.int .i64 t221)) = w71 at n0_ n1_ n2_ ⊢
            have HO_8 := n0_
            have BK223 := n1_
            have HB := n2_
            clear n0_ n1_ n2_
            have n0_ := Aside0.mk (Kd.R_drew HO_8.out)
            have n1_ := Aside0.mk (blk_drew BK223.out)
            have n2_ := Aside0.mk (below_drew1 HB.out)
            clear HO_8
            clear BK223
            clear HB
            have HO_8 := n0_
            have BK223 := n1_
            have HB := n2_
            clear n0_ n1_ n2_
            have p224 : 0 ≤ (x9_2 : Int) := of_decide_eq_true (by first | (with_reducible assumption) | assumption)
            have q224 : x9_2 < (l0.length : Int) := of_decide_eq_true (by first | (with_reducible assumption) | assumption)
            obtain ⟨ad224, e224, hx224_0, hx224_1, hx224_2⟩ := at_T26 HR0.out x9_2 p224 q224
            have hw224_2 := hx224_2
            have hw224_1 := hx224_1
            have hw224_0 := hx224_0
            obtain rfl : ad218 = ad224 := (by injection e224)
            replace hx224_0 := cellB HB.out hx224_0
            replace hx224_1 := cellB HB.out hx224_1
            replace hx224_2 := cellB HB.out hx224_2
            replace p224 := eq_true p224
            replace q224 := eq_true q224
            have p225 : 0 ≤ ((ji15) : Int) := of_decide_eq_true (by first | (with_reducible assumption) | assumption)
            have q225 : (ji15) < (l0.length : Int) := of_decide_eq_true (by first | (with_reducible assumption) | assumption)
            obtain ⟨ad225, e225, hx225_0, hx225_1, hx225_2⟩ := at_T26 HR0.out (ji15) p225 q225
            have hw225_2 := hx225_2
            have hw225_1 := hx225_1
            have hw225_0 := hx225_0
            obtain rfl : ad218 = ad225 := (by injection e225)
            replace hx225_0 := cellB HB.out hx225_0
            replace hx225_1 := cellB HB.out hx225_1
            replace hx225_2 := cellB HB.out hx225_2
            replace p225 := eq_true p225
            replace q225 := eq_true q225
            refine start_ (n := 19) (S := fun w' => w'.cell? (ad218.add ((x9_2).toNat * 3)) = some (.int .i64 ((rd_T26 l0 x9_2).f0)) ∧ w'.cell? ⟨(ad218.add ((x9_2).toNat * 3)).block, (ad218.add ((x9_2).toNat * 3)).off + 1, none⟩ = some (.int .i64 ((rd_T26 l0 x9_2).f1.f0)) ∧ w'.cell? ⟨(ad218.add ((x9_2).toNat * 3)).block, (ad218.add ((x9_2).toNat * 3)).off + 2, none⟩ = some (.int .i64 ((rd_T26 l0 x9_2).f1.f1)) ∧ w'.cell? (ad218.add (((ji15)).toNat * 3)) = some (.int .i64 ((rd_T26 l0 (ji15)).f0)) ∧ w'.cell? ⟨(ad218.add (((ji15)).toNat * 3)).block, (ad218.add (((ji15)).toNat * 3)).off + 1, none⟩ = some (.int .i64 ((rd_T26 l0 (ji15)).f1.f0)) ∧ w'.cell? ⟨(ad218.add (((ji15)).toNat * 3)).block, (ad218.add (((ji15)).toNat * 3)).off + 2, none⟩ = some (.int .i64 ((rd_T26 l0 (ji15)).f1.f1))) (ds := []) #[false, false, false, false, false, false, false, false, false, false, false, false, false, false, false, false, false, false, false] (by kernel_rfl) rfl rfl ⟨(cellB HB.out hw224_0), (cellB HB.out hw224_1), (cellB HB.out hw224_2), (cellB HB.out hw225_0), (cellB HB.out hw225_1), (cellB HB.out hw225_2)⟩ (fun hHeld => ?_); refine with_tabW rate_Do.tab10 rate_Do.bits10 (fun HT_ HW_ => ?_)
            generalize w71.drew = w72 at HO_8 BK223 HB hx224_0 hx224_1 hx224_2 hx225_0 hx225_1 hx225_2 hHeld ⊢
            refine pA 0 (some 52) (bA 19 1) HT_.out ?_
            refine pA 1 (some 53) (bA 19 3) HT_.out ?_
            refine pA 2 (some 54) (bA 19 7) HT_.out ?_
            refine pA 3 (some 55) (bA 19 15) HT_.out ?_
            refine pA 5 (some 57) (bA 19 47) HT_.out ?_
            refine pA 6 (some 58) (bA 19 111) HT_.out ?_
            refine pA 7 (some 59) (bA 19 239) HT_.out ?_
            refine pA 8 (some 60) (bA 19 495) HT_.out ?_
            refine pA 9 (some 61) (bA 19 1007) HT_.out ?_
            refine take_ (i := 4) (N := some 56) (v := ?_) (a' := ?_) (bA 19 1023) rfl rfl (take_ofW HT_.out HW_.out (by kernel_rfl)) (fun _ _ _ h => h) (Or.inl ⟨by rfl, ?_⟩) hHeld ?_ ?_
            rotate_left
            ·rintro w' ⟨s0, s1, s2, s3, s4, s5⟩
             go_simp
             with_reducible rfl
            rotate_left
            ·simp only [Act.put, List.setIfInBounds_toArray, List.set_cons_zero, List.set_cons_succ, i64_w, i32_w]
             rfl
            refine take_ (i := 10) (N := some 62) (v := ?_) (a' := ?_) (bA 19 2047) rfl rfl (take_ofW HT_.out HW_.out (by kernel_rfl)) (fun _ _ _ h => h) (Or.inl ⟨by rfl, ?_⟩) hHeld ?_ ?_
            rotate_left
            ·rintro w' ⟨s0, s1, s2, s3, s4, s5⟩
             go_simp
             with_reducible rfl
            rotate_left
            ·simp only [Act.put, List.setIfInBounds_toArray, List.set_cons_zero, List.set_cons_succ, i64_w, i32_w]
             rfl
            refine pA 11 (some 63) (bA 19 4095) HT_.out ?_
            refine join_ (σ := Nat) 2 (bA 19 131071) (fun s_ => [(64, .tuple #[.agg #[.int .i64 t226, .int .i64 t227], .int .i64 t228]), (12, .pointer (some ⟨s_, 0, none⟩)), (51, .tuple #[.agg #[.int .i64 t226, .int .i64 t227], .int .i64 t228]), (65, .agg #[.int .i64 t226, .int .i64 t227]), (66, .int .i64 t228)]) (fun s_ w' => (w'.cell? (ad218.add ((x9_2).toNat * 3)) = some (.int .i64 ((rd_T26 l0 x9_2).f0)) ∧ w'.cell? ⟨(ad218.add ((x9_2).toNat * 3)).block, (ad218.add ((x9_2).toNat * 3)).off + 1, none⟩ = some (.int .i64 ((rd_T26 l0 x9_2).f1.f0)) ∧ w'.cell? ⟨(ad218.add ((x9_2).toNat * 3)).block, (ad218.add ((x9_2).toNat * 3)).off + 2, none⟩ = some (.int .i64 ((rd_T26 l0 x9_2).f1.f1)) ∧ w'.cell? (ad218.add (((ji15)).toNat * 3)) = some (.int .i64 ((rd_T26 l0 (ji15)).f0)) ∧ w'.cell? ⟨(ad218.add (((ji15)).toNat * 3)).block, (ad218.add (((ji15)).toNat * 3)).off + 1, none⟩ = some (.int .i64 ((rd_T26 l0 (ji15)).f1.f0)) ∧ w'.cell? ⟨(ad218.add (((ji15)).toNat * 3)).block, (ad218.add (((ji15)).toNat * 3)).off + 2, none⟩ = some (.int .i64 ((rd_T26 l0 (ji15)).f1.f1))) ∧ (Kd.R k26 26 w' w.heap.size (fun _ => True) u8 x8_2) ∧ (w'.heap[gb223]? = some (.cells #[.int .i64 t220, .int .i64 t221] 24 (0, 0))) ∧ (w'.heap[s_]? = some (.cells #[.int .i64 0, .int .i64 0] 24 (0, 0))) ∧ (w.heap.size ≤ s_) ∧ (w.heap.size ≤ s_) ∧ (gb223 ≠ s_) ∧ (s_ ≠ gb223) ∧ (Below w.heap.size w w')) ?_ ?_
            rotate_left
            ·intro hCont
             refine two_ (i := 12) (j := 16) (Ni := some 64) (Nj := some 12) (bA 19 8191) (bA 19 69631) rfl rfl rfl rfl (two_of HT_.out (by kernel_rfl)) (by decide) (by decide) (fun K hK => ?_) (fun K hK => ?_)
             ·skip
              refine goes_ Try.func23 (by kernel_rfl) rfl #[.int .i64 (wrap64 (((rd_T26 l0 x9_2).f0) - ((rd_T26 l0 (ji15)).f0)))] (by rfl) rfl rfl (by (try simp only [List.map_toArray, List.map_cons, List.map_nil]); first | done | (simp only [hji15]; rfl) | rfl | (simp only [List.length_drop, List.length_take]; rfl)) ?_
              with_reducible refine (rat_Of.calls k2 (wrap64 (((rd_T26 l0 x9_2).f0) - ((rd_T26 l0 (ji15)).f0))) t226 t227 t228 _ A21.out).mono ?_
              rintro e w73 ⟨rfl, hb⟩
              refine ⟨_, rfl, ?_⟩
              have n0_ := Aside0.mk (Kd.R_below (rowN HO_8.out) hb)
              have n1_ := Aside0.mk (bkB BK223.out hb)
              have n2_ := Aside0.mk (below_step (belS HB.out) hb)
              clear HO_8
              clear BK223
              clear HB
              have HO_8 := n0_
              have BK223 := n1_
              have HB := n2_
              clear n0_ n1_ n2_
              (try clear hb)
              (try clear hk)
              refine hK.out _ _ ⟨(cellB HB.out hw224_0), (cellB HB.out hw224_1), (cellB HB.out hw224_2), (cellB HB.out hw225_0), (cellB HB.out hw225_1), (cellB HB.out hw225_2)⟩ (fun hHeld => ?_)
              clear hK K
              refine norm_ (a' := ?_) ?_ ?_
              rotate_left
              ·show Act.put _ (some 64) _ = _
               simp only [Act.put, List.setIfInBounds_toArray, List.set_cons_zero, List.set_cons_succ, i64_w, i32_w]
               rfl
              refine pA 13 (some 51) (bA 19 16383) HT_.out ?_
              refine pA 14 (some 65) (bA 19 32767) HT_.out ?_
              refine pA 15 (some 66) (bA 19 65535) HT_.out ?_
              refine one_ (i := 16) (N := some 12) (bA 19 131071) rfl rfl (one_of HT_.out (by kernel_rfl)) (by decide) (fun K hK => ?_)
              refine box_step ?hg (N := 12) ?hd (cs := #[.int .i64 0, .int .i64 0]) (t := 24) ?hr ?_; (case hd => rfl); (case hg => rfl); (case hr => first | (go_simp; done) | (go_simp; rfl))
              intro gb229 hg w74 hbox hb
              have n0_ := Aside0.mk (Kd.R_below (rowN HO_8.out) hb)
              have n1_ := Aside0.mk (bkB BK223.out hb)
              have n2_ := Aside0.mk (below_step (belS HB.out) hb)
              have n3_ := Aside0.mk (hbox)
              have n4_ := Aside0.mk (szB hg HB.out)
              have n5_ := Aside0.mk (szB hg HB.out)
              have n6_ := Aside0.mk ((bk1 hg BK223.out))
              have n7_ := Aside0.mk ((bk2 hg BK223.out))
              clear HO_8
              clear BK223
              clear HB
              have HO_8 := n0_
              have BK223 := n1_
              have HB := n2_
              have BK229 := n3_
              have GW229 := n4_
              have GE229 := n5_
              have NB223_229 := n6_
              have NB229_223 := n7_
              clear n0_ n1_ n2_ n3_ n4_ n5_ n6_ n7_
              clear hb hbox hg
              refine hK.out _ _ ⟨(cellB HB.out hw224_0), (cellB HB.out hw224_1), (cellB HB.out hw224_2), (cellB HB.out hw225_0), (cellB HB.out hw225_1), (cellB HB.out hw225_2)⟩ (fun hHeld => ?_)
              clear hK K
              refine norm_ (a' := ?_) ?_ ?_
              rotate_left
              ·show Act.put _ (some 12) _ = _
               simp only [Act.put, List.setIfInBounds_toArray, List.set_cons_zero, List.set_cons_succ, i64_w, i32_w]
               rfl
              exact norm_ (by simp only [putAll, Act.put, List.setIfInBounds_toArray, List.set_cons_zero, List.set_cons_succ]) (hCont (gb229) _ ⟨hHeld, (rowN HO_8.out), (blkN BK223.out), (blkN BK229.out), GW229.out, GE229.out, NB223_229.out, NB229_223.out, (belS HB.out)⟩)
             ·skip
              refine box_step ?hg (N := 12) ?hd (cs := #[.int .i64 0, .int .i64 0]) (t := 24) ?hr ?_; (case hd => rfl); (case hg => rfl); (case hr => first | (go_simp; done) | (go_simp; rfl))
              intro gb229 hg w73 hbox hb
              have n0_ := Aside0.mk (Kd.R_below (rowN HO_8.out) hb)
              have n1_ := Aside0.mk (bkB BK223.out hb)
              have n2_ := Aside0.mk (below_step (belS HB.out) hb)
              have n3_ := Aside0.mk (hbox)
              have n4_ := Aside0.mk (szB hg HB.out)
              have n5_ := Aside0.mk (szB hg HB.out)
              have n6_ := Aside0.mk ((bk1 hg BK223.out))
              have n7_ := Aside0.mk ((bk2 hg BK223.out))
              clear HO_8
              clear BK223
              clear HB
              have HO_8 := n0_
              have BK223 := n1_
              have HB := n2_
              have BK229 := n3_
              have GW229 := n4_
              have GE229 := n5_
              have NB223_229 := n6_
              have NB229_223 := n7_
              clear n0_ n1_ n2_ n3_ n4_ n5_ n6_ n7_
              clear hb hbox hg
              refine hK.out _ _ ⟨(cellB HB.out hw224_0), (cellB HB.out hw224_1), (cellB HB.out hw224_2), (cellB HB.out hw225_0), (cellB HB.out hw225_1), (cellB HB.out hw225_2)⟩ (fun hHeld => ?_)
              clear hK K
              refine norm_ (a' := ?_) ?_ ?_
              rotate_left
              ·show Act.put _ (some 12) _ = _
               simp only [Act.put, List.setIfInBounds_toArray, List.set_cons_zero, List.set_cons_succ, i64_w, i32_w]
               rfl
              refine one_ (i := 12) (N := some 64) (bA 19 73727) rfl rfl (one_of HT_.out (by kernel_rfl)) (by decide) (fun K hK => ?_)
              refine goes_ Try.func23 (by kernel_rfl) rfl #[.int .i64 (wrap64 (((rd_T26 l0 x9_2).f0) - ((rd_T26 l0 (ji15)).f0)))] (by rfl) rfl rfl (by (try simp only [List.map_toArray, List.map_cons, List.map_nil]); first | done | (simp only [hji15]; rfl) | rfl | (simp only [List.length_drop, List.length_take]; rfl)) ?_
              with_reducible refine (rat_Of.calls k2 (wrap64 (((rd_T26 l0 x9_2).f0) - ((rd_T26 l0 (ji15)).f0))) t226 t227 t228 _ A21.out).mono ?_
              rintro e w74 ⟨rfl, hb⟩
              refine ⟨_, rfl, ?_⟩
              have n0_ := Aside0.mk (Kd.R_below (rowN HO_8.out) hb)
              have n1_ := Aside0.mk (bkB BK223.out hb)
              have n2_ := Aside0.mk (bkB BK229.out hb)
              have n3_ := Aside0.mk (below_step (belS HB.out) hb)
              clear HO_8
              clear BK223
              clear BK229
              clear HB
              have HO_8 := n0_
              have BK223 := n1_
              have BK229 := n2_
              have HB := n3_
              clear n0_ n1_ n2_ n3_
              (try clear hb)
              (try clear hk)
              refine hK.out _ _ ⟨(cellB HB.out hw224_0), (cellB HB.out hw224_1), (cellB HB.out hw224_2), (cellB HB.out hw225_0), (cellB HB.out hw225_1), (cellB HB.out hw225_2)⟩ (fun hHeld => ?_)
              clear hK K
              refine norm_ (a' := ?_) ?_ ?_
              rotate_left
              ·show Act.put _ (some 64) _ = _
               simp only [Act.put, List.setIfInBounds_toArray, List.set_cons_zero, List.set_cons_succ, i64_w, i32_w]
               rfl
              refine pA 13 (some 51) (bA 19 81919) HT_.out ?_
              refine pA 14 (some 65) (bA 19 98303) HT_.out ?_
              refine pA 15 (some 66) (bA 19 131071) HT_.out ?_
              exact norm_ (by simp only [putAll, Act.put, List.setIfInBounds_toArray, List.set_cons_zero, List.set_cons_succ]) (hCont (gb229) _ ⟨hHeld, (rowN HO_8.out), (blkN BK223.out), (blkN BK229.out), GW229.out, GE229.out, NB223_229.out, NB229_223.out, (belS HB.out)⟩)
            rintro gb229 w75 ⟨hS_, h0_, h1_, h2_, h3_, h4_, h5_, h6_, h7_⟩
            have n0_ : Aside0 (Kd.R k26 26 w75 w.heap.size (fun _ => True) u8 x8_2) := ⟨h0_⟩
            have n1_ : Aside0 (w75.heap[gb223]? = some (.cells #[.int .i64 t220, .int .i64 t221] 24 (0, 0))) := ⟨h1_⟩
            have n2_ : Aside0 (w75.heap[gb229]? = some (.cells #[.int .i64 0, .int .i64 0] 24 (0, 0))) := ⟨h2_⟩
            have n3_ : Aside0 (w.heap.size ≤ gb229) := ⟨h3_⟩
            have n4_ : Aside0 (w.heap.size ≤ gb229) := ⟨h4_⟩
            have n5_ : Aside0 (gb223 ≠ gb229) := ⟨h5_⟩
            have n6_ : Aside0 (gb229 ≠ gb223) := ⟨h6_⟩
            have n7_ : Aside0 (Below w.heap.size w w75) := ⟨h7_⟩
            clear HO_8
            clear BK223
            clear HB
            clear h0_ h1_ h2_ h3_ h4_ h5_ h6_ h7_
            have HO_8 := n0_
            have BK223 := n1_
            have BK229 := n2_
            have GW229 := n3_
            have GE229 := n4_
            have NB223_229 := n5_
            have NB229_223 := n6_
            have HB := n7_
            clear n0_ n1_ n2_ n3_ n4_ n5_ n6_ n7_
            have hHeld : w75.cell? (ad218.add ((x9_2).toNat * 3)) = some (.int .i64 ((rd_T26 l0 x9_2).f0)) ∧ w75.cell? ⟨(ad218.add ((x9_2).toNat * 3)).block, (ad218.add ((x9_2).toNat * 3)).off + 1, none⟩ = some (.int .i64 ((rd_T26 l0 x9_2).f1.f0)) ∧ w75.cell? ⟨(ad218.add ((x9_2).toNat * 3)).block, (ad218.add ((x9_2).toNat * 3)).off + 2, none⟩ = some (.int .i64 ((rd_T26 l0 x9_2).f1.f1)) ∧ w75.cell? (ad218.add (((ji15)).toNat * 3)) = some (.int .i64 ((rd_T26 l0 (ji15)).f0)) ∧ w75.cell? ⟨(ad218.add (((ji15)).toNat * 3)).block, (ad218.add (((ji15)).toNat * 3)).off + 1, none⟩ = some (.int .i64 ((rd_T26 l0 (ji15)).f1.f0)) ∧ w75.cell? ⟨(ad218.add (((ji15)).toNat * 3)).block, (ad218.add (((ji15)).toNat * 3)).off + 2, none⟩ = some (.int .i64 ((rd_T26 l0 (ji15)).f1.f1)) := hS_
            refine norm_ (a' := ?_) ?_ ?_
            rotate_left
            ·simp only [putAll, Act.put, List.setIfInBounds_toArray, List.set_cons_zero, List.set_cons_succ]
             rfl
            refine one_ (i := 17) (N := none) (bA 19 262143) rfl rfl (one_of HT_.out (by kernel_rfl)) (by decide) (fun K hK => ?_)
            have hs76 : w75.cell? ⟨gb229, 0, none⟩ = some (.int .i64 0) := (blk_cell BK229.out 0).trans rfl
            have hfs76 := blk_frozen BK229.out 0
            have hns76_0 := NB223_229.out
            have hms76_0 := NB229_223.out
            have hs77 : w75.cell? ⟨gb229, 1, none⟩ = some (.int .i64 0) := (blk_cell BK229.out 1).trans rfl
            have hfs77 := blk_frozen BK229.out 1
            have hns77_0 := NB223_229.out
            have hms77_0 := NB229_223.out
            refine skip_ (w1 := ?_) (by rfl) rfl ?_ ?_
            rotate_left
            ·go_simp
             rfl
            refine hK.out _ _ ⟨((cell_far (p := ⟨gb229, _, none⟩) (by first | exact cellNe hw224_0 GW229.out | (rw [add_block]; exact cellNe hw224_0 GW229.out) | (show (Addr.add _ _).block ≠ _; rw [add_block]; exact cellNe hw224_0 GW229.out) | (dsimp only; exact cellNe hw224_0 GW229.out)) _).trans (((cell_far (p := ⟨gb229, _, none⟩) (by first | exact cellNe hw224_0 GW229.out | (rw [add_block]; exact cellNe hw224_0 GW229.out) | (show (Addr.add _ _).block ≠ _; rw [add_block]; exact cellNe hw224_0 GW229.out) | (dsimp only; exact cellNe hw224_0 GW229.out)) _).trans (hHeld.1)))), ((cell_far (p := ⟨gb229, _, none⟩) (by first | exact cellNe hw224_1 GW229.out | (rw [add_block]; exact cellNe hw224_1 GW229.out) | (show (Addr.add _ _).block ≠ _; rw [add_block]; exact cellNe hw224_1 GW229.out) | (dsimp only; exact cellNe hw224_1 GW229.out)) _).trans (((cell_far (p := ⟨gb229, _, none⟩) (by first | exact cellNe hw224_1 GW229.out | (rw [add_block]; exact cellNe hw224_1 GW229.out) | (show (Addr.add _ _).block ≠ _; rw [add_block]; exact cellNe hw224_1 GW229.out) | (dsimp only; exact cellNe hw224_1 GW229.out)) _).trans (hHeld.2.1)))), ((cell_far (p := ⟨gb229, _, none⟩) (by first | exact cellNe hw224_2 GW229.out | (rw [add_block]; exact cellNe hw224_2 GW229.out) | (show (Addr.add _ _).block ≠ _; rw [add_block]; exact cellNe hw224_2 GW229.out) | (dsimp only; exact cellNe hw224_2 GW229.out)) _).trans (((cell_far (p := ⟨gb229, _, none⟩) (by first | exact cellNe hw224_2 GW229.out | (rw [add_block]; exact cellNe hw224_2 GW229.out) | (show (Addr.add _ _).block ≠ _; rw [add_block]; exact cellNe hw224_2 GW229.out) | (dsimp only; exact cellNe hw224_2 GW229.out)) _).trans (hHeld.2.2.1)))), ((cell_far (p := ⟨gb229, _, none⟩) (by first | exact cellNe hw225_0 GW229.out | (rw [add_block]; exact cellNe hw225_0 GW229.out) | (show (Addr.add _ _).block ≠ _; rw [add_block]; exact cellNe hw225_0 GW229.out) | (dsimp only; exact cellNe hw225_0 GW229.out)) _).trans (((cell_far (p := ⟨gb229, _, none⟩) (by first | exact cellNe hw225_0 GW229.out | (rw [add_block]; exact cellNe hw225_0 GW229.out) | (show (Addr.add _ _).block ≠ _; rw [add_block]; exact cellNe hw225_0 GW229.out) | (dsimp only; exact cellNe hw225_0 GW229.out)) _).trans (hHeld.2.2.2.1)))), ((cell_far (p := ⟨gb229, _, none⟩) (by first | exact cellNe hw225_1 GW229.out | (rw [add_block]; exact cellNe hw225_1 GW229.out) | (show (Addr.add _ _).block ≠ _; rw [add_block]; exact cellNe hw225_1 GW229.out) | (dsimp only; exact cellNe hw225_1 GW229.out)) _).trans (((cell_far (p := ⟨gb229, _, none⟩) (by first | exact cellNe hw225_1 GW229.out | (rw [add_block]; exact cellNe hw225_1 GW229.out) | (show (Addr.add _ _).block ≠ _; rw [add_block]; exact cellNe hw225_1 GW229.out) | (dsimp only; exact cellNe hw225_1 GW229.out)) _).trans (hHeld.2.2.2.2.1)))), ((cell_far (p := ⟨gb229, _, none⟩) (by first | exact cellNe hw225_2 GW229.out | (rw [add_block]; exact cellNe hw225_2 GW229.out) | (show (Addr.add _ _).block ≠ _; rw [add_block]; exact cellNe hw225_2 GW229.out) | (dsimp only; exact cellNe hw225_2 GW229.out)) _).trans (((cell_far (p := ⟨gb229, _, none⟩) (by first | exact cellNe hw225_2 GW229.out | (rw [add_block]; exact cellNe hw225_2 GW229.out) | (show (Addr.add _ _).block ≠ _; rw [add_block]; exact cellNe hw225_2 GW229.out) | (dsimp only; exact cellNe hw225_2 GW229.out)) _).trans (hHeld.2.2.2.2.2))))⟩ (fun hHeld => ?_)
            clear hK K
            refine pA 18 (some 11) (bA 19 524287) HT_.out ?_
            refine done_ (done_of HT_.out (by kernel_rfl)) ?_
            try go_wp2
            go_ret2
            exact ⟨_, by first | rfl | (simp [errW_none, errW_some] <;> rfl) | (simp only [← hji15]; first | rfl | (simp [errW_none, errW_some] <;> rfl)) | (simp [*, errW_none, errW_some] <;> rfl), by first | exact Kd.R_nil _ _ _ _ _ | exact Kd.N_nil _ _ _ _ _ | exact Kd.V_nil _ _ _ _ _ | exact Kd.Q_nil _ _ _ _ _ | exact Kd.S_nil _ _ _ _ _, (belS HB.out)⟩
          ·rw [if_neg c20] at H
           have c20b0 : (t222 == 0) = false := beq_eq_false_iff_ne.mpr c20
           have c20b1 : (t222 != 0) = true := bne_iff_ne.mpr c20
           simp only [Option.some.injEq, Prod.mk.injEq] at H
           obtain ⟨rfl, rfl⟩ := H
           try go_wp2
           have n0_ := Aside0.mk (Kd.R_drew HO_8.out)
           have n1_ := Aside0.mk (below_drew1 HB.out)
           clear HO_8
           clear HB
           have HO_8 := n0_
           have HB := n1_
           clear n0_ n1_
           have p218 : 0 ≤ ((ji15) : Int) := of_decide_eq_true (by first | (with_reducible assumption) | assumption)
           have q218 : (ji15) < (l0.length : Int) := of_decide_eq_true (by first | (with_reducible assumption) | assumption)
           obtain ⟨ad218, e218, hx218_0, hx218_1, hx218_2⟩ := at_T26 HR0.out (ji15) p218 q218
           have hw218_2 := hx218_2
           have hw218_1 := hx218_1
           have hw218_0 := hx218_0
           cases e218
           replace hx218_0 := cellB HB.out hx218_0
           replace hx218_1 := cellB HB.out hx218_1
           replace hx218_2 := cellB HB.out hx218_2
           replace p218 := eq_true p218
           replace q218 := eq_true q218
           have p219 : 0 ≤ (x9_2 : Int) := of_decide_eq_true (by first | (with_reducible assumption) | assumption)
           have q219 : x9_2 < (l0.length : Int) := of_decide_eq_true (by first | (with_reducible assumption) | assumption)
           obtain ⟨ad219, e219, hx219_0, hx219_1, hx219_2⟩ := at_T26 HR0.out x9_2 p219 q219
           have hw219_2 := hx219_2
           have hw219_1 := hx219_1
           have hw219_0 := hx219_0
           obtain rfl : ad218 = ad219 := (by injection e219)
           replace hx219_0 := cellB HB.out hx219_0
           replace hx219_1 := cellB HB.out hx219_1
           replace hx219_2 := cellB HB.out hx219_2
           replace p219 := eq_true p219
           replace q219 := eq_true q219
           refine start_ (n := 18) (S := fun w' => w'.cell? (ad218.add (((ji15)).toNat * 3)) = some (.int .i64 ((rd_T26 l0 (ji15)).f0)) ∧ w'.cell? ⟨(ad218.add (((ji15)).toNat * 3)).block, (ad218.add (((ji15)).toNat * 3)).off + 1, none⟩ = some (.int .i64 ((rd_T26 l0 (ji15)).f1.f0)) ∧ w'.cell? ⟨(ad218.add (((ji15)).toNat * 3)).block, (ad218.add (((ji15)).toNat * 3)).off + 2, none⟩ = some (.int .i64 ((rd_T26 l0 (ji15)).f1.f1)) ∧ w'.cell? (ad218.add ((x9_2).toNat * 3)) = some (.int .i64 ((rd_T26 l0 x9_2).f0)) ∧ w'.cell? ⟨(ad218.add ((x9_2).toNat * 3)).block, (ad218.add ((x9_2).toNat * 3)).off + 1, none⟩ = some (.int .i64 ((rd_T26 l0 x9_2).f1.f0)) ∧ w'.cell? ⟨(ad218.add ((x9_2).toNat * 3)).block, (ad218.add ((x9_2).toNat * 3)).off + 2, none⟩ = some (.int .i64 ((rd_T26 l0 x9_2).f1.f1))) (ds := []) #[false, false, false, false, false, false, false, false, false, false, false, false, false, false, false, false, false, false] (by kernel_rfl) rfl rfl ⟨(cellB HB.out hw218_0), (cellB HB.out hw218_1), (cellB HB.out hw218_2), (cellB HB.out hw219_0), (cellB HB.out hw219_1), (cellB HB.out hw219_2)⟩ (fun hHeld => ?_); refine with_tabW rate_Do.tab7 rate_Do.bits7 (fun HT_ HW_ => ?_)
           generalize wr.drew = w78 at HO_8 HB hx218_0 hx218_1 hx218_2 hx219_0 hx219_1 hx219_2 hHeld ⊢
           refine pA 0 (some 34) (bA 18 1) HT_.out ?_
           refine pA 1 (some 35) (bA 18 3) HT_.out ?_
           refine pA 2 (some 36) (bA 18 7) HT_.out ?_
           refine pA 3 (some 37) (bA 18 15) HT_.out ?_
           refine pA 5 (some 39) (bA 18 47) HT_.out ?_
           refine pA 6 (some 40) (bA 18 111) HT_.out ?_
           refine pA 7 (some 41) (bA 18 239) HT_.out ?_
           refine pA 9 (some 43) (bA 18 751) HT_.out ?_
           refine pA 10 (some 44) (bA 18 1775) HT_.out ?_
           refine take_ (i := 4) (N := some 38) (v := ?_) (a' := ?_) (bA 18 1791) rfl rfl (take_ofW HT_.out HW_.out (by kernel_rfl)) (fun _ _ _ h => h) (Or.inl ⟨by rfl, ?_⟩) hHeld ?_ ?_
           rotate_left
           ·rintro w' ⟨s0, s1, s2, s3, s4, s5⟩
            go_simp
            with_reducible rfl
           rotate_left
           ·simp only [Act.put, List.setIfInBounds_toArray, List.set_cons_zero, List.set_cons_succ, i64_w, i32_w]
            rfl
           refine take_ (i := 8) (N := some 42) (v := ?_) (a' := ?_) (bA 18 2047) rfl rfl (take_ofW HT_.out HW_.out (by kernel_rfl)) (fun _ _ _ h => h) (Or.inl ⟨by rfl, ?_⟩) hHeld ?_ ?_
           rotate_left
           ·rintro w' ⟨s0, s1, s2, s3, s4, s5⟩
            go_simp
            with_reducible rfl
           rotate_left
           ·simp only [Act.put, List.setIfInBounds_toArray, List.set_cons_zero, List.set_cons_succ, i64_w, i32_w]
            rfl
           refine join_ (σ := Nat) 2 (bA 18 65535) (fun s_ => [(45, .tuple #[.agg #[.int .i64 t220, .int .i64 t221], .int .i64 t222]), (10, .pointer (some ⟨s_, 0, none⟩)), (33, .tuple #[.agg #[.int .i64 t220, .int .i64 t221], .int .i64 t222]), (46, .agg #[.int .i64 t220, .int .i64 t221]), (47, .int .i64 t222)]) (fun s_ w' => (w'.cell? (ad218.add (((ji15)).toNat * 3)) = some (.int .i64 ((rd_T26 l0 (ji15)).f0)) ∧ w'.cell? ⟨(ad218.add (((ji15)).toNat * 3)).block, (ad218.add (((ji15)).toNat * 3)).off + 1, none⟩ = some (.int .i64 ((rd_T26 l0 (ji15)).f1.f0)) ∧ w'.cell? ⟨(ad218.add (((ji15)).toNat * 3)).block, (ad218.add (((ji15)).toNat * 3)).off + 2, none⟩ = some (.int .i64 ((rd_T26 l0 (ji15)).f1.f1)) ∧ w'.cell? (ad218.add ((x9_2).toNat * 3)) = some (.int .i64 ((rd_T26 l0 x9_2).f0)) ∧ w'.cell? ⟨(ad218.add ((x9_2).toNat * 3)).block, (ad218.add ((x9_2).toNat * 3)).off + 1, none⟩ = some (.int .i64 ((rd_T26 l0 x9_2).f1.f0)) ∧ w'.cell? ⟨(ad218.add ((x9_2).toNat * 3)).block, (ad218.add ((x9_2).toNat * 3)).off + 2, none⟩ = some (.int .i64 ((rd_T26 l0 x9_2).f1.f1))) ∧ (Kd.R k26 26 w' w.heap.size (fun _ => True) u8 x8_2) ∧ (w'.heap[s_]? = some (.cells #[.int .i64 0, .int .i64 0] 24 (0, 0))) ∧ (w.heap.size ≤ s_) ∧ (w.heap.size ≤ s_) ∧ (Below w.heap.size w w')) ?_ ?_
           rotate_left
           ·intro hCont
            refine two_ (i := 11) (j := 15) (Ni := some 45) (Nj := some 10) (bA 18 4095) (bA 18 34815) rfl rfl rfl rfl (two_of HT_.out (by kernel_rfl)) (by decide) (by decide) (fun K hK => ?_) (fun K hK => ?_)
            ·skip
             refine goes_ Try.func22 (by kernel_rfl) rfl #[.agg #[.int .i64 ((rd_T26 l0 (ji15)).f0), .int .i64 ((rd_T26 l0 (ji15)).f1.f0), .int .i64 ((rd_T26 l0 (ji15)).f1.f1)], .agg #[.int .i64 ((rd_T26 l0 x9_2).f0), .int .i64 ((rd_T26 l0 x9_2).f1.f0), .int .i64 ((rd_T26 l0 x9_2).f1.f1)], .bool a1, .int .i64 a2] (by rfl) rfl rfl (by (try simp only [List.map_toArray, List.map_cons, List.map_nil]); first | done | (simp only [hji15]; rfl) | rfl | (simp only [List.length_drop, List.length_take]; rfl)) ?_
             with_reducible refine (rate_change.calls k2 ((rd_T26 l0 (ji15)).f0) ((rd_T26 l0 (ji15)).f1.f0) ((rd_T26 l0 (ji15)).f1.f1) ((rd_T26 l0 x9_2).f0) ((rd_T26 l0 x9_2).f1.f0) ((rd_T26 l0 x9_2).f1.f1) a1 a2 t220 t221 t222 _ A19.out).mono ?_
             rintro e w79 ⟨rfl, hb⟩
             refine ⟨_, rfl, ?_⟩
             have n0_ := Aside0.mk (Kd.R_below (rowN HO_8.out) hb)
             have n1_ := Aside0.mk (below_step (belN HB.out) hb)
             clear HO_8
             clear HB
             have HO_8 := n0_
             have HB := n1_
             clear n0_ n1_
             (try clear hb)
             (try clear hk)
             refine hK.out _ _ ⟨(cellB HB.out hw218_0), (cellB HB.out hw218_1), (cellB HB.out hw218_2), (cellB HB.out hw219_0), (cellB HB.out hw219_1), (cellB HB.out hw219_2)⟩ (fun hHeld => ?_)
             clear hK K
             refine norm_ (a' := ?_) ?_ ?_
             rotate_left
             ·show Act.put _ (some 45) _ = _
              simp only [Act.put, List.setIfInBounds_toArray, List.set_cons_zero, List.set_cons_succ, i64_w, i32_w]
              rfl
             refine pA 12 (some 33) (bA 18 8191) HT_.out ?_
             refine pA 13 (some 46) (bA 18 16383) HT_.out ?_
             refine pA 14 (some 47) (bA 18 32767) HT_.out ?_
             refine one_ (i := 15) (N := some 10) (bA 18 65535) rfl rfl (one_of HT_.out (by kernel_rfl)) (by decide) (fun K hK => ?_)
             refine box_step ?hg (N := 10) ?hd (cs := #[.int .i64 0, .int .i64 0]) (t := 24) ?hr ?_; (case hd => rfl); (case hg => rfl); (case hr => first | (go_simp; done) | (go_simp; rfl))
             intro gb223 hg w80 hbox hb
             have n0_ := Aside0.mk (Kd.R_below (rowN HO_8.out) hb)
             have n1_ := Aside0.mk (below_step (belN HB.out) hb)
             have n2_ := Aside0.mk (hbox)
             have n3_ := Aside0.mk (szB hg HB.out)
             have n4_ := Aside0.mk (szB hg HB.out)
             clear HO_8
             clear HB
             have HO_8 := n0_
             have HB := n1_
             have BK223 := n2_
             have GW223 := n3_
             have GE223 := n4_
             clear n0_ n1_ n2_ n3_ n4_
             clear hb hbox hg
             refine hK.out _ _ ⟨(cellB HB.out hw218_0), (cellB HB.out hw218_1), (cellB HB.out hw218_2), (cellB HB.out hw219_0), (cellB HB.out hw219_1), (cellB HB.out hw219_2)⟩ (fun hHeld => ?_)
             clear hK K
             refine norm_ (a' := ?_) ?_ ?_
             rotate_left
             ·show Act.put _ (some 10) _ = _
              simp only [Act.put, List.setIfInBounds_toArray, List.set_cons_zero, List.set_cons_succ, i64_w, i32_w]
              rfl
             exact norm_ (by simp only [putAll, Act.put, List.setIfInBounds_toArray, List.set_cons_zero, List.set_cons_succ]) (hCont (gb223) _ ⟨hHeld, (rowN HO_8.out), (blkN BK223.out), GW223.out, GE223.out, (belS HB.out)⟩)
            ·skip
             refine box_step ?hg (N := 10) ?hd (cs := #[.int .i64 0, .int .i64 0]) (t := 24) ?hr ?_; (case hd => rfl); (case hg => rfl); (case hr => first | (go_simp; done) | (go_simp; rfl))
             intro gb223 hg w79 hbox hb
             have n0_ := Aside0.mk (Kd.R_below (rowN HO_8.out) hb)
             have n1_ := Aside0.mk (below_step (belN HB.out) hb)
             have n2_ := Aside0.mk (hbox)
             have n3_ := Aside0.mk (szB hg HB.out)
             have n4_ := Aside0.mk (szB hg HB.out)
             clear HO_8
             clear HB
             have HO_8 := n0_
             have HB := n1_
             have BK223 := n2_
             have GW223 := n3_
             have GE223 := n4_
             clear n0_ n1_ n2_ n3_ n4_
             clear hb hbox hg
             refine hK.out _ _ ⟨(cellB HB.out hw218_0), (cellB HB.out hw218_1), (cellB HB.out hw218_2), (cellB HB.out hw219_0), (cellB HB.out hw219_1), (cellB HB.out hw219_2)⟩ (fun hHeld => ?_)
             clear hK K
             refine norm_ (a' := ?_) ?_ ?_
             rotate_left
             ·show Act.put _ (some 10) _ = _
              simp only [Act.put, List.setIfInBounds_toArray, List.set_cons_zero, List.set_cons_succ, i64_w, i32_w]
              rfl
             refine one_ (i := 11) (N := some 45) (bA 18 36863) rfl rfl (one_of HT_.out (by kernel_rfl)) (by decide) (fun K hK => ?_)
             refine goes_ Try.func22 (by kernel_rfl) rfl #[.agg #[.int .i64 ((rd_T26 l0 (ji15)).f0), .int .i64 ((rd_T26 l0 (ji15)).f1.f0), .int .i64 ((rd_T26 l0 (ji15)).f1.f1)], .agg #[.int .i64 ((rd_T26 l0 x9_2).f0), .int .i64 ((rd_T26 l0 x9_2).f1.f0), .int .i64 ((rd_T26 l0 x9_2).f1.f1)], .bool a1, .int .i64 a2] (by rfl) rfl rfl (by (try simp only [List.map_toArray, List.map_cons, List.map_nil]); first | done | (simp only [hji15]; rfl) | rfl | (simp only [List.length_drop, List.length_take]; rfl)) ?_
             with_reducible refine (rate_change.calls k2 ((rd_T26 l0 (ji15)).f0) ((rd_T26 l0 (ji15)).f1.f0) ((rd_T26 l0 (ji15)).f1.f1) ((rd_T26 l0 x9_2).f0) ((rd_T26 l0 x9_2).f1.f0) ((rd_T26 l0 x9_2).f1.f1) a1 a2 t220 t221 t222 _ A19.out).mono ?_
             rintro e w80 ⟨rfl, hb⟩
             refine ⟨_, rfl, ?_⟩
             have n0_ := Aside0.mk (Kd.R_below (rowN HO_8.out) hb)
             have n1_ := Aside0.mk (bkB BK223.out hb)
             have n2_ := Aside0.mk (below_step (belS HB.out) hb)
             clear HO_8
             clear BK223
             clear HB
             have HO_8 := n0_
             have BK223 := n1_
             have HB := n2_
             clear n0_ n1_ n2_
             (try clear hb)
             (try clear hk)
             refine hK.out _ _ ⟨(cellB HB.out hw218_0), (cellB HB.out hw218_1), (cellB HB.out hw218_2), (cellB HB.out hw219_0), (cellB HB.out hw219_1), (cellB HB.out hw219_2)⟩ (fun hHeld => ?_)
             clear hK K
             refine norm_ (a' := ?_) ?_ ?_
             rotate_left
             ·show Act.put _ (some 45) _ = _
              simp only [Act.put, List.setIfInBounds_toArray, List.set_cons_zero, List.set_cons_succ, i64_w, i32_w]
              rfl
             refine pA 12 (some 33) (bA 18 40959) HT_.out ?_
             refine pA 13 (some 46) (bA 18 49151) HT_.out ?_
             refine pA 14 (some 47) (bA 18 65535) HT_.out ?_
             exact norm_ (by simp only [putAll, Act.put, List.setIfInBounds_toArray, List.set_cons_zero, List.set_cons_succ]) (hCont (gb223) _ ⟨hHeld, (rowN HO_8.out), (blkN BK223.out), GW223.out, GE223.out, (belS HB.out)⟩)
           rintro gb223 w81 ⟨hS_, h0_, h1_, h2_, h3_, h4_⟩
           have n0_ : Aside0 (Kd.R k26 26 w81 w.heap.size (fun _ => True) u8 x8_2) := ⟨h0_⟩
           have n1_ : Aside0 (w81.heap[gb223]? = some (.cells #[.int .i64 0, .int .i64 0] 24 (0, 0))) := ⟨h1_⟩
           have n2_ : Aside0 (w.heap.size ≤ gb223) := ⟨h2_⟩
           have n3_ : Aside0 (w.heap.size ≤ gb223) := ⟨h3_⟩
           have n4_ : Aside0 (Below w.heap.size w w81) := ⟨h4_⟩
           clear HO_8
           clear HB
           clear h0_ h1_ h2_ h3_ h4_
           have HO_8 := n0_
           have BK223 := n1_
           have GW223 := n2_
           have GE223 := n3_
           have HB := n4_
           clear n0_ n1_ n2_ n3_ n4_
           have hHeld : w81.cell? (ad218.add (((ji15)).toNat * 3)) = some (.int .i64 ((rd_T26 l0 (ji15)).f0)) ∧ w81.cell? ⟨(ad218.add (((ji15)).toNat * 3)).block, (ad218.add (((ji15)).toNat * 3)).off + 1, none⟩ = some (.int .i64 ((rd_T26 l0 (ji15)).f1.f0)) ∧ w81.cell? ⟨(ad218.add (((ji15)).toNat * 3)).block, (ad218.add (((ji15)).toNat * 3)).off + 2, none⟩ = some (.int .i64 ((rd_T26 l0 (ji15)).f1.f1)) ∧ w81.cell? (ad218.add ((x9_2).toNat * 3)) = some (.int .i64 ((rd_T26 l0 x9_2).f0)) ∧ w81.cell? ⟨(ad218.add ((x9_2).toNat * 3)).block, (ad218.add ((x9_2).toNat * 3)).off + 1, none⟩ = some (.int .i64 ((rd_T26 l0 x9_2).f1.f0)) ∧ w81.cell? ⟨(ad218.add ((x9_2).toNat * 3)).block, (ad218.add ((x9_2).toNat * 3)).off + 2, none⟩ = some (.int .i64 ((rd_T26 l0 x9_2).f1.f1)) := hS_
           refine norm_ (a' := ?_) ?_ ?_
           rotate_left
           ·simp only [putAll, Act.put, List.setIfInBounds_toArray, List.set_cons_zero, List.set_cons_succ]
            rfl
           refine one_ (i := 16) (N := none) (bA 18 131071) rfl rfl (one_of HT_.out (by kernel_rfl)) (by decide) (fun K hK => ?_)
           have hs82 : w81.cell? ⟨gb223, 0, none⟩ = some (.int .i64 0) := (blk_cell BK223.out 0).trans rfl
           have hfs82 := blk_frozen BK223.out 0
           have hs83 : w81.cell? ⟨gb223, 1, none⟩ = some (.int .i64 0) := (blk_cell BK223.out 1).trans rfl
           have hfs83 := blk_frozen BK223.out 1
           refine skip_ (w1 := ?_) (by rfl) rfl ?_ ?_
           rotate_left
           ·go_simp
            rfl
           refine hK.out _ _ ⟨((cell_far (p := ⟨gb223, _, none⟩) (by first | exact cellNe hw218_0 GW223.out | (rw [add_block]; exact cellNe hw218_0 GW223.out) | (show (Addr.add _ _).block ≠ _; rw [add_block]; exact cellNe hw218_0 GW223.out) | (dsimp only; exact cellNe hw218_0 GW223.out)) _).trans (((cell_far (p := ⟨gb223, _, none⟩) (by first | exact cellNe hw218_0 GW223.out | (rw [add_block]; exact cellNe hw218_0 GW223.out) | (show (Addr.add _ _).block ≠ _; rw [add_block]; exact cellNe hw218_0 GW223.out) | (dsimp only; exact cellNe hw218_0 GW223.out)) _).trans (hHeld.1)))), ((cell_far (p := ⟨gb223, _, none⟩) (by first | exact cellNe hw218_1 GW223.out | (rw [add_block]; exact cellNe hw218_1 GW223.out) | (show (Addr.add _ _).block ≠ _; rw [add_block]; exact cellNe hw218_1 GW223.out) | (dsimp only; exact cellNe hw218_1 GW223.out)) _).trans (((cell_far (p := ⟨gb223, _, none⟩) (by first | exact cellNe hw218_1 GW223.out | (rw [add_block]; exact cellNe hw218_1 GW223.out) | (show (Addr.add _ _).block ≠ _; rw [add_block]; exact cellNe hw218_1 GW223.out) | (dsimp only; exact cellNe hw218_1 GW223.out)) _).trans (hHeld.2.1)))), ((cell_far (p := ⟨gb223, _, none⟩) (by first | exact cellNe hw218_2 GW223.out | (rw [add_block]; exact cellNe hw218_2 GW223.out) | (show (Addr.add _ _).block ≠ _; rw [add_block]; exact cellNe hw218_2 GW223.out) | (dsimp only; exact cellNe hw218_2 GW223.out)) _).trans (((cell_far (p := ⟨gb223, _, none⟩) (by first | exact cellNe hw218_2 GW223.out | (rw [add_block]; exact cellNe hw218_2 GW223.out) | (show (Addr.add _ _).block ≠ _; rw [add_block]; exact cellNe hw218_2 GW223.out) | (dsimp only; exact cellNe hw218_2 GW223.out)) _).trans (hHeld.2.2.1)))), ((cell_far (p := ⟨gb223, _, none⟩) (by first | exact cellNe hw219_0 GW223.out | (rw [add_block]; exact cellNe hw219_0 GW223.out) | (show (Addr.add _ _).block ≠ _; rw [add_block]; exact cellNe hw219_0 GW223.out) | (dsimp only; exact cellNe hw219_0 GW223.out)) _).trans (((cell_far (p := ⟨gb223, _, none⟩) (by first | exact cellNe hw219_0 GW223.out | (rw [add_block]; exact cellNe hw219_0 GW223.out) | (show (Addr.add _ _).block ≠ _; rw [add_block]; exact cellNe hw219_0 GW223.out) | (dsimp only; exact cellNe hw219_0 GW223.out)) _).trans (hHeld.2.2.2.1)))), ((cell_far (p := ⟨gb223, _, none⟩) (by first | exact cellNe hw219_1 GW223.out | (rw [add_block]; exact cellNe hw219_1 GW223.out) | (show (Addr.add _ _).block ≠ _; rw [add_block]; exact cellNe hw219_1 GW223.out) | (dsimp only; exact cellNe hw219_1 GW223.out)) _).trans (((cell_far (p := ⟨gb223, _, none⟩) (by first | exact cellNe hw219_1 GW223.out | (rw [add_block]; exact cellNe hw219_1 GW223.out) | (show (Addr.add _ _).block ≠ _; rw [add_block]; exact cellNe hw219_1 GW223.out) | (dsimp only; exact cellNe hw219_1 GW223.out)) _).trans (hHeld.2.2.2.2.1)))), ((cell_far (p := ⟨gb223, _, none⟩) (by first | exact cellNe hw219_2 GW223.out | (rw [add_block]; exact cellNe hw219_2 GW223.out) | (show (Addr.add _ _).block ≠ _; rw [add_block]; exact cellNe hw219_2 GW223.out) | (dsimp only; exact cellNe hw219_2 GW223.out)) _).trans (((cell_far (p := ⟨gb223, _, none⟩) (by first | exact cellNe hw219_2 GW223.out | (rw [add_block]; exact cellNe hw219_2 GW223.out) | (show (Addr.add _ _).block ≠ _; rw [add_block]; exact cellNe hw219_2 GW223.out) | (dsimp only; exact cellNe hw219_2 GW223.out)) _).trans (hHeld.2.2.2.2.2))))⟩ (fun hHeld => ?_)
           clear hK K
           refine pA 17 (some 11) (bA 18 262143) HT_.out ?_
           refine done_ (done_of HT_.out (by kernel_rfl)) ?_
           try go_wp2
           go_ret2
           exact ⟨_, by first | rfl | (simp [errW_none, errW_some] <;> rfl) | (simp only [← hji15]; first | rfl | (simp [errW_none, errW_some] <;> rfl)) | (simp [*, errW_none, errW_some] <;> rfl), by first | exact Kd.R_nil _ _ _ _ _ | exact Kd.N_nil _ _ _ _ _ | exact Kd.V_nil _ _ _ _ _ | exact Kd.Q_nil _ _ _ _ _ | exact Kd.S_nil _ _ _ _ _, (belS HB.out)⟩
         ·rw [if_neg c18] at H
          exact absurd H (by simp)
        ·rw [if_neg c17] at H
         exact absurd H (by simp)
       ·rw [if_neg c16] at H
        exact absurd H (by simp)
      ·rw [if_neg c14] at H
       have c14b0 : decide (x9_2 < (l0.length : Int)) = false := decide_eq_false c14
       clear c14
       simp only [Option.some.injEq, Prod.mk.injEq] at H
       obtain ⟨rfl, rfl⟩ := H
       go_wp2
       go_ret2
       exact ⟨_, by first | rfl | (simp [errW_none, errW_some] <;> rfl) | (simp [*, errW_none, errW_some] <;> rfl), (rowN HO_8.out), (belN HB.out)⟩

end Go.Proofs.Ytlmcnlaopolinaa.PRateTells

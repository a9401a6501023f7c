/- The walk of the Go functions that a law reaches, told as plain functions; a program of this session has written it. No condition beyond the statement's own. -/
import Derived.Test.YtlmhgjnlbokceaaPDownTellsx0
import Derived.Test.YtlmhgjnlbokceaaPDownTellsx2
import Derived.Test.YtlmhgjnlbokceaaPDownTellsx3
import Derived.Test.YtlmhgjnlbokceaaPDownTellsx5
import Derived.Test.YtlmhgjnlbokceaaPDownTellsx10
import Derived.Test.YtlmhgjnlbokceaaPDownTellsx14
import Derived.Test.YtlmhgjnlbokceaaPDownTellsx16
namespace Go.Proofs.Ytlmhgjnlbokceaa.PDownTells
open Go.RowKit Go.Proofs.YtlmhgjnlbokceaaW.PrintWords Go.Proofs.YtlmhgjnlbokceaaW.PrintLast Go.Proofs.YtlmhgjnlbokceaaW.PrintMore
attribute [local go_sem] max2_int min2_int max_two min_two max_three min_three max_four min_four   -- for this text's walks alone
set_option linter.unusedVariables false
set_option linter.unusedSimpArgs false

attribute [local go_sem high] eqA31
/-! ### marigraphlaw21_same: function 8 -/
def marigraphlaw21_same.f (k : Nat) (l0 : List (S31)) (a1 : Int) (a2 : Int) (a3 : Int) (a4 : Int) (a5 : Bool) : Option (Bool) := (down_Do.f k l0 a1 a2 a3 a4 a5).bind fun bt343 => ((marigraphref21_Down.f k l0 a1 a2 a3 a4 a5).bind fun bt347 => (if bt343.2 = bt347.2 then ((marigraphref21_Same.f k bt343.1 bt347.1).bind fun t351 => (if t351 = true then ((down_Right.f k l0).bind fun t352 => ((marigraphref21_Right.f k l0).bind fun t353 => (some (t352 == t353)))) else (some false))) else (some false)))
theorem marigraphlaw21_same.mono : ∀ a0 a1 a2 a3 a4 a5 k, LeO (marigraphlaw21_same.f k a0 a1 a2 a3 a4 a5) (marigraphlaw21_same.f (k + 1) a0 a1 a2 a3 a4 a5) := by
 intro a0 a1 a2 a3 a4 a5 k
 unfold marigraphlaw21_same.f
 repeat' first
   | (with_reducible exact down_Do.mono _ _ _ _ _ _ _)
   | (with_reducible exact down_Right.mono _ _)
   | (with_reducible exact marigraphref21_Down.mono _ _ _ _ _ _ _)
   | (with_reducible exact marigraphref21_Right.mono _ _)
   | (with_reducible exact marigraphref21_Same.mono _ _ _)
   | (with_reducible exact LeO.refl _)
   | (with_reducible exact LeO.none _)
   | (with_reducible refine LeO.ite ?_ ?_)
   | (with_reducible refine LeO.bind ?_ (fun _ => ?_))
   | exact down_Do.mono _ _ _ _ _ _ _
   | exact down_Right.mono _ _
   | exact marigraphref21_Down.mono _ _ _ _ _ _ _
   | exact marigraphref21_Right.mono _ _
   | exact marigraphref21_Same.mono _ _ _
   | exact LeO.none _
   | refine LeO.ite ?_ ?_
   | refine LeO.bind ?_ (fun _ => ?_)
set_option maxHeartbeats 8000000 in
set_option maxRecDepth 100000 in
theorem marigraphlaw21_same.calls (k : Nat) (A0 : Option Addr) (c0 : Nat) (l0 : List (S31)) (a1 : Int) (a2 : Int) (a3 : Int) (a4 : Int) (a5 : Bool) (r : Bool) (w : World) (hr0 : Kd.C k31 w A0 l0.length l0) (hc0 : l0.length ≤ c0) (h : marigraphlaw21_same.f k l0 a1 a2 a3 a4 a5 = some r) :
  Calls Try.prog 8 #[.slice A0 l0.length c0, .int .i64 a1, .int .i64 a2, .int .i64 a3, .int .i64 a4, .bool a5] w fun e w' => e = .returned (.bool r) ∧ Below w.heap.size w w' := by
 have HR0 := Aside0.mk hr0
 have HC0 := Aside0.mk hc0
 clear hr0 hc0
 have HB := Aside0.mk (Below.refl w.heap.size w)
 have H : ((down_Do.f k l0 a1 a2 a3 a4 a5).bind fun bt343 => ((marigraphref21_Down.f k l0 a1 a2 a3 a4 a5).bind fun bt347 => (if bt343.2 = bt347.2 then ((marigraphref21_Same.f k bt343.1 bt347.1).bind fun t351 => (if t351 = true then ((down_Right.f k l0).bind fun t352 => ((marigraphref21_Right.f k l0).bind fun t353 => (some (t352 == t353)))) else (some false))) else (some false)))) = some r := h
 clear h
 replace H := Option.bind_eq_some_iff.mp H
 obtain ⟨⟨t343, t344⟩, A70, H⟩ := H
 replace H : ((marigraphref21_Down.f k l0 a1 a2 a3 a4 a5).bind fun bt347 => (if t344 = bt347.2 then ((marigraphref21_Same.f k t343 bt347.1).bind fun t351 => (if t351 = true then ((down_Right.f k l0).bind fun t352 => ((marigraphref21_Right.f k l0).bind fun t353 => (some (t352 == t353)))) else (some false))) else (some false))) = some r := H
 have A7 := Aside0.mk A70
 clear A70
 replace H := Option.bind_eq_some_iff.mp H
 obtain ⟨⟨t347, t348⟩, A80, H⟩ := H
 replace H : (if t344 = t348 then ((marigraphref21_Same.f k t343 t347).bind fun t351 => (if t351 = true then ((down_Right.f k l0).bind fun t352 => ((marigraphref21_Right.f k l0).bind fun t353 => (some (t352 == t353)))) else (some false))) else (some false)) = some r := H
 have A8 := Aside0.mk A80
 clear A80
 by_cases c9 : t344 = t348
 ·rw [if_pos c9] at H
  have c9b0 : (t344 == t348) = true := beq_iff_eq.mpr c9
  have c9b1 : (t344 != t348) = false := bne_eq_false_iff_eq.mpr c9
  clear c9
  replace H := Option.bind_eq_some_iff.mp H
  obtain ⟨t351, A100, H⟩ := H
  replace H : (if t351 = true then ((down_Right.f k l0).bind fun t352 => ((marigraphref21_Right.f k l0).bind fun t353 => (some (t352 == t353)))) else (some false)) = some r := H
  have A10 := Aside0.mk A100
  clear A100
  by_cases c11 : t351 = true
  ·subst c11
   have H1 : ((down_Right.f k l0).bind fun t352 => ((marigraphref21_Right.f k l0).bind fun t353 => (some (t352 == t353)))) = some r := by rw [if_pos rfl] at H; exact H
   clear H
   have H := H1
   clear H1
   replace H := Option.bind_eq_some_iff.mp H
   obtain ⟨t352, A120, H⟩ := H
   replace H : ((marigraphref21_Right.f k l0).bind fun t353 => (some (t352 == t353))) = some r := H
   have A12 := Aside0.mk A120
   clear A120
   replace H := Option.bind_eq_some_iff.mp H
   obtain ⟨t353, A130, H⟩ := H
   replace H : (some (t352 == t353)) = some r := H
   have A13 := Aside0.mk A130
   clear A130
   obtain rfl := Option.some.inj H
   go_enter Try.func8, Try.ntmps8
   go_wp2_with (first | ((with_reducible refine gate_callee (f := 12) rfl ?_); refine goesL_ (some 24) rfl rfl Try.func12 (by kernel_rfl) rfl #[.slice A0 l0.length c0, .int .i64 a1, .int .i64 a2, .int .i64 a3, .int .i64 a4, .bool a5] rfl argN ?_; (with_reducible refine (down_Do.calls k _ _ l0 a1 a2 a3 a4 a5 t343 t344 _ ?side1 ?side2 A7.out).mono ?_); (case side1 => repeat (first | exact HR0.out | (with_reducible refine Kd.C_alloc ?_ _) | (with_reducible refine Kd.C_drewN ?_ _) | (with_reducible refine Kd.C_drew ?_))); (case side2 => exact HC0.out); rintro e w14 ⟨v345, rfl, ho0, hb⟩; refine ⟨_, rfl, ?_⟩; have n0_ := Aside0.mk (Kd.R_lower ho0 (below_size (belN HB.out))); have n1_ := Aside0.mk (below_step (belN HB.out) hb); clear HB; have HO346 := n0_; have HB := n1_; clear n0_ n1_; (try clear hb); (try clear ho0)) | ((with_reducible refine gate_callee (f := 18) rfl ?_); refine goesL_ (some 34) rfl rfl Try.func18 (by kernel_rfl) rfl #[.slice A0 l0.length c0, .int .i64 a1, .int .i64 a2, .int .i64 a3, .int .i64 a4, .bool a5] rfl argN ?_; (with_reducible refine (marigraphref21_Down.calls k _ _ l0 a1 a2 a3 a4 a5 t347 t348 _ ?side1 ?side2 A8.out).mono ?_); (case side1 => repeat (first | exact (Kd.C_below HR0.out HB.out) | (with_reducible refine Kd.C_alloc ?_ _) | (with_reducible refine Kd.C_drewN ?_ _) | (with_reducible refine Kd.C_drew ?_))); (case side2 => exact HC0.out); rintro e w15 ⟨v349, rfl, ho0, hb⟩; refine ⟨_, rfl, ?_⟩; have n0_ := Aside0.mk (Kd.R_elder' (rowN HO346.out) (Kd.R_base ho0) hb); have n1_ := Aside0.mk (Kd.R_lower (Kd.R_new' ho0 (Kd.R_lt (rowN HO346.out))) (below_size (belN HB.out))); have n2_ := Aside0.mk (below_step (belN HB.out) hb); clear HO346; clear HB; have HO346 := n0_; have HO350 := n1_; have HB := n2_; clear n0_ n1_ n2_; (try clear hb); (try clear ho0); obtain ⟨Ao16, co16, eo16⟩ := Kd.R_slice HO346.out; subst eo16; obtain ⟨Ao17, co17, eo17⟩ := Kd.R_slice HO350.out; subst eo17) | (go_at_call 15; (with_reducible refine (marigraphref21_Same.calls k _ _ t343 _ _ t347 true _ ?side1 ?side2 ?side3 ?side4 A10.out).mono ?_); (case side1 => repeat (first | exact (Kd.R_reads' HO346.out).2.2 | (with_reducible refine Kd.C_alloc ?_ _) | (with_reducible refine Kd.C_drewN ?_ _) | (with_reducible refine Kd.C_drew ?_))); (case side2 => exact (Kd.R_reads' HO346.out).2.1); (case side3 => repeat (first | exact (Kd.R_reads' HO350.out).2.2 | (with_reducible refine Kd.C_alloc ?_ _) | (with_reducible refine Kd.C_drewN ?_ _) | (with_reducible refine Kd.C_drew ?_))); (case side4 => exact (Kd.R_reads' HO350.out).2.1); rintro e w' ⟨rfl, ⟨nd, rfl⟩⟩) | (go_at_call 19; (with_reducible refine (down_Right.calls k _ _ l0 t352 _ ?side1 ?side2 A12.out).mono ?_); (case side1 => repeat (first | exact (Kd.C_below HR0.out (belN HB.out)) | (with_reducible refine Kd.C_alloc ?_ _) | (with_reducible refine Kd.C_drewN ?_ _) | (with_reducible refine Kd.C_drew ?_))); (case side2 => exact HC0.out); rintro e w18 ⟨rfl, hb⟩; have n0_ := Aside0.mk (Kd.R_below (rowN HO346.out) hb); have n1_ := Aside0.mk (Kd.R_below (rowN HO350.out) hb); have n2_ := Aside0.mk (below_step (belN HB.out) hb); clear HO346; clear HO350; clear HB; have HO346 := n0_; have HO350 := n1_; have HB := n2_; clear n0_ n1_ n2_; (try clear hb)) | (go_at_call 20; (with_reducible refine (marigraphref21_Right.calls k _ _ l0 t353 _ ?side1 ?side2 A13.out).mono ?_); (case side1 => repeat (first | exact (Kd.C_below HR0.out HB.out) | (with_reducible refine Kd.C_alloc ?_ _) | (with_reducible refine Kd.C_drewN ?_ _) | (with_reducible refine Kd.C_drew ?_))); (case side2 => exact HC0.out); rintro e w19 ⟨rfl, hb⟩; have n0_ := Aside0.mk (Kd.R_below (rowN HO346.out) hb); have n1_ := Aside0.mk (Kd.R_below (rowN HO350.out) hb); have n2_ := Aside0.mk (below_step (belN HB.out) hb); clear HO346; clear HO350; clear HB; have HO346 := n0_; have HO350 := n1_; have HB := n2_; clear n0_ n1_ n2_; (try clear hb)))
   go_ret
   exact ⟨by first | rfl | (simp [errW_none, errW_some] <;> rfl) | (simp [*, errW_none, errW_some] <;> rfl), (belN HB.out)⟩
  ·replace c11 := Bool.eq_false_iff.mpr c11
   subst c11
   have H1 : (some false) = some r := by rw [if_neg (show ¬ (false = true) by decide)] at H; exact H
   clear H
   have H := H1
   clear H1
   obtain rfl := Option.some.inj H
   go_enter Try.func8, Try.ntmps8
   go_wp2_with (first | ((with_reducible refine gate_callee (f := 12) rfl ?_); refine goesL_ (some 24) rfl rfl Try.func12 (by kernel_rfl) rfl #[.slice A0 l0.length c0, .int .i64 a1, .int .i64 a2, .int .i64 a3, .int .i64 a4, .bool a5] rfl argN ?_; (with_reducible refine (down_Do.calls k _ _ l0 a1 a2 a3 a4 a5 t343 t344 _ ?side1 ?side2 A7.out).mono ?_); (case side1 => repeat (first | exact HR0.out | (with_reducible refine Kd.C_alloc ?_ _) | (with_reducible refine Kd.C_drewN ?_ _) | (with_reducible refine Kd.C_drew ?_))); (case side2 => exact HC0.out); rintro e w20 ⟨v345, rfl, ho0, hb⟩; refine ⟨_, rfl, ?_⟩; have n0_ := Aside0.mk (Kd.R_lower ho0 (below_size (belN HB.out))); have n1_ := Aside0.mk (below_step (belN HB.out) hb); clear HB; have HO346 := n0_; have HB := n1_; clear n0_ n1_; (try clear hb); (try clear ho0)) | ((with_reducible refine gate_callee (f := 18) rfl ?_); refine goesL_ (some 34) rfl rfl Try.func18 (by kernel_rfl) rfl #[.slice A0 l0.length c0, .int .i64 a1, .int .i64 a2, .int .i64 a3, .int .i64 a4, .bool a5] rfl argN ?_; (with_reducible refine (marigraphref21_Down.calls k _ _ l0 a1 a2 a3 a4 a5 t347 t348 _ ?side1 ?side2 A8.out).mono ?_); (case side1 => repeat (first | exact (Kd.C_below HR0.out HB.out) | (with_reducible refine Kd.C_alloc ?_ _) | (with_reducible refine Kd.C_drewN ?_ _) | (with_reducible refine Kd.C_drew ?_))); (case side2 => exact HC0.out); rintro e w21 ⟨v349, rfl, ho0, hb⟩; refine ⟨_, rfl, ?_⟩; have n0_ := Aside0.mk (Kd.R_elder' (rowN HO346.out) (Kd.R_base ho0) hb); have n1_ := Aside0.mk (Kd.R_lower (Kd.R_new' ho0 (Kd.R_lt (rowN HO346.out))) (below_size (belN HB.out))); have n2_ := Aside0.mk (below_step (belN HB.out) hb); clear HO346; clear HB; have HO346 := n0_; have HO350 := n1_; have HB := n2_; clear n0_ n1_ n2_; (try clear hb); (try clear ho0); obtain ⟨Ao22, co22, eo22⟩ := Kd.R_slice HO346.out; subst eo22; obtain ⟨Ao23, co23, eo23⟩ := Kd.R_slice HO350.out; subst eo23) | (go_at_call 15; (with_reducible refine (marigraphref21_Same.calls k _ _ t343 _ _ t347 false _ ?side1 ?side2 ?side3 ?side4 A10.out).mono ?_); (case side1 => repeat (first | exact (Kd.R_reads' HO346.out).2.2 | (with_reducible refine Kd.C_alloc ?_ _) | (with_reducible refine Kd.C_drewN ?_ _) | (with_reducible refine Kd.C_drew ?_))); (case side2 => exact (Kd.R_reads' HO346.out).2.1); (case side3 => repeat (first | exact (Kd.R_reads' HO350.out).2.2 | (with_reducible refine Kd.C_alloc ?_ _) | (with_reducible refine Kd.C_drewN ?_ _) | (with_reducible refine Kd.C_drew ?_))); (case side4 => exact (Kd.R_reads' HO350.out).2.1); rintro e w' ⟨rfl, ⟨nd, rfl⟩⟩))
   go_ret
   exact ⟨by first | rfl | (simp [errW_none, errW_some] <;> rfl) | (simp [*, errW_none, errW_some] <;> rfl), (belN HB.out)⟩
 ·rw [if_neg c9] at H
  have c9b0 : (t344 == t348) = false := beq_eq_false_iff_ne.mpr c9
  have c9b1 : (t344 != t348) = true := bne_iff_ne.mpr c9
  obtain rfl := Option.some.inj H
  go_enter Try.func8, Try.ntmps8
  go_wp2_with (first | ((with_reducible refine gate_callee (f := 12) rfl ?_); refine goesL_ (some 24) rfl rfl Try.func12 (by kernel_rfl) rfl #[.slice A0 l0.length c0, .int .i64 a1, .int .i64 a2, .int .i64 a3, .int .i64 a4, .bool a5] rfl argN ?_; (with_reducible refine (down_Do.calls k _ _ l0 a1 a2 a3 a4 a5 t343 t344 _ ?side1 ?side2 A7.out).mono ?_); (case side1 => repeat (first | exact HR0.out | (with_reducible refine Kd.C_alloc ?_ _) | (with_reducible refine Kd.C_drewN ?_ _) | (with_reducible refine Kd.C_drew ?_))); (case side2 => exact HC0.out); rintro e w24 ⟨v345, rfl, ho0, hb⟩; refine ⟨_, rfl, ?_⟩; have n0_ := Aside0.mk (Kd.R_lower ho0 (below_size (belN HB.out))); have n1_ := Aside0.mk (below_step (belN HB.out) hb); clear HB; have HO346 := n0_; have HB := n1_; clear n0_ n1_; (try clear hb); (try clear ho0)) | ((with_reducible refine gate_callee (f := 18) rfl ?_); refine goesL_ (some 34) rfl rfl Try.func18 (by kernel_rfl) rfl #[.slice A0 l0.length c0, .int .i64 a1, .int .i64 a2, .int .i64 a3, .int .i64 a4, .bool a5] rfl argN ?_; (with_reducible refine (marigraphref21_Down.calls k _ _ l0 a1 a2 a3 a4 a5 t347 t348 _ ?side1 ?side2 A8.out).mono ?_); (case side1 => repeat (first | exact (Kd.C_below HR0.out HB.out) | (with_reducible refine Kd.C_alloc ?_ _) | (with_reducible refine Kd.C_drewN ?_ _) | (with_reducible refine Kd.C_drew ?_))); (case side2 => exact HC0.out); rintro e w25 ⟨v349, rfl, ho0, hb⟩; refine ⟨_, rfl, ?_⟩; have n0_ := Aside0.mk (Kd.R_elder' (rowN HO346.out) (Kd.R_base ho0) hb); have n1_ := Aside0.mk (Kd.R_lower (Kd.R_new' ho0 (Kd.R_lt (rowN HO346.out))) (below_size (belN HB.out))); have n2_ := Aside0.mk (below_step (belN HB.out) hb); clear HO346; clear HB; have HO346 := n0_; have HO350 := n1_; have HB := n2_; clear n0_ n1_ n2_; (try clear hb); (try clear ho0)))
  go_ret
  exact ⟨by first | rfl | (simp [errW_none, errW_some] <;> rfl) | (simp [*, errW_none, errW_some] <;> rfl), (belN HB.out)⟩

/-! ### marigraphlaw21_known: function 10 -/
def marigraphlaw21_known.f (k : Nat)  : Option (Bool) := (down_Do.f k (([(⟨1, (⟨4, 1⟩ : S29)⟩ : S31), (⟨5, (⟨6, 1⟩ : S29)⟩ : S31)] : List (S31))) 0 9 10 4 false).bind fun bt357 => ((down_Do.f k ([] : List (S31)) 0 9 0 4 false).bind fun bt361 => (if bt357.2 = 0 then (if (bt357.1.length : Int) = 1 then (if 0 < (bt357.1.length : Int) then (if (((rd_T31 bt357.1 0).f0) == 0 && ((((rd_T31 bt357.1 0).f1.f0) == 5 && (((rd_T31 bt357.1 0).f1.f1) == 1)))) = true then (if bt361.2 = 1 then ((down_Bucket.f 17 10).bind fun t366 => (some (t366 == 10))) else (some false)) else (some false)) else (none)) else (some false)) else (some false)))
theorem marigraphlaw21_known.mono : ∀ k, LeO (marigraphlaw21_known.f k ) (marigraphlaw21_known.f (k + 1) ) := by
 intro  k
 unfold marigraphlaw21_known.f
 repeat' first
   | (with_reducible exact down_Do.mono _ _ _ _ _ _ _)
   | (with_reducible exact LeO.refl _)
   | (with_reducible exact LeO.none _)
   | (with_reducible refine LeO.ite ?_ ?_)
   | (with_reducible refine LeO.bind ?_ (fun _ => ?_))
   | exact down_Do.mono _ _ _ _ _ _ _
   | exact LeO.none _
   | refine LeO.ite ?_ ?_
   | refine LeO.bind ?_ (fun _ => ?_)
set_option maxHeartbeats 8000000 in
set_option maxRecDepth 100000 in
theorem marigraphlaw21_known.calls (k : Nat)  (r : Bool) (w : World) (h : marigraphlaw21_known.f k  = some r) :
  Calls Try.prog 10 #[] w fun e w' => e = .returned (.bool r) ∧ Below w.heap.size w w' := by
 have hu29 := Try.underlying29
 have hu31 := Try.underlying31
 have HB := Aside0.mk (Below.refl w.heap.size w)
 have H : ((down_Do.f k (([(⟨1, (⟨4, 1⟩ : S29)⟩ : S31), (⟨5, (⟨6, 1⟩ : S29)⟩ : S31)] : List (S31))) 0 9 10 4 false).bind fun bt357 => ((down_Do.f k ([] : List (S31)) 0 9 0 4 false).bind fun bt361 => (if bt357.2 = 0 then (if (bt357.1.length : Int) = 1 then (if 0 < (bt357.1.length : Int) then (if (((rd_T31 bt357.1 0).f0) == 0 && ((((rd_T31 bt357.1 0).f1.f0) == 5 && (((rd_T31 bt357.1 0).f1.f1) == 1)))) = true then (if bt361.2 = 1 then ((down_Bucket.f 17 10).bind fun t366 => (some (t366 == 10))) else (some false)) else (some false)) else (none)) else (some false)) else (some false)))) = some r := h
 clear h
 obtain ⟨y354, hy354⟩ : ∃ y_ : List (S31), y_ = (([(⟨1, (⟨4, 1⟩ : S29)⟩ : S31), (⟨5, (⟨6, 1⟩ : S29)⟩ : S31)] : List (S31))) := ⟨_, rfl⟩
 replace H : ((down_Do.f k y354 0 9 10 4 false).bind fun bt357 => ((down_Do.f k ([] : List (S31)) 0 9 0 4 false).bind fun bt361 => (if bt357.2 = 0 then (if (bt357.1.length : Int) = 1 then (if 0 < (bt357.1.length : Int) then (if (((rd_T31 bt357.1 0).f0) == 0 && ((((rd_T31 bt357.1 0).f1.f0) == 5 && (((rd_T31 bt357.1 0).f1.f1) == 1)))) = true then (if bt361.2 = 1 then ((down_Bucket.f 17 10).bind fun t366 => (some (t366 == 10))) else (some false)) else (some false)) else (none)) else (some false)) else (some false)))) = some r := by first | (rw [hy354]; with_reducible exact H) | (have H2_ := (Option.bind_some _ _).symm.trans H; rw [hy354]; with_reducible exact H2_) | (have H2_ := (Option.bind_some _ _).symm.trans H; with_reducible exact H2_) | with_reducible exact H | (rw [hy354]; exact H) | exact H
 have Ny354 := Aside0.mk hy354
 clear hy354
 replace H := Option.bind_eq_some_iff.mp H
 obtain ⟨⟨t357, t358⟩, A10, H⟩ := H
 replace H : ((down_Do.f k ([] : List (S31)) 0 9 0 4 false).bind fun bt361 => (if t358 = 0 then (if (t357.length : Int) = 1 then (if 0 < (t357.length : Int) then (if (((rd_T31 t357 0).f0) == 0 && ((((rd_T31 t357 0).f1.f0) == 5 && (((rd_T31 t357 0).f1.f1) == 1)))) = true then (if bt361.2 = 1 then ((down_Bucket.f 17 10).bind fun t366 => (some (t366 == 10))) else (some false)) else (some false)) else (none)) else (some false)) else (some false))) = some r := H
 have A1 := Aside0.mk A10
 clear A10
 replace H := Option.bind_eq_some_iff.mp H
 obtain ⟨⟨t361, t362⟩, A20, H⟩ := H
 replace H : (if t358 = 0 then (if (t357.length : Int) = 1 then (if 0 < (t357.length : Int) then (if (((rd_T31 t357 0).f0) == 0 && ((((rd_T31 t357 0).f1.f0) == 5 && (((rd_T31 t357 0).f1.f1) == 1)))) = true then (if t362 = 1 then ((down_Bucket.f 17 10).bind fun t366 => (some (t366 == 10))) else (some false)) else (some false)) else (none)) else (some false)) else (some false)) = some r := H
 have A2 := Aside0.mk A20
 clear A20
 by_cases c3 : t358 = 0
 ·rw [if_pos c3] at H
  have c3b0 : (t358 == 0) = true := beq_iff_eq.mpr c3
  have c3b1 : (t358 != 0) = false := bne_eq_false_iff_eq.mpr c3
  clear c3
  by_cases c4 : (t357.length : Int) = 1
  ·rw [if_pos c4] at H
   have c4b0 : ((t357.length : Int) == 1) = true := beq_iff_eq.mpr c4
   have c4b1 : ((t357.length : Int) != 1) = false := bne_eq_false_iff_eq.mpr c4
   clear c4
   by_cases c5 : 0 < (t357.length : Int)
   ·rw [if_pos c5] at H
    have c5b0 : decide (0 < (t357.length : Int)) = true := decide_eq_true c5
    have c5b1 : decide (0 < t357.length) = true := decide_eq_true (by omega)
    clear c5
    by_cases c6 : (((rd_T31 t357 0).f0) == 0 && ((((rd_T31 t357 0).f1.f0) == 5 && (((rd_T31 t357 0).f1.f1) == 1)))) = true
    ·rw [if_pos c6] at H
     have c6b0 : (((rd_T31 t357 0).f0) == 0 && ((((rd_T31 t357 0).f1.f0) == 5 && (((rd_T31 t357 0).f1.f1) == 1)))) = true := c6
     (try (have c6b1 : decide (((rd_T31 t357 0).f0) = 0 && ((((rd_T31 t357 0).f1.f0) == 5 && (((rd_T31 t357 0).f1.f1) == 1)))) = true := by simpa using c6))
     (try (have c6b2 : (((rd_T31 t357 0).f0) == 0 && ((((rd_T31 t357 0).f1.f0) == 5 && (((rd_T31 t357 0).f1.f1) == 1)))) = true := by simpa using c6))
     clear c6
     by_cases c7 : t362 = 1
     ·rw [if_pos c7] at H
      have c7b0 : (t362 == 1) = true := beq_iff_eq.mpr c7
      have c7b1 : (t362 != 1) = false := bne_eq_false_iff_eq.mpr c7
      clear c7
      replace H := Option.bind_eq_some_iff.mp H
      obtain ⟨t366, A80, H⟩ := H
      replace H : (some (t366 == 10)) = some r := H
      have A8 := Aside0.mk A80
      clear A80
      obtain rfl := Option.some.inj H
      go_enter Try.func10, Try.ntmps10
      go_wp2_with (first | ((with_reducible refine gate_dst (N := 10) rfl ?_); (try (refine gate_guard (by rfl) ?_; dsimp only)); refine Kd.R_lit k31 _ 31 ?hg (N := 10) ?hd (xs := ([(⟨1, (⟨4, 1⟩ : S29)⟩ : S31), (⟨5, (⟨6, 1⟩ : S29)⟩ : S31)] : List (S31))) (inner := [.int .i64 1, .int .i64 4, .int .i64 1, .int .i64 5, .int .i64 6, .int .i64 1]) (ok := fun _ => True) (okp := fun _ => True) ?hr ?hp (fun _ hk => hk) trivial (Below.refl _ _) (Nat.le_refl _) (by simp) ?_; (case hd => rfl); (case hg => rfl); (case hr => first | (go_simp; done) | (go_simp; rfl)); (case hp => exact (Reps.c3 (show Kd.M k31 _ _ _ (⟨1, (⟨4, 1⟩ : S29)⟩ : S31) [.int .i64 1, .int .i64 4, .int .i64 1] from (k31_mkM _ _ _ (⟨1, (⟨4, 1⟩ : S29)⟩ : S31) )) (Reps.c3 (show Kd.M k31 _ _ _ (⟨5, (⟨6, 1⟩ : S29)⟩ : S31) [.int .i64 5, .int .i64 6, .int .i64 1] from (k31_mkM _ _ _ (⟨5, (⟨6, 1⟩ : S29)⟩ : S31) )) (Reps.none _ _)))); intro v355 w9 ho10 hb hg_ hnew_; clear hg_ hnew_; (first | rw [← Ny354.out] at ho10 | (simp only [Int.reduceToNat] at ho10; rw [← Ny354.out] at ho10)); have n0_ := Aside0.mk (Kd.R_lower ho10 (below_size (belN HB.out))); have n1_ := Aside0.mk (below_step (belN HB.out) hb); clear HB; have HO356 := n0_; have HB := n1_; clear n0_ n1_; clear hb ho10; obtain ⟨Ao11, co11, eo11⟩ := Kd.R_slice HO356.out; subst eo11) | ((with_reducible refine gate_callee (f := 12) rfl ?_); refine goesL_ (some 11) rfl rfl Try.func12 (by kernel_rfl) rfl #[.slice Ao11 y354.length co11, .int .i64 0, .int .i64 9, .int .i64 10, .int .i64 4, .bool false] rfl argN ?_; (with_reducible refine (down_Do.calls k _ _ y354 0 9 10 4 false t357 t358 _ ?side1 ?side2 A1.out).mono ?_); (case side1 => repeat (first | exact (Kd.R_reads' HO356.out).2.2 | (with_reducible refine Kd.C_alloc ?_ _) | (with_reducible refine Kd.C_drewN ?_ _) | (with_reducible refine Kd.C_drew ?_))); (case side2 => exact (Kd.R_reads' HO356.out).2.1); rintro e w12 ⟨v359, rfl, ho0, hb⟩; refine ⟨_, rfl, ?_⟩; have n0_ := Aside0.mk (Kd.R_elder' (rowN HO356.out) (Kd.R_base ho0) hb); have n1_ := Aside0.mk (Kd.R_lower (Kd.R_new' ho0 (Kd.R_lt (rowN HO356.out))) (below_size (belN HB.out))); have n2_ := Aside0.mk (below_step (belN HB.out) hb); clear HO356; clear HB; have HO356 := n0_; have HO360 := n1_; have HB := n2_; clear n0_ n1_ n2_; (try clear hb); (try clear hk); (try clear ho0)) | ((with_reducible refine gate_callee (f := 12) rfl ?_); refine goesL_ (some 15) rfl rfl Try.func12 (by kernel_rfl) rfl #[.slice none 0 0, .int .i64 0, .int .i64 9, .int .i64 0, .int .i64 4, .bool false] rfl argN ?_; (refine (down_Do.calls k _ _ ([] : List (S31)) 0 9 0 4 false t361 t362 _ ?side1 ?side2 A2.out).mono ?_); (case side1 => exact Kd.C_nil _ _); (case side2 => exact Nat.le_refl _); rintro e w13 ⟨v363, rfl, ho0, hb⟩; refine ⟨_, rfl, ?_⟩; have n0_ := Aside0.mk (Kd.R_elder' (rowN HO356.out) (Kd.R_base ho0) hb); have n1_ := Aside0.mk (Kd.R_elder' (rowN HO360.out) (Kd.R_base ho0) hb); have n2_ := Aside0.mk (Kd.R_lower (Kd.R_new' (Kd.R_new' ho0 (Kd.R_lt (rowN HO356.out))) (Kd.R_lt (rowN HO360.out))) (below_size (belN HB.out))); have n3_ := Aside0.mk (below_step (belN HB.out) hb); clear HO356; clear HO360; clear HB; have HO356 := n0_; have HO360 := n1_; have HO364 := n2_; have HB := n3_; clear n0_ n1_ n2_ n3_; (try clear hb); (try clear hk); (try clear ho0); obtain ⟨Ao14, co14, eo14⟩ := Kd.R_slice HO360.out; subst eo14; have p365 : 0 ≤ (0 : Int) := (by omega); have q365 : 0 < (t357.length : Int) := of_decide_eq_true (by first | (with_reducible assumption) | assumption); obtain ⟨ad365, e365, hx365_0, hx365_1, hx365_2⟩ := at_T31 (Kd.R_reads' HO360.out).2.2 0 p365 q365; cases e365; have qi365 : (0 < t357.length) = True := eq_true (by omega); (try rw [show ((0 : Int)).toNat = 0 from rfl] at hx365_0); (try rw [show 0 * 3 = 0 from rfl] at hx365_0); (try rw [Addr.add_zero'] at hx365_0); (try rw [show ((0 : Int)).toNat = 0 from rfl] at hx365_1); (try rw [show 0 * 3 = 0 from rfl] at hx365_1); (try rw [Addr.add_zero'] at hx365_1); (try rw [show ((0 : Int)).toNat = 0 from rfl] at hx365_2); (try rw [show 0 * 3 = 0 from rfl] at hx365_2); (try rw [Addr.add_zero'] at hx365_2); replace p365 := eq_true p365; replace q365 := eq_true q365) | (go_at_call 9; (with_reducible refine (down_Bucket.calls 17 10 t366 _ A8.out).mono ?_); rintro e w' ⟨rfl, ⟨nd, rfl⟩⟩))
      go_ret
      exact ⟨by first | rfl | (simp [errW_none, errW_some] <;> rfl) | (simp [*, errW_none, errW_some] <;> rfl), (belN HB.out)⟩
     ·rw [if_neg c7] at H
      have c7b0 : (t362 == 1) = false := beq_eq_false_iff_ne.mpr c7
      have c7b1 : (t362 != 1) = true := bne_iff_ne.mpr c7
      obtain rfl := Option.some.inj H
      go_enter Try.func10, Try.ntmps10
      go_wp2_with (first | ((with_reducible refine gate_dst (N := 10) rfl ?_); (try (refine gate_guard (by rfl) ?_; dsimp only)); refine Kd.R_lit k31 _ 31 ?hg (N := 10) ?hd (xs := ([(⟨1, (⟨4, 1⟩ : S29)⟩ : S31), (⟨5, (⟨6, 1⟩ : S29)⟩ : S31)] : List (S31))) (inner := [.int .i64 1, .int .i64 4, .int .i64 1, .int .i64 5, .int .i64 6, .int .i64 1]) (ok := fun _ => True) (okp := fun _ => True) ?hr ?hp (fun _ hk => hk) trivial (Below.refl _ _) (Nat.le_refl _) (by simp) ?_; (case hd => rfl); (case hg => rfl); (case hr => first | (go_simp; done) | (go_simp; rfl)); (case hp => exact (Reps.c3 (show Kd.M k31 _ _ _ (⟨1, (⟨4, 1⟩ : S29)⟩ : S31) [.int .i64 1, .int .i64 4, .int .i64 1] from (k31_mkM _ _ _ (⟨1, (⟨4, 1⟩ : S29)⟩ : S31) )) (Reps.c3 (show Kd.M k31 _ _ _ (⟨5, (⟨6, 1⟩ : S29)⟩ : S31) [.int .i64 5, .int .i64 6, .int .i64 1] from (k31_mkM _ _ _ (⟨5, (⟨6, 1⟩ : S29)⟩ : S31) )) (Reps.none _ _)))); intro v355 w15 ho16 hb hg_ hnew_; clear hg_ hnew_; (first | rw [← Ny354.out] at ho16 | (simp only [Int.reduceToNat] at ho16; rw [← Ny354.out] at ho16)); have n0_ := Aside0.mk (Kd.R_lower ho16 (below_size (belN HB.out))); have n1_ := Aside0.mk (below_step (belN HB.out) hb); clear HB; have HO356 := n0_; have HB := n1_; clear n0_ n1_; clear hb ho16; obtain ⟨Ao17, co17, eo17⟩ := Kd.R_slice HO356.out; subst eo17) | ((with_reducible refine gate_callee (f := 12) rfl ?_); refine goesL_ (some 11) rfl rfl Try.func12 (by kernel_rfl) rfl #[.slice Ao17 y354.length co17, .int .i64 0, .int .i64 9, .int .i64 10, .int .i64 4, .bool false] rfl argN ?_; (with_reducible refine (down_Do.calls k _ _ y354 0 9 10 4 false t357 t358 _ ?side1 ?side2 A1.out).mono ?_); (case side1 => repeat (first | exact (Kd.R_reads' HO356.out).2.2 | (with_reducible refine Kd.C_alloc ?_ _) | (with_reducible refine Kd.C_drewN ?_ _) | (with_reducible refine Kd.C_drew ?_))); (case side2 => exact (Kd.R_reads' HO356.out).2.1); rintro e w18 ⟨v359, rfl, ho0, hb⟩; refine ⟨_, rfl, ?_⟩; have n0_ := Aside0.mk (Kd.R_elder' (rowN HO356.out) (Kd.R_base ho0) hb); have n1_ := Aside0.mk (Kd.R_lower (Kd.R_new' ho0 (Kd.R_lt (rowN HO356.out))) (below_size (belN HB.out))); have n2_ := Aside0.mk (below_step (belN HB.out) hb); clear HO356; clear HB; have HO356 := n0_; have HO360 := n1_; have HB := n2_; clear n0_ n1_ n2_; (try clear hb); (try clear hk); (try clear ho0)) | ((with_reducible refine gate_callee (f := 12) rfl ?_); refine goesL_ (some 15) rfl rfl Try.func12 (by kernel_rfl) rfl #[.slice none 0 0, .int .i64 0, .int .i64 9, .int .i64 0, .int .i64 4, .bool false] rfl argN ?_; (refine (down_Do.calls k _ _ ([] : List (S31)) 0 9 0 4 false t361 t362 _ ?side1 ?side2 A2.out).mono ?_); (case side1 => exact Kd.C_nil _ _); (case side2 => exact Nat.le_refl _); rintro e w19 ⟨v363, rfl, ho0, hb⟩; refine ⟨_, rfl, ?_⟩; have n0_ := Aside0.mk (Kd.R_elder' (rowN HO356.out) (Kd.R_base ho0) hb); have n1_ := Aside0.mk (Kd.R_elder' (rowN HO360.out) (Kd.R_base ho0) hb); have n2_ := Aside0.mk (Kd.R_lower (Kd.R_new' (Kd.R_new' ho0 (Kd.R_lt (rowN HO356.out))) (Kd.R_lt (rowN HO360.out))) (below_size (belN HB.out))); have n3_ := Aside0.mk (below_step (belN HB.out) hb); clear HO356; clear HO360; clear HB; have HO356 := n0_; have HO360 := n1_; have HO364 := n2_; have HB := n3_; clear n0_ n1_ n2_ n3_; (try clear hb); (try clear hk); (try clear ho0); obtain ⟨Ao20, co20, eo20⟩ := Kd.R_slice HO360.out; subst eo20; have p365 : 0 ≤ (0 : Int) := (by omega); have q365 : 0 < (t357.length : Int) := of_decide_eq_true (by first | (with_reducible assumption) | assumption); obtain ⟨ad365, e365, hx365_0, hx365_1, hx365_2⟩ := at_T31 (Kd.R_reads' HO360.out).2.2 0 p365 q365; cases e365; have qi365 : (0 < t357.length) = True := eq_true (by omega); (try rw [show ((0 : Int)).toNat = 0 from rfl] at hx365_0); (try rw [show 0 * 3 = 0 from rfl] at hx365_0); (try rw [Addr.add_zero'] at hx365_0); (try rw [show ((0 : Int)).toNat = 0 from rfl] at hx365_1); (try rw [show 0 * 3 = 0 from rfl] at hx365_1); (try rw [Addr.add_zero'] at hx365_1); (try rw [show ((0 : Int)).toNat = 0 from rfl] at hx365_2); (try rw [show 0 * 3 = 0 from rfl] at hx365_2); (try rw [Addr.add_zero'] at hx365_2); replace p365 := eq_true p365; replace q365 := eq_true q365))
      go_ret
      exact ⟨by first | rfl | (simp [errW_none, errW_some] <;> rfl) | (simp [*, errW_none, errW_some] <;> rfl), (belN HB.out)⟩
    ·rw [if_neg c6] at H
     have c6b0 : (((rd_T31 t357 0).f0) == 0 && ((((rd_T31 t357 0).f1.f0) == 5 && (((rd_T31 t357 0).f1.f1) == 1)))) = false := by simpa using c6
     (try (have c6b1 : decide (((rd_T31 t357 0).f0) = 0 && ((((rd_T31 t357 0).f1.f0) == 5 && (((rd_T31 t357 0).f1.f1) == 1)))) = false := by simpa using c6))
     (try (have c6b2 : (((rd_T31 t357 0).f0) == 0 && ((((rd_T31 t357 0).f1.f0) == 5 && (((rd_T31 t357 0).f1.f1) == 1)))) = false := by simpa using c6))
     (try (have c6b3 : ¬ (((rd_T31 t357 0).f0) = 0 && ((((rd_T31 t357 0).f1.f0) == 5 && (((rd_T31 t357 0).f1.f1) == 1)))) := by simpa using c6))
     clear c6
     obtain rfl := Option.some.inj H
     go_enter Try.func10, Try.ntmps10
     go_wp2_with (first | ((with_reducible refine gate_dst (N := 10) rfl ?_); (try (refine gate_guard (by rfl) ?_; dsimp only)); refine Kd.R_lit k31 _ 31 ?hg (N := 10) ?hd (xs := ([(⟨1, (⟨4, 1⟩ : S29)⟩ : S31), (⟨5, (⟨6, 1⟩ : S29)⟩ : S31)] : List (S31))) (inner := [.int .i64 1, .int .i64 4, .int .i64 1, .int .i64 5, .int .i64 6, .int .i64 1]) (ok := fun _ => True) (okp := fun _ => True) ?hr ?hp (fun _ hk => hk) trivial (Below.refl _ _) (Nat.le_refl _) (by simp) ?_; (case hd => rfl); (case hg => rfl); (case hr => first | (go_simp; done) | (go_simp; rfl)); (case hp => exact (Reps.c3 (show Kd.M k31 _ _ _ (⟨1, (⟨4, 1⟩ : S29)⟩ : S31) [.int .i64 1, .int .i64 4, .int .i64 1] from (k31_mkM _ _ _ (⟨1, (⟨4, 1⟩ : S29)⟩ : S31) )) (Reps.c3 (show Kd.M k31 _ _ _ (⟨5, (⟨6, 1⟩ : S29)⟩ : S31) [.int .i64 5, .int .i64 6, .int .i64 1] from (k31_mkM _ _ _ (⟨5, (⟨6, 1⟩ : S29)⟩ : S31) )) (Reps.none _ _)))); intro v355 w21 ho22 hb hg_ hnew_; clear hg_ hnew_; (first | rw [← Ny354.out] at ho22 | (simp only [Int.reduceToNat] at ho22; rw [← Ny354.out] at ho22)); have n0_ := Aside0.mk (Kd.R_lower ho22 (below_size (belN HB.out))); have n1_ := Aside0.mk (below_step (belN HB.out) hb); clear HB; have HO356 := n0_; have HB := n1_; clear n0_ n1_; clear hb ho22; obtain ⟨Ao23, co23, eo23⟩ := Kd.R_slice HO356.out; subst eo23) | ((with_reducible refine gate_callee (f := 12) rfl ?_); refine goesL_ (some 11) rfl rfl Try.func12 (by kernel_rfl) rfl #[.slice Ao23 y354.length co23, .int .i64 0, .int .i64 9, .int .i64 10, .int .i64 4, .bool false] rfl argN ?_; (with_reducible refine (down_Do.calls k _ _ y354 0 9 10 4 false t357 t358 _ ?side1 ?side2 A1.out).mono ?_); (case side1 => repeat (first | exact (Kd.R_reads' HO356.out).2.2 | (with_reducible refine Kd.C_alloc ?_ _) | (with_reducible refine Kd.C_drewN ?_ _) | (with_reducible refine Kd.C_drew ?_))); (case side2 => exact (Kd.R_reads' HO356.out).2.1); rintro e w24 ⟨v359, rfl, ho0, hb⟩; refine ⟨_, rfl, ?_⟩; have n0_ := Aside0.mk (Kd.R_elder' (rowN HO356.out) (Kd.R_base ho0) hb); have n1_ := Aside0.mk (Kd.R_lower (Kd.R_new' ho0 (Kd.R_lt (rowN HO356.out))) (below_size (belN HB.out))); have n2_ := Aside0.mk (below_step (belN HB.out) hb); clear HO356; clear HB; have HO356 := n0_; have HO360 := n1_; have HB := n2_; clear n0_ n1_ n2_; (try clear hb); (try clear hk); (try clear ho0)) | ((with_reducible refine gate_callee (f := 12) rfl ?_); refine goesL_ (some 15) rfl rfl Try.func12 (by kernel_rfl) rfl #[.slice none 0 0, .int .i64 0, .int .i64 9, .int .i64 0, .int .i64 4, .bool false] rfl argN ?_; (refine (down_Do.calls k _ _ ([] : List (S31)) 0 9 0 4 false t361 t362 _ ?side1 ?side2 A2.out).mono ?_); (case side1 => exact Kd.C_nil _ _); (case side2 => exact Nat.le_refl _); rintro e w25 ⟨v363, rfl, ho0, hb⟩; refine ⟨_, rfl, ?_⟩; have n0_ := Aside0.mk (Kd.R_elder' (rowN HO356.out) (Kd.R_base ho0) hb); have n1_ := Aside0.mk (Kd.R_elder' (rowN HO360.out) (Kd.R_base ho0) hb); have n2_ := Aside0.mk (Kd.R_lower (Kd.R_new' (Kd.R_new' ho0 (Kd.R_lt (rowN HO356.out))) (Kd.R_lt (rowN HO360.out))) (below_size (belN HB.out))); have n3_ := Aside0.mk (below_step (belN HB.out) hb); clear HO356; clear HO360; clear HB; have HO356 := n0_; have HO360 := n1_; have HO364 := n2_; have HB := n3_; clear n0_ n1_ n2_ n3_; (try clear hb); (try clear hk); (try clear ho0); obtain ⟨Ao26, co26, eo26⟩ := Kd.R_slice HO360.out; subst eo26; have p365 : 0 ≤ (0 : Int) := (by omega); have q365 : 0 < (t357.length : Int) := of_decide_eq_true (by first | (with_reducible assumption) | assumption); obtain ⟨ad365, e365, hx365_0, hx365_1, hx365_2⟩ := at_T31 (Kd.R_reads' HO360.out).2.2 0 p365 q365; cases e365; have qi365 : (0 < t357.length) = True := eq_true (by omega); (try rw [show ((0 : Int)).toNat = 0 from rfl] at hx365_0); (try rw [show 0 * 3 = 0 from rfl] at hx365_0); (try rw [Addr.add_zero'] at hx365_0); (try rw [show ((0 : Int)).toNat = 0 from rfl] at hx365_1); (try rw [show 0 * 3 = 0 from rfl] at hx365_1); (try rw [Addr.add_zero'] at hx365_1); (try rw [show ((0 : Int)).toNat = 0 from rfl] at hx365_2); (try rw [show 0 * 3 = 0 from rfl] at hx365_2); (try rw [Addr.add_zero'] at hx365_2); replace p365 := eq_true p365; replace q365 := eq_true q365))
     go_ret
     exact ⟨by first | rfl | (simp [errW_none, errW_some] <;> rfl) | (simp [*, errW_none, errW_some] <;> rfl), (belN HB.out)⟩
   ·rw [if_neg c5] at H
    exact absurd H (by simp)
  ·rw [if_neg c4] at H
   have c4b0 : ((t357.length : Int) == 1) = false := beq_eq_false_iff_ne.mpr c4
   have c4b1 : ((t357.length : Int) != 1) = true := bne_iff_ne.mpr c4
   obtain rfl := Option.some.inj H
   go_enter Try.func10, Try.ntmps10
   go_wp2_with (first | ((with_reducible refine gate_dst (N := 10) rfl ?_); (try (refine gate_guard (by rfl) ?_; dsimp only)); refine Kd.R_lit k31 _ 31 ?hg (N := 10) ?hd (xs := ([(⟨1, (⟨4, 1⟩ : S29)⟩ : S31), (⟨5, (⟨6, 1⟩ : S29)⟩ : S31)] : List (S31))) (inner := [.int .i64 1, .int .i64 4, .int .i64 1, .int .i64 5, .int .i64 6, .int .i64 1]) (ok := fun _ => True) (okp := fun _ => True) ?hr ?hp (fun _ hk => hk) trivial (Below.refl _ _) (Nat.le_refl _) (by simp) ?_; (case hd => rfl); (case hg => rfl); (case hr => first | (go_simp; done) | (go_simp; rfl)); (case hp => exact (Reps.c3 (show Kd.M k31 _ _ _ (⟨1, (⟨4, 1⟩ : S29)⟩ : S31) [.int .i64 1, .int .i64 4, .int .i64 1] from (k31_mkM _ _ _ (⟨1, (⟨4, 1⟩ : S29)⟩ : S31) )) (Reps.c3 (show Kd.M k31 _ _ _ (⟨5, (⟨6, 1⟩ : S29)⟩ : S31) [.int .i64 5, .int .i64 6, .int .i64 1] from (k31_mkM _ _ _ (⟨5, (⟨6, 1⟩ : S29)⟩ : S31) )) (Reps.none _ _)))); intro v355 w27 ho28 hb hg_ hnew_; clear hg_ hnew_; (first | rw [← Ny354.out] at ho28 | (simp only [Int.reduceToNat] at ho28; rw [← Ny354.out] at ho28)); have n0_ := Aside0.mk (Kd.R_lower ho28 (below_size (belN HB.out))); have n1_ := Aside0.mk (below_step (belN HB.out) hb); clear HB; have HO356 := n0_; have HB := n1_; clear n0_ n1_; clear hb ho28; obtain ⟨Ao29, co29, eo29⟩ := Kd.R_slice HO356.out; subst eo29) | ((with_reducible refine gate_callee (f := 12) rfl ?_); refine goesL_ (some 11) rfl rfl Try.func12 (by kernel_rfl) rfl #[.slice Ao29 y354.length co29, .int .i64 0, .int .i64 9, .int .i64 10, .int .i64 4, .bool false] rfl argN ?_; (with_reducible refine (down_Do.calls k _ _ y354 0 9 10 4 false t357 t358 _ ?side1 ?side2 A1.out).mono ?_); (case side1 => repeat (first | exact (Kd.R_reads' HO356.out).2.2 | (with_reducible refine Kd.C_alloc ?_ _) | (with_reducible refine Kd.C_drewN ?_ _) | (with_reducible refine Kd.C_drew ?_))); (case side2 => exact (Kd.R_reads' HO356.out).2.1); rintro e w30 ⟨v359, rfl, ho0, hb⟩; refine ⟨_, rfl, ?_⟩; have n0_ := Aside0.mk (Kd.R_elder' (rowN HO356.out) (Kd.R_base ho0) hb); have n1_ := Aside0.mk (Kd.R_lower (Kd.R_new' ho0 (Kd.R_lt (rowN HO356.out))) (below_size (belN HB.out))); have n2_ := Aside0.mk (below_step (belN HB.out) hb); clear HO356; clear HB; have HO356 := n0_; have HO360 := n1_; have HB := n2_; clear n0_ n1_ n2_; (try clear hb); (try clear hk); (try clear ho0)) | ((with_reducible refine gate_callee (f := 12) rfl ?_); refine goesL_ (some 15) rfl rfl Try.func12 (by kernel_rfl) rfl #[.slice none 0 0, .int .i64 0, .int .i64 9, .int .i64 0, .int .i64 4, .bool false] rfl argN ?_; (refine (down_Do.calls k _ _ ([] : List (S31)) 0 9 0 4 false t361 t362 _ ?side1 ?side2 A2.out).mono ?_); (case side1 => exact Kd.C_nil _ _); (case side2 => exact Nat.le_refl _); rintro e w31 ⟨v363, rfl, ho0, hb⟩; refine ⟨_, rfl, ?_⟩; have n0_ := Aside0.mk (Kd.R_elder' (rowN HO356.out) (Kd.R_base ho0) hb); have n1_ := Aside0.mk (Kd.R_elder' (rowN HO360.out) (Kd.R_base ho0) hb); have n2_ := Aside0.mk (Kd.R_lower (Kd.R_new' (Kd.R_new' ho0 (Kd.R_lt (rowN HO356.out))) (Kd.R_lt (rowN HO360.out))) (below_size (belN HB.out))); have n3_ := Aside0.mk (below_step (belN HB.out) hb); clear HO356; clear HO360; clear HB; have HO356 := n0_; have HO360 := n1_; have HO364 := n2_; have HB := n3_; clear n0_ n1_ n2_ n3_; (try clear hb); (try clear hk); (try clear ho0); obtain ⟨Ao32, co32, eo32⟩ := Kd.R_slice HO360.out; subst eo32))
   go_ret
   exact ⟨by first | rfl | (simp [errW_none, errW_some] <;> rfl) | (simp [*, errW_none, errW_some] <;> rfl), (belN HB.out)⟩
 ·rw [if_neg c3] at H
  have c3b0 : (t358 == 0) = false := beq_eq_false_iff_ne.mpr c3
  have c3b1 : (t358 != 0) = true := bne_iff_ne.mpr c3
  obtain rfl := Option.some.inj H
  go_enter Try.func10, Try.ntmps10
  go_wp2_with (first | ((with_reducible refine gate_dst (N := 10) rfl ?_); (try (refine gate_guard (by rfl) ?_; dsimp only)); refine Kd.R_lit k31 _ 31 ?hg (N := 10) ?hd (xs := ([(⟨1, (⟨4, 1⟩ : S29)⟩ : S31), (⟨5, (⟨6, 1⟩ : S29)⟩ : S31)] : List (S31))) (inner := [.int .i64 1, .int .i64 4, .int .i64 1, .int .i64 5, .int .i64 6, .int .i64 1]) (ok := fun _ => True) (okp := fun _ => True) ?hr ?hp (fun _ hk => hk) trivial (Below.refl _ _) (Nat.le_refl _) (by simp) ?_; (case hd => rfl); (case hg => rfl); (case hr => first | (go_simp; done) | (go_simp; rfl)); (case hp => exact (Reps.c3 (show Kd.M k31 _ _ _ (⟨1, (⟨4, 1⟩ : S29)⟩ : S31) [.int .i64 1, .int .i64 4, .int .i64 1] from (k31_mkM _ _ _ (⟨1, (⟨4, 1⟩ : S29)⟩ : S31) )) (Reps.c3 (show Kd.M k31 _ _ _ (⟨5, (⟨6, 1⟩ : S29)⟩ : S31) [.int .i64 5, .int .i64 6, .int .i64 1] from (k31_mkM _ _ _ (⟨5, (⟨6, 1⟩ : S29)⟩ : S31) )) (Reps.none _ _)))); intro v355 w33 ho34 hb hg_ hnew_; clear hg_ hnew_; (first | rw [← Ny354.out] at ho34 | (simp only [Int.reduceToNat] at ho34; rw [← Ny354.out] at ho34)); have n0_ := Aside0.mk (Kd.R_lower ho34 (below_size (belN HB.out))); have n1_ := Aside0.mk (below_step (belN HB.out) hb); clear HB; have HO356 := n0_; have HB := n1_; clear n0_ n1_; clear hb ho34; obtain ⟨Ao35, co35, eo35⟩ := Kd.R_slice HO356.out; subst eo35) | ((with_reducible refine gate_callee (f := 12) rfl ?_); refine goesL_ (some 11) rfl rfl Try.func12 (by kernel_rfl) rfl #[.slice Ao35 y354.length co35, .int .i64 0, .int .i64 9, .int .i64 10, .int .i64 4, .bool false] rfl argN ?_; (with_reducible refine (down_Do.calls k _ _ y354 0 9 10 4 false t357 t358 _ ?side1 ?side2 A1.out).mono ?_); (case side1 => repeat (first | exact (Kd.R_reads' HO356.out).2.2 | (with_reducible refine Kd.C_alloc ?_ _) | (with_reducible refine Kd.C_drewN ?_ _) | (with_reducible refine Kd.C_drew ?_))); (case side2 => exact (Kd.R_reads' HO356.out).2.1); rintro e w36 ⟨v359, rfl, ho0, hb⟩; refine ⟨_, rfl, ?_⟩; have n0_ := Aside0.mk (Kd.R_elder' (rowN HO356.out) (Kd.R_base ho0) hb); have n1_ := Aside0.mk (Kd.R_lower (Kd.R_new' ho0 (Kd.R_lt (rowN HO356.out))) (below_size (belN HB.out))); have n2_ := Aside0.mk (below_step (belN HB.out) hb); clear HO356; clear HB; have HO356 := n0_; have HO360 := n1_; have HB := n2_; clear n0_ n1_ n2_; (try clear hb); (try clear hk); (try clear ho0)) | ((with_reducible refine gate_callee (f := 12) rfl ?_); refine goesL_ (some 15) rfl rfl Try.func12 (by kernel_rfl) rfl #[.slice none 0 0, .int .i64 0, .int .i64 9, .int .i64 0, .int .i64 4, .bool false] rfl argN ?_; (refine (down_Do.calls k _ _ ([] : List (S31)) 0 9 0 4 false t361 t362 _ ?side1 ?side2 A2.out).mono ?_); (case side1 => exact Kd.C_nil _ _); (case side2 => exact Nat.le_refl _); rintro e w37 ⟨v363, rfl, ho0, hb⟩; refine ⟨_, rfl, ?_⟩; have n0_ := Aside0.mk (Kd.R_elder' (rowN HO356.out) (Kd.R_base ho0) hb); have n1_ := Aside0.mk (Kd.R_elder' (rowN HO360.out) (Kd.R_base ho0) hb); have n2_ := Aside0.mk (Kd.R_lower (Kd.R_new' (Kd.R_new' ho0 (Kd.R_lt (rowN HO356.out))) (Kd.R_lt (rowN HO360.out))) (below_size (belN HB.out))); have n3_ := Aside0.mk (below_step (belN HB.out) hb); clear HO356; clear HO360; clear HB; have HO356 := n0_; have HO360 := n1_; have HO364 := n2_; have HB := n3_; clear n0_ n1_ n2_ n3_; (try clear hb); (try clear hk); (try clear ho0)))
  go_ret
  exact ⟨by first | rfl | (simp [errW_none, errW_some] <;> rfl) | (simp [*, errW_none, errW_some] <;> rfl), (belN HB.out)⟩

-- NOT PRINTED: function 4 (marigraphlaw21_DownTells)

end Go.Proofs.Ytlmhgjnlbokceaa.PDownTells

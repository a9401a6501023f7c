/- The walk of the Go functions that a law reaches, told as plain functions; a program of this session has written it. No condition beyond the statement's own. -/
import Derived.Test.YtdnialldicdnoaaPRateSumsx0
import Derived.Test.YtdnialldicdnoaaPRateSumsx1
import Derived.Test.YtdnialldicdnoaaPRateSumsx2
import Derived.Test.YtdnialldicdnoaaPRateSumsx3
import Derived.Test.YtdnialldicdnoaaPRateSumsx8
namespace Go.Proofs.Ytdnialldicdnoaa.PRateSums
open Go.RowKit Go.Proofs.YtdnialldicdnoaaW.PrintWords Go.Proofs.YtdnialldicdnoaaW.PrintLast Go.Proofs.YtdnialldicdnoaaW.PrintMore
attribute [local go_sem] max2_int min2_int max_two min_two max_three min_three max_four min_four   -- for this text's walks alone
set_option linter.unusedVariables false
set_option linter.unusedSimpArgs false

attribute [local go_sem high] eqA28 eqA30
/-! ### marigraphlaw24_known: function 23 -/
def marigraphlaw24_known.f (k : Nat)  : Option (Bool) := (rate_Do.f k (([(⟨0, (⟨1, 1⟩ : S28)⟩ : S30), (⟨10, (⟨6, 1⟩ : S28)⟩ : S30)] : List (S30))) false 0).bind fun bt222 => ((rate_Do.f k (([(⟨0, (⟨8, 1⟩ : S28)⟩ : S30), (⟨3, (⟨1, 1⟩ : S28)⟩ : S30)] : List (S30))) true 10).bind fun bt229 => (if bt222.2 = 0 then (if (bt222.1.length : Int) = 1 then (if 0 < (bt222.1.length : Int) then (if (((rd_T30 bt222.1 0).f0) == 10 && ((((rd_T30 bt222.1 0).f1.f0) == 1 && (((rd_T30 bt222.1 0).f1.f1) == 2)))) = true then (if bt229.2 = 0 then (if (bt229.1.length : Int) = 1 then (if 0 < (bt229.1.length : Int) then (some (((rd_T30 bt229.1 0).f1.f0) == 1 && (((rd_T30 bt229.1 0).f1.f1) == 1))) else (none)) else (some false)) else (some false)) else (some false)) else (none)) else (some false)) else (some false)))
theorem marigraphlaw24_known.mono : ∀ k, LeO (marigraphlaw24_known.f k ) (marigraphlaw24_known.f (k + 1) ) := by
 intro  k
 unfold marigraphlaw24_known.f
 repeat' first
   | (with_reducible exact rate_Do.mono _ _ _ _)
   | (with_reducible exact LeO.refl _)
   | (with_reducible exact LeO.none _)
   | (with_reducible refine LeO.ite ?_ ?_)
   | (with_reducible refine LeO.bind ?_ (fun _ => ?_))
   | exact rate_Do.mono _ _ _ _
   | exact LeO.none _
   | refine LeO.ite ?_ ?_
   | refine LeO.bind ?_ (fun _ => ?_)
set_option maxHeartbeats 8000000 in
set_option maxRecDepth 100000 in
theorem marigraphlaw24_known.calls (k : Nat)  (r : Bool) (w : World) (h : marigraphlaw24_known.f k  = some r) :
  Calls Try.prog 23 #[] w fun e w' => e = .returned (.bool r) ∧ Below w.heap.size w w' := by
 have hu28 := Try.underlying28
 have hu30 := Try.underlying30
 have HB := Aside0.mk (Below.refl w.heap.size w)
 have H : ((rate_Do.f k (([(⟨0, (⟨1, 1⟩ : S28)⟩ : S30), (⟨10, (⟨6, 1⟩ : S28)⟩ : S30)] : List (S30))) false 0).bind fun bt222 => ((rate_Do.f k (([(⟨0, (⟨8, 1⟩ : S28)⟩ : S30), (⟨3, (⟨1, 1⟩ : S28)⟩ : S30)] : List (S30))) true 10).bind fun bt229 => (if bt222.2 = 0 then (if (bt222.1.length : Int) = 1 then (if 0 < (bt222.1.length : Int) then (if (((rd_T30 bt222.1 0).f0) == 10 && ((((rd_T30 bt222.1 0).f1.f0) == 1 && (((rd_T30 bt222.1 0).f1.f1) == 2)))) = true then (if bt229.2 = 0 then (if (bt229.1.length : Int) = 1 then (if 0 < (bt229.1.length : Int) then (some (((rd_T30 bt229.1 0).f1.f0) == 1 && (((rd_T30 bt229.1 0).f1.f1) == 1))) else (none)) else (some false)) else (some false)) else (some false)) else (none)) else (some false)) else (some false)))) = some r := h
 clear h
 obtain ⟨y219, hy219⟩ : ∃ y_ : List (S30), y_ = (([(⟨0, (⟨1, 1⟩ : S28)⟩ : S30), (⟨10, (⟨6, 1⟩ : S28)⟩ : S30)] : List (S30))) := ⟨_, rfl⟩
 replace H : ((rate_Do.f k y219 false 0).bind fun bt222 => ((rate_Do.f k (([(⟨0, (⟨8, 1⟩ : S28)⟩ : S30), (⟨3, (⟨1, 1⟩ : S28)⟩ : S30)] : List (S30))) true 10).bind fun bt229 => (if bt222.2 = 0 then (if (bt222.1.length : Int) = 1 then (if 0 < (bt222.1.length : Int) then (if (((rd_T30 bt222.1 0).f0) == 10 && ((((rd_T30 bt222.1 0).f1.f0) == 1 && (((rd_T30 bt222.1 0).f1.f1) == 2)))) = true then (if bt229.2 = 0 then (if (bt229.1.length : Int) = 1 then (if 0 < (bt229.1.length : Int) then (some (((rd_T30 bt229.1 0).f1.f0) == 1 && (((rd_T30 bt229.1 0).f1.f1) == 1))) else (none)) else (some false)) else (some false)) else (some false)) else (none)) else (some false)) else (some false)))) = some r := by first | (rw [hy219]; with_reducible exact H) | (have H2_ := (Option.bind_some _ _).symm.trans H; rw [hy219]; with_reducible exact H2_) | (have H2_ := (Option.bind_some _ _).symm.trans H; with_reducible exact H2_) | with_reducible exact H | (rw [hy219]; exact H) | exact H
 have Ny219 := Aside0.mk hy219
 clear hy219
 replace H := Option.bind_eq_some_iff.mp H
 obtain ⟨⟨t222, t223⟩, A10, H⟩ := H
 replace H : ((rate_Do.f k (([(⟨0, (⟨8, 1⟩ : S28)⟩ : S30), (⟨3, (⟨1, 1⟩ : S28)⟩ : S30)] : List (S30))) true 10).bind fun bt229 => (if t223 = 0 then (if (t222.length : Int) = 1 then (if 0 < (t222.length : Int) then (if (((rd_T30 t222 0).f0) == 10 && ((((rd_T30 t222 0).f1.f0) == 1 && (((rd_T30 t222 0).f1.f1) == 2)))) = true then (if bt229.2 = 0 then (if (bt229.1.length : Int) = 1 then (if 0 < (bt229.1.length : Int) then (some (((rd_T30 bt229.1 0).f1.f0) == 1 && (((rd_T30 bt229.1 0).f1.f1) == 1))) else (none)) else (some false)) else (some false)) else (some false)) else (none)) else (some false)) else (some false))) = some r := H
 have A1 := Aside0.mk A10
 clear A10
 obtain ⟨y226, hy226⟩ : ∃ y_ : List (S30), y_ = (([(⟨0, (⟨8, 1⟩ : S28)⟩ : S30), (⟨3, (⟨1, 1⟩ : S28)⟩ : S30)] : List (S30))) := ⟨_, rfl⟩
 replace H : ((rate_Do.f k y226 true 10).bind fun bt229 => (if t223 = 0 then (if (t222.length : Int) = 1 then (if 0 < (t222.length : Int) then (if (((rd_T30 t222 0).f0) == 10 && ((((rd_T30 t222 0).f1.f0) == 1 && (((rd_T30 t222 0).f1.f1) == 2)))) = true then (if bt229.2 = 0 then (if (bt229.1.length : Int) = 1 then (if 0 < (bt229.1.length : Int) then (some (((rd_T30 bt229.1 0).f1.f0) == 1 && (((rd_T30 bt229.1 0).f1.f1) == 1))) else (none)) else (some false)) else (some false)) else (some false)) else (none)) else (some false)) else (some false))) = some r := by first | (rw [hy226]; with_reducible exact H) | (have H2_ := (Option.bind_some _ _).symm.trans H; rw [hy226]; with_reducible exact H2_) | (have H2_ := (Option.bind_some _ _).symm.trans H; with_reducible exact H2_) | with_reducible exact H | (rw [hy226]; exact H) | exact H
 have Ny226 := Aside0.mk hy226
 clear hy226
 replace H := Option.bind_eq_some_iff.mp H
 obtain ⟨⟨t229, t230⟩, A20, H⟩ := H
 replace H : (if t223 = 0 then (if (t222.length : Int) = 1 then (if 0 < (t222.length : Int) then (if (((rd_T30 t222 0).f0) == 10 && ((((rd_T30 t222 0).f1.f0) == 1 && (((rd_T30 t222 0).f1.f1) == 2)))) = true then (if t230 = 0 then (if (t229.length : Int) = 1 then (if 0 < (t229.length : Int) then (some (((rd_T30 t229 0).f1.f0) == 1 && (((rd_T30 t229 0).f1.f1) == 1))) else (none)) else (some false)) else (some false)) else (some false)) else (none)) else (some false)) else (some false)) = some r := H
 have A2 := Aside0.mk A20
 clear A20
 by_cases c3 : t223 = 0
 ·rw [if_pos c3] at H
  have c3b0 : (t223 == 0) = true := beq_iff_eq.mpr c3
  have c3b1 : (t223 != 0) = false := bne_eq_false_iff_eq.mpr c3
  clear c3
  by_cases c4 : (t222.length : Int) = 1
  ·rw [if_pos c4] at H
   have c4b0 : ((t222.length : Int) == 1) = true := beq_iff_eq.mpr c4
   have c4b1 : ((t222.length : Int) != 1) = false := bne_eq_false_iff_eq.mpr c4
   clear c4
   by_cases c5 : 0 < (t222.length : Int)
   ·rw [if_pos c5] at H
    have c5b0 : decide (0 < (t222.length : Int)) = true := decide_eq_true c5
    have c5b1 : decide (0 < t222.length) = true := decide_eq_true (by omega)
    clear c5
    by_cases c6 : (((rd_T30 t222 0).f0) == 10 && ((((rd_T30 t222 0).f1.f0) == 1 && (((rd_T30 t222 0).f1.f1) == 2)))) = true
    ·rw [if_pos c6] at H
     have c6b0 : (((rd_T30 t222 0).f0) == 10 && ((((rd_T30 t222 0).f1.f0) == 1 && (((rd_T30 t222 0).f1.f1) == 2)))) = true := c6
     (try (have c6b1 : decide (((rd_T30 t222 0).f0) = 10 && ((((rd_T30 t222 0).f1.f0) == 1 && (((rd_T30 t222 0).f1.f1) == 2)))) = true := by simpa using c6))
     (try (have c6b2 : (((rd_T30 t222 0).f0) == 10 && ((((rd_T30 t222 0).f1.f0) == 1 && (((rd_T30 t222 0).f1.f1) == 2)))) = true := by simpa using c6))
     clear c6
     by_cases c7 : t230 = 0
     ·rw [if_pos c7] at H
      have c7b0 : (t230 == 0) = true := beq_iff_eq.mpr c7
      have c7b1 : (t230 != 0) = false := bne_eq_false_iff_eq.mpr c7
      clear c7
      by_cases c8 : (t229.length : Int) = 1
      ·rw [if_pos c8] at H
       have c8b0 : ((t229.length : Int) == 1) = true := beq_iff_eq.mpr c8
       have c8b1 : ((t229.length : Int) != 1) = false := bne_eq_false_iff_eq.mpr c8
       clear c8
       by_cases c9 : 0 < (t229.length : Int)
       ·rw [if_pos c9] at H
        have c9b0 : decide (0 < (t229.length : Int)) = true := decide_eq_true c9
        have c9b1 : decide (0 < t229.length) = true := decide_eq_true (by omega)
        clear c9
        obtain rfl := Option.some.inj H
        go_enter Try.func23, Try.ntmps23
        go_wp2_with (first | ((with_reducible refine gate_dst (N := 10) rfl ?_); (try (refine gate_guard (by rfl) ?_; dsimp only)); refine Kd.R_lit k30 _ 30 ?hg (N := 10) ?hd (xs := ([(⟨0, (⟨1, 1⟩ : S28)⟩ : S30), (⟨10, (⟨6, 1⟩ : S28)⟩ : S30)] : List (S30))) (inner := [.int .i64 0, .int .i64 1, .int .i64 1, .int .i64 10, .int .i64 6, .int .i64 1]) (ok := fun _ => True) (okp := fun _ => True) ?hr ?hp (fun _ hk => hk) trivial (Below.refl _ _) (Nat.le_refl _) (by simp) ?_; (case hd => rfl); (case hg => rfl); (case hr => first | (go_simp; done) | (go_simp; rfl)); (case hp => exact (Reps.c3 (show Kd.M k30 _ _ _ (⟨0, (⟨1, 1⟩ : S28)⟩ : S30) [.int .i64 0, .int .i64 1, .int .i64 1] from (k30_mkM _ _ _ (⟨0, (⟨1, 1⟩ : S28)⟩ : S30) )) (Reps.c3 (show Kd.M k30 _ _ _ (⟨10, (⟨6, 1⟩ : S28)⟩ : S30) [.int .i64 10, .int .i64 6, .int .i64 1] from (k30_mkM _ _ _ (⟨10, (⟨6, 1⟩ : S28)⟩ : S30) )) (Reps.none _ _)))); intro v220 w10 ho11 hb hg_ hnew_; clear hg_ hnew_; (first | rw [← Ny219.out] at ho11 | (simp only [Int.reduceToNat] at ho11; rw [← Ny219.out] at ho11)); have n0_ := Aside0.mk (Kd.R_lower ho11 (below_size (belN HB.out))); have n1_ := Aside0.mk (below_step (belN HB.out) hb); clear HB; have HO221 := n0_; have HB := n1_; clear n0_ n1_; clear hb ho11; obtain ⟨Ao12, co12, eo12⟩ := Kd.R_slice HO221.out; subst eo12) | ((with_reducible refine gate_callee (f := 24) rfl ?_); refine goesL_ (some 11) rfl rfl Try.func24 (by kernel_rfl) rfl #[.slice Ao12 y219.length co12, .bool false, .int .i64 0] rfl argN ?_; (with_reducible refine (rate_Do.calls k _ _ y219 false 0 t222 t223 _ ?side1 ?side2 A1.out).mono ?_); (case side1 => repeat (first | exact (Kd.R_reads' HO221.out).2.2 | (with_reducible refine Kd.C_alloc ?_ _) | (with_reducible refine Kd.C_drewN ?_ _) | (with_reducible refine Kd.C_drew ?_))); (case side2 => exact (Kd.R_reads' HO221.out).2.1); rintro e w13 ⟨v224, rfl, ho0, hb⟩; refine ⟨_, rfl, ?_⟩; have n0_ := Aside0.mk (Kd.R_elder' (rowN HO221.out) (Kd.R_base ho0) hb); have n1_ := Aside0.mk (Kd.R_lower (Kd.R_new' ho0 (Kd.R_lt (rowN HO221.out))) (below_size (belN HB.out))); have n2_ := Aside0.mk (below_step (belN HB.out) hb); clear HO221; clear HB; have HO221 := n0_; have HO225 := n1_; have HB := n2_; clear n0_ n1_ n2_; (try clear hb); (try clear hb2); (try clear hk); (try clear hi); (try clear ho0)) | ((with_reducible refine gate_dst (N := 19) rfl ?_); (try (refine gate_guard (by rfl) ?_; dsimp only)); refine Kd.R_lit k30 _ 30 ?hg (N := 19) ?hd (xs := ([(⟨0, (⟨8, 1⟩ : S28)⟩ : S30), (⟨3, (⟨1, 1⟩ : S28)⟩ : S30)] : List (S30))) (inner := [.int .i64 0, .int .i64 8, .int .i64 1, .int .i64 3, .int .i64 1, .int .i64 1]) (ok := fun _ => True) (okp := fun _ => True) ?hr ?hp (fun _ hk => hk) trivial (Below.refl _ _) (Nat.le_refl _) (by simp) ?_; (case hd => rfl); (case hg => rfl); (case hr => first | (go_simp; done) | (go_simp; rfl)); (case hp => exact (Reps.c3 (show Kd.M k30 _ _ _ (⟨0, (⟨8, 1⟩ : S28)⟩ : S30) [.int .i64 0, .int .i64 8, .int .i64 1] from (k30_mkM _ _ _ (⟨0, (⟨8, 1⟩ : S28)⟩ : S30) )) (Reps.c3 (show Kd.M k30 _ _ _ (⟨3, (⟨1, 1⟩ : S28)⟩ : S30) [.int .i64 3, .int .i64 1, .int .i64 1] from (k30_mkM _ _ _ (⟨3, (⟨1, 1⟩ : S28)⟩ : S30) )) (Reps.none _ _)))); intro v227 w14 ho15 hb hg_ hnew_; clear hg_ hnew_; (first | rw [← Ny226.out] at ho15 | (simp only [Int.reduceToNat] at ho15; rw [← Ny226.out] at ho15)); have n0_ := Aside0.mk (Kd.R_elder' (rowN HO221.out) (Kd.R_base ho15) hb); have n1_ := Aside0.mk (Kd.R_elder' (rowN HO225.out) (Kd.R_base ho15) hb); have n2_ := Aside0.mk (Kd.R_lower (Kd.R_new' (Kd.R_new' ho15 (Kd.R_lt (rowN HO221.out))) (Kd.R_lt (rowN HO225.out))) (below_size (belN HB.out))); have n3_ := Aside0.mk (below_step (belN HB.out) hb); clear HO221; clear HO225; clear HB; have HO221 := n0_; have HO225 := n1_; have HO228 := n2_; have HB := n3_; clear n0_ n1_ n2_ n3_; clear hb ho15; obtain ⟨Ao16, co16, eo16⟩ := Kd.R_slice HO228.out; subst eo16) | ((with_reducible refine gate_callee (f := 24) rfl ?_); refine goesL_ (some 20) rfl rfl Try.func24 (by kernel_rfl) rfl #[.slice Ao16 y226.length co16, .bool true, .int .i64 10] rfl argN ?_; (with_reducible refine (rate_Do.calls k _ _ y226 true 10 t229 t230 _ ?side1 ?side2 A2.out).mono ?_); (case side1 => repeat (first | exact (Kd.R_reads' HO228.out).2.2 | (with_reducible refine Kd.C_alloc ?_ _) | (with_reducible refine Kd.C_drewN ?_ _) | (with_reducible refine Kd.C_drew ?_))); (case side2 => exact (Kd.R_reads' HO228.out).2.1); rintro e w17 ⟨v231, rfl, ho0, hb⟩; refine ⟨_, rfl, ?_⟩; have n0_ := Aside0.mk (Kd.R_elder' (rowN HO221.out) (Kd.R_base ho0) hb); have n1_ := Aside0.mk (Kd.R_elder' (rowN HO225.out) (Kd.R_base ho0) hb); have n2_ := Aside0.mk (Kd.R_elder' (rowN HO228.out) (Kd.R_base ho0) hb); have n3_ := Aside0.mk (Kd.R_lower (Kd.R_new' (Kd.R_new' (Kd.R_new' ho0 (Kd.R_lt (rowN HO221.out))) (Kd.R_lt (rowN HO225.out))) (Kd.R_lt (rowN HO228.out))) (below_size (belN HB.out))); have n4_ := Aside0.mk (below_step (belN HB.out) hb); clear HO221; clear HO225; clear HO228; clear HB; have HO221 := n0_; have HO225 := n1_; have HO228 := n2_; have HO232 := n3_; have HB := n4_; clear n0_ n1_ n2_ n3_ n4_; (try clear hb); (try clear hb2); (try clear hk); (try clear hi); (try clear ho0); obtain ⟨Ao18, co18, eo18⟩ := Kd.R_slice HO225.out; subst eo18; have p233 : 0 ≤ (0 : Int) := (by omega); have q233 : 0 < (t222.length : Int) := of_decide_eq_true (by first | (with_reducible assumption) | assumption); obtain ⟨ad233, e233, hx233_0, hx233_1, hx233_2⟩ := at_T30 (Kd.R_reads' HO225.out).2.2 0 p233 q233; cases e233; have qi233 : (0 < t222.length) = True := eq_true (by omega); (try rw [show ((0 : Int)).toNat = 0 from rfl] at hx233_0); (try rw [show 0 * 3 = 0 from rfl] at hx233_0); (try rw [Addr.add_zero'] at hx233_0); (try rw [show ((0 : Int)).toNat = 0 from rfl] at hx233_1); (try rw [show 0 * 3 = 0 from rfl] at hx233_1); (try rw [Addr.add_zero'] at hx233_1); (try rw [show ((0 : Int)).toNat = 0 from rfl] at hx233_2); (try rw [show 0 * 3 = 0 from rfl] at hx233_2); (try rw [Addr.add_zero'] at hx233_2); replace p233 := eq_true p233; replace q233 := eq_true q233; obtain ⟨Ao19, co19, eo19⟩ := Kd.R_slice HO232.out; subst eo19; have p234 : 0 ≤ (0 : Int) := (by omega); have q234 : 0 < (t229.length : Int) := of_decide_eq_true (by first | (with_reducible assumption) | assumption); obtain ⟨ad234, e234, hx234_0, hx234_1, hx234_2⟩ := at_T30 (Kd.R_reads' HO232.out).2.2 0 p234 q234; cases e234; have qi234 : (0 < t229.length) = True := eq_true (by omega); (try rw [show ((0 : Int)).toNat = 0 from rfl] at hx234_0); (try rw [show 0 * 3 = 0 from rfl] at hx234_0); (try rw [Addr.add_zero'] at hx234_0); (try rw [show ((0 : Int)).toNat = 0 from rfl] at hx234_1); (try rw [show 0 * 3 = 0 from rfl] at hx234_1); (try rw [Addr.add_zero'] at hx234_1); (try rw [show ((0 : Int)).toNat = 0 from rfl] at hx234_2); (try rw [show 0 * 3 = 0 from rfl] at hx234_2); (try rw [Addr.add_zero'] at hx234_2); replace p234 := eq_true p234; replace q234 := eq_true q234))
        go_ret
        exact ⟨by first | rfl | (simp [errW_none, errW_some] <;> rfl) | (simp [*, errW_none, errW_some] <;> rfl), (belN HB.out)⟩
       ·rw [if_neg c9] at H
        exact absurd H (by simp)
      ·rw [if_neg c8] at H
       have c8b0 : ((t229.length : Int) == 1) = false := beq_eq_false_iff_ne.mpr c8
       have c8b1 : ((t229.length : Int) != 1) = true := bne_iff_ne.mpr c8
       obtain rfl := Option.some.inj H
       go_enter Try.func23, Try.ntmps23
       go_wp2_with (first | ((with_reducible refine gate_dst (N := 10) rfl ?_); (try (refine gate_guard (by rfl) ?_; dsimp only)); refine Kd.R_lit k30 _ 30 ?hg (N := 10) ?hd (xs := ([(⟨0, (⟨1, 1⟩ : S28)⟩ : S30), (⟨10, (⟨6, 1⟩ : S28)⟩ : S30)] : List (S30))) (inner := [.int .i64 0, .int .i64 1, .int .i64 1, .int .i64 10, .int .i64 6, .int .i64 1]) (ok := fun _ => True) (okp := fun _ => True) ?hr ?hp (fun _ hk => hk) trivial (Below.refl _ _) (Nat.le_refl _) (by simp) ?_; (case hd => rfl); (case hg => rfl); (case hr => first | (go_simp; done) | (go_simp; rfl)); (case hp => exact (Reps.c3 (show Kd.M k30 _ _ _ (⟨0, (⟨1, 1⟩ : S28)⟩ : S30) [.int .i64 0, .int .i64 1, .int .i64 1] from (k30_mkM _ _ _ (⟨0, (⟨1, 1⟩ : S28)⟩ : S30) )) (Reps.c3 (show Kd.M k30 _ _ _ (⟨10, (⟨6, 1⟩ : S28)⟩ : S30) [.int .i64 10, .int .i64 6, .int .i64 1] from (k30_mkM _ _ _ (⟨10, (⟨6, 1⟩ : S28)⟩ : S30) )) (Reps.none _ _)))); intro v220 w20 ho21 hb hg_ hnew_; clear hg_ hnew_; (first | rw [← Ny219.out] at ho21 | (simp only [Int.reduceToNat] at ho21; rw [← Ny219.out] at ho21)); have n0_ := Aside0.mk (Kd.R_lower ho21 (below_size (belN HB.out))); have n1_ := Aside0.mk (below_step (belN HB.out) hb); clear HB; have HO221 := n0_; have HB := n1_; clear n0_ n1_; clear hb ho21; obtain ⟨Ao22, co22, eo22⟩ := Kd.R_slice HO221.out; subst eo22) | ((with_reducible refine gate_callee (f := 24) rfl ?_); refine goesL_ (some 11) rfl rfl Try.func24 (by kernel_rfl) rfl #[.slice Ao22 y219.length co22, .bool false, .int .i64 0] rfl argN ?_; (with_reducible refine (rate_Do.calls k _ _ y219 false 0 t222 t223 _ ?side1 ?side2 A1.out).mono ?_); (case side1 => repeat (first | exact (Kd.R_reads' HO221.out).2.2 | (with_reducible refine Kd.C_alloc ?_ _) | (with_reducible refine Kd.C_drewN ?_ _) | (with_reducible refine Kd.C_drew ?_))); (case side2 => exact (Kd.R_reads' HO221.out).2.1); rintro e w23 ⟨v224, rfl, ho0, hb⟩; refine ⟨_, rfl, ?_⟩; have n0_ := Aside0.mk (Kd.R_elder' (rowN HO221.out) (Kd.R_base ho0) hb); have n1_ := Aside0.mk (Kd.R_lower (Kd.R_new' ho0 (Kd.R_lt (rowN HO221.out))) (below_size (belN HB.out))); have n2_ := Aside0.mk (below_step (belN HB.out) hb); clear HO221; clear HB; have HO221 := n0_; have HO225 := n1_; have HB := n2_; clear n0_ n1_ n2_; (try clear hb); (try clear hb2); (try clear hk); (try clear hi); (try clear ho0)) | ((with_reducible refine gate_dst (N := 19) rfl ?_); (try (refine gate_guard (by rfl) ?_; dsimp only)); refine Kd.R_lit k30 _ 30 ?hg (N := 19) ?hd (xs := ([(⟨0, (⟨8, 1⟩ : S28)⟩ : S30), (⟨3, (⟨1, 1⟩ : S28)⟩ : S30)] : List (S30))) (inner := [.int .i64 0, .int .i64 8, .int .i64 1, .int .i64 3, .int .i64 1, .int .i64 1]) (ok := fun _ => True) (okp := fun _ => True) ?hr ?hp (fun _ hk => hk) trivial (Below.refl _ _) (Nat.le_refl _) (by simp) ?_; (case hd => rfl); (case hg => rfl); (case hr => first | (go_simp; done) | (go_simp; rfl)); (case hp => exact (Reps.c3 (show Kd.M k30 _ _ _ (⟨0, (⟨8, 1⟩ : S28)⟩ : S30) [.int .i64 0, .int .i64 8, .int .i64 1] from (k30_mkM _ _ _ (⟨0, (⟨8, 1⟩ : S28)⟩ : S30) )) (Reps.c3 (show Kd.M k30 _ _ _ (⟨3, (⟨1, 1⟩ : S28)⟩ : S30) [.int .i64 3, .int .i64 1, .int .i64 1] from (k30_mkM _ _ _ (⟨3, (⟨1, 1⟩ : S28)⟩ : S30) )) (Reps.none _ _)))); intro v227 w24 ho25 hb hg_ hnew_; clear hg_ hnew_; (first | rw [← Ny226.out] at ho25 | (simp only [Int.reduceToNat] at ho25; rw [← Ny226.out] at ho25)); have n0_ := Aside0.mk (Kd.R_elder' (rowN HO221.out) (Kd.R_base ho25) hb); have n1_ := Aside0.mk (Kd.R_elder' (rowN HO225.out) (Kd.R_base ho25) hb); have n2_ := Aside0.mk (Kd.R_lower (Kd.R_new' (Kd.R_new' ho25 (Kd.R_lt (rowN HO221.out))) (Kd.R_lt (rowN HO225.out))) (below_size (belN HB.out))); have n3_ := Aside0.mk (below_step (belN HB.out) hb); clear HO221; clear HO225; clear HB; have HO221 := n0_; have HO225 := n1_; have HO228 := n2_; have HB := n3_; clear n0_ n1_ n2_ n3_; clear hb ho25; obtain ⟨Ao26, co26, eo26⟩ := Kd.R_slice HO228.out; subst eo26) | ((with_reducible refine gate_callee (f := 24) rfl ?_); refine goesL_ (some 20) rfl rfl Try.func24 (by kernel_rfl) rfl #[.slice Ao26 y226.length co26, .bool true, .int .i64 10] rfl argN ?_; (with_reducible refine (rate_Do.calls k _ _ y226 true 10 t229 t230 _ ?side1 ?side2 A2.out).mono ?_); (case side1 => repeat (first | exact (Kd.R_reads' HO228.out).2.2 | (with_reducible refine Kd.C_alloc ?_ _) | (with_reducible refine Kd.C_drewN ?_ _) | (with_reducible refine Kd.C_drew ?_))); (case side2 => exact (Kd.R_reads' HO228.out).2.1); rintro e w27 ⟨v231, rfl, ho0, hb⟩; refine ⟨_, rfl, ?_⟩; have n0_ := Aside0.mk (Kd.R_elder' (rowN HO221.out) (Kd.R_base ho0) hb); have n1_ := Aside0.mk (Kd.R_elder' (rowN HO225.out) (Kd.R_base ho0) hb); have n2_ := Aside0.mk (Kd.R_elder' (rowN HO228.out) (Kd.R_base ho0) hb); have n3_ := Aside0.mk (Kd.R_lower (Kd.R_new' (Kd.R_new' (Kd.R_new' ho0 (Kd.R_lt (rowN HO221.out))) (Kd.R_lt (rowN HO225.out))) (Kd.R_lt (rowN HO228.out))) (below_size (belN HB.out))); have n4_ := Aside0.mk (below_step (belN HB.out) hb); clear HO221; clear HO225; clear HO228; clear HB; have HO221 := n0_; have HO225 := n1_; have HO228 := n2_; have HO232 := n3_; have HB := n4_; clear n0_ n1_ n2_ n3_ n4_; (try clear hb); (try clear hb2); (try clear hk); (try clear hi); (try clear ho0); obtain ⟨Ao28, co28, eo28⟩ := Kd.R_slice HO225.out; subst eo28; have p233 : 0 ≤ (0 : Int) := (by omega); have q233 : 0 < (t222.length : Int) := of_decide_eq_true (by first | (with_reducible assumption) | assumption); obtain ⟨ad233, e233, hx233_0, hx233_1, hx233_2⟩ := at_T30 (Kd.R_reads' HO225.out).2.2 0 p233 q233; cases e233; have qi233 : (0 < t222.length) = True := eq_true (by omega); (try rw [show ((0 : Int)).toNat = 0 from rfl] at hx233_0); (try rw [show 0 * 3 = 0 from rfl] at hx233_0); (try rw [Addr.add_zero'] at hx233_0); (try rw [show ((0 : Int)).toNat = 0 from rfl] at hx233_1); (try rw [show 0 * 3 = 0 from rfl] at hx233_1); (try rw [Addr.add_zero'] at hx233_1); (try rw [show ((0 : Int)).toNat = 0 from rfl] at hx233_2); (try rw [show 0 * 3 = 0 from rfl] at hx233_2); (try rw [Addr.add_zero'] at hx233_2); replace p233 := eq_true p233; replace q233 := eq_true q233; obtain ⟨Ao29, co29, eo29⟩ := Kd.R_slice HO232.out; subst eo29))
       go_ret
       exact ⟨by first | rfl | (simp [errW_none, errW_some] <;> rfl) | (simp [*, errW_none, errW_some] <;> rfl), (belN HB.out)⟩
     ·rw [if_neg c7] at H
      have c7b0 : (t230 == 0) = false := beq_eq_false_iff_ne.mpr c7
      have c7b1 : (t230 != 0) = true := bne_iff_ne.mpr c7
      obtain rfl := Option.some.inj H
      go_enter Try.func23, Try.ntmps23
      go_wp2_with (first | ((with_reducible refine gate_dst (N := 10) rfl ?_); (try (refine gate_guard (by rfl) ?_; dsimp only)); refine Kd.R_lit k30 _ 30 ?hg (N := 10) ?hd (xs := ([(⟨0, (⟨1, 1⟩ : S28)⟩ : S30), (⟨10, (⟨6, 1⟩ : S28)⟩ : S30)] : List (S30))) (inner := [.int .i64 0, .int .i64 1, .int .i64 1, .int .i64 10, .int .i64 6, .int .i64 1]) (ok := fun _ => True) (okp := fun _ => True) ?hr ?hp (fun _ hk => hk) trivial (Below.refl _ _) (Nat.le_refl _) (by simp) ?_; (case hd => rfl); (case hg => rfl); (case hr => first | (go_simp; done) | (go_simp; rfl)); (case hp => exact (Reps.c3 (show Kd.M k30 _ _ _ (⟨0, (⟨1, 1⟩ : S28)⟩ : S30) [.int .i64 0, .int .i64 1, .int .i64 1] from (k30_mkM _ _ _ (⟨0, (⟨1, 1⟩ : S28)⟩ : S30) )) (Reps.c3 (show Kd.M k30 _ _ _ (⟨10, (⟨6, 1⟩ : S28)⟩ : S30) [.int .i64 10, .int .i64 6, .int .i64 1] from (k30_mkM _ _ _ (⟨10, (⟨6, 1⟩ : S28)⟩ : S30) )) (Reps.none _ _)))); intro v220 w30 ho31 hb hg_ hnew_; clear hg_ hnew_; (first | rw [← Ny219.out] at ho31 | (simp only [Int.reduceToNat] at ho31; rw [← Ny219.out] at ho31)); have n0_ := Aside0.mk (Kd.R_lower ho31 (below_size (belN HB.out))); have n1_ := Aside0.mk (below_step (belN HB.out) hb); clear HB; have HO221 := n0_; have HB := n1_; clear n0_ n1_; clear hb ho31; obtain ⟨Ao32, co32, eo32⟩ := Kd.R_slice HO221.out; subst eo32) | ((with_reducible refine gate_callee (f := 24) rfl ?_); refine goesL_ (some 11) rfl rfl Try.func24 (by kernel_rfl) rfl #[.slice Ao32 y219.length co32, .bool false, .int .i64 0] rfl argN ?_; (with_reducible refine (rate_Do.calls k _ _ y219 false 0 t222 t223 _ ?side1 ?side2 A1.out).mono ?_); (case side1 => repeat (first | exact (Kd.R_reads' HO221.out).2.2 | (with_reducible refine Kd.C_alloc ?_ _) | (with_reducible refine Kd.C_drewN ?_ _) | (with_reducible refine Kd.C_drew ?_))); (case side2 => exact (Kd.R_reads' HO221.out).2.1); rintro e w33 ⟨v224, rfl, ho0, hb⟩; refine ⟨_, rfl, ?_⟩; have n0_ := Aside0.mk (Kd.R_elder' (rowN HO221.out) (Kd.R_base ho0) hb); have n1_ := Aside0.mk (Kd.R_lower (Kd.R_new' ho0 (Kd.R_lt (rowN HO221.out))) (below_size (belN HB.out))); have n2_ := Aside0.mk (below_step (belN HB.out) hb); clear HO221; clear HB; have HO221 := n0_; have HO225 := n1_; have HB := n2_; clear n0_ n1_ n2_; (try clear hb); (try clear hb2); (try clear hk); (try clear hi); (try clear ho0)) | ((with_reducible refine gate_dst (N := 19) rfl ?_); (try (refine gate_guard (by rfl) ?_; dsimp only)); refine Kd.R_lit k30 _ 30 ?hg (N := 19) ?hd (xs := ([(⟨0, (⟨8, 1⟩ : S28)⟩ : S30), (⟨3, (⟨1, 1⟩ : S28)⟩ : S30)] : List (S30))) (inner := [.int .i64 0, .int .i64 8, .int .i64 1, .int .i64 3, .int .i64 1, .int .i64 1]) (ok := fun _ => True) (okp := fun _ => True) ?hr ?hp (fun _ hk => hk) trivial (Below.refl _ _) (Nat.le_refl _) (by simp) ?_; (case hd => rfl); (case hg => rfl); (case hr => first | (go_simp; done) | (go_simp; rfl)); (case hp => exact (Reps.c3 (show Kd.M k30 _ _ _ (⟨0, (⟨8, 1⟩ : S28)⟩ : S30) [.int .i64 0, .int .i64 8, .int .i64 1] from (k30_mkM _ _ _ (⟨0, (⟨8, 1⟩ : S28)⟩ : S30) )) (Reps.c3 (show Kd.M k30 _ _ _ (⟨3, (⟨1, 1⟩ : S28)⟩ : S30) [.int .i64 3, .int .i64 1, .int .i64 1] from (k30_mkM _ _ _ (⟨3, (⟨1, 1⟩ : S28)⟩ : S30) )) (Reps.none _ _)))); intro v227 w34 ho35 hb hg_ hnew_; clear hg_ hnew_; (first | rw [← Ny226.out] at ho35 | (simp only [Int.reduceToNat] at ho35; rw [← Ny226.out] at ho35)); have n0_ := Aside0.mk (Kd.R_elder' (rowN HO221.out) (Kd.R_base ho35) hb); have n1_ := Aside0.mk (Kd.R_elder' (rowN HO225.out) (Kd.R_base ho35) hb); have n2_ := Aside0.mk (Kd.R_lower (Kd.R_new' (Kd.R_new' ho35 (Kd.R_lt (rowN HO221.out))) (Kd.R_lt (rowN HO225.out))) (below_size (belN HB.out))); have n3_ := Aside0.mk (below_step (belN HB.out) hb); clear HO221; clear HO225; clear HB; have HO221 := n0_; have HO225 := n1_; have HO228 := n2_; have HB := n3_; clear n0_ n1_ n2_ n3_; clear hb ho35; obtain ⟨Ao36, co36, eo36⟩ := Kd.R_slice HO228.out; subst eo36) | ((with_reducible refine gate_callee (f := 24) rfl ?_); refine goesL_ (some 20) rfl rfl Try.func24 (by kernel_rfl) rfl #[.slice Ao36 y226.length co36, .bool true, .int .i64 10] rfl argN ?_; (with_reducible refine (rate_Do.calls k _ _ y226 true 10 t229 t230 _ ?side1 ?side2 A2.out).mono ?_); (case side1 => repeat (first | exact (Kd.R_reads' HO228.out).2.2 | (with_reducible refine Kd.C_alloc ?_ _) | (with_reducible refine Kd.C_drewN ?_ _) | (with_reducible refine Kd.C_drew ?_))); (case side2 => exact (Kd.R_reads' HO228.out).2.1); rintro e w37 ⟨v231, rfl, ho0, hb⟩; refine ⟨_, rfl, ?_⟩; have n0_ := Aside0.mk (Kd.R_elder' (rowN HO221.out) (Kd.R_base ho0) hb); have n1_ := Aside0.mk (Kd.R_elder' (rowN HO225.out) (Kd.R_base ho0) hb); have n2_ := Aside0.mk (Kd.R_elder' (rowN HO228.out) (Kd.R_base ho0) hb); have n3_ := Aside0.mk (Kd.R_lower (Kd.R_new' (Kd.R_new' (Kd.R_new' ho0 (Kd.R_lt (rowN HO221.out))) (Kd.R_lt (rowN HO225.out))) (Kd.R_lt (rowN HO228.out))) (below_size (belN HB.out))); have n4_ := Aside0.mk (below_step (belN HB.out) hb); clear HO221; clear HO225; clear HO228; clear HB; have HO221 := n0_; have HO225 := n1_; have HO228 := n2_; have HO232 := n3_; have HB := n4_; clear n0_ n1_ n2_ n3_ n4_; (try clear hb); (try clear hb2); (try clear hk); (try clear hi); (try clear ho0); obtain ⟨Ao38, co38, eo38⟩ := Kd.R_slice HO225.out; subst eo38; have p233 : 0 ≤ (0 : Int) := (by omega); have q233 : 0 < (t222.length : Int) := of_decide_eq_true (by first | (with_reducible assumption) | assumption); obtain ⟨ad233, e233, hx233_0, hx233_1, hx233_2⟩ := at_T30 (Kd.R_reads' HO225.out).2.2 0 p233 q233; cases e233; have qi233 : (0 < t222.length) = True := eq_true (by omega); (try rw [show ((0 : Int)).toNat = 0 from rfl] at hx233_0); (try rw [show 0 * 3 = 0 from rfl] at hx233_0); (try rw [Addr.add_zero'] at hx233_0); (try rw [show ((0 : Int)).toNat = 0 from rfl] at hx233_1); (try rw [show 0 * 3 = 0 from rfl] at hx233_1); (try rw [Addr.add_zero'] at hx233_1); (try rw [show ((0 : Int)).toNat = 0 from rfl] at hx233_2); (try rw [show 0 * 3 = 0 from rfl] at hx233_2); (try rw [Addr.add_zero'] at hx233_2); replace p233 := eq_true p233; replace q233 := eq_true q233))
      go_ret
      exact ⟨by first | rfl | (simp [errW_none, errW_some] <;> rfl) | (simp [*, errW_none, errW_some] <;> rfl), (belN HB.out)⟩
    ·rw [if_neg c6] at H
     have c6b0 : (((rd_T30 t222 0).f0) == 10 && ((((rd_T30 t222 0).f1.f0) == 1 && (((rd_T30 t222 0).f1.f1) == 2)))) = false := by simpa using c6
     (try (have c6b1 : decide (((rd_T30 t222 0).f0) = 10 && ((((rd_T30 t222 0).f1.f0) == 1 && (((rd_T30 t222 0).f1.f1) == 2)))) = false := by simpa using c6))
     (try (have c6b2 : (((rd_T30 t222 0).f0) == 10 && ((((rd_T30 t222 0).f1.f0) == 1 && (((rd_T30 t222 0).f1.f1) == 2)))) = false := by simpa using c6))
     (try (have c6b3 : ¬ (((rd_T30 t222 0).f0) = 10 && ((((rd_T30 t222 0).f1.f0) == 1 && (((rd_T30 t222 0).f1.f1) == 2)))) := by simpa using c6))
     clear c6
     obtain rfl := Option.some.inj H
     go_enter Try.func23, Try.ntmps23
     go_wp2_with (first | ((with_reducible refine gate_dst (N := 10) rfl ?_); (try (refine gate_guard (by rfl) ?_; dsimp only)); refine Kd.R_lit k30 _ 30 ?hg (N := 10) ?hd (xs := ([(⟨0, (⟨1, 1⟩ : S28)⟩ : S30), (⟨10, (⟨6, 1⟩ : S28)⟩ : S30)] : List (S30))) (inner := [.int .i64 0, .int .i64 1, .int .i64 1, .int .i64 10, .int .i64 6, .int .i64 1]) (ok := fun _ => True) (okp := fun _ => True) ?hr ?hp (fun _ hk => hk) trivial (Below.refl _ _) (Nat.le_refl _) (by simp) ?_; (case hd => rfl); (case hg => rfl); (case hr => first | (go_simp; done) | (go_simp; rfl)); (case hp => exact (Reps.c3 (show Kd.M k30 _ _ _ (⟨0, (⟨1, 1⟩ : S28)⟩ : S30) [.int .i64 0, .int .i64 1, .int .i64 1] from (k30_mkM _ _ _ (⟨0, (⟨1, 1⟩ : S28)⟩ : S30) )) (Reps.c3 (show Kd.M k30 _ _ _ (⟨10, (⟨6, 1⟩ : S28)⟩ : S30) [.int .i64 10, .int .i64 6, .int .i64 1] from (k30_mkM _ _ _ (⟨10, (⟨6, 1⟩ : S28)⟩ : S30) )) (Reps.none _ _)))); intro v220 w39 ho40 hb hg_ hnew_; clear hg_ hnew_; (first | rw [← Ny219.out] at ho40 | (simp only [Int.reduceToNat] at ho40; rw [← Ny219.out] at ho40)); have n0_ := Aside0.mk (Kd.R_lower ho40 (below_size (belN HB.out))); have n1_ := Aside0.mk (below_step (belN HB.out) hb); clear HB; have HO221 := n0_; have HB := n1_; clear n0_ n1_; clear hb ho40; obtain ⟨Ao41, co41, eo41⟩ := Kd.R_slice HO221.out; subst eo41) | ((with_reducible refine gate_callee (f := 24) rfl ?_); refine goesL_ (some 11) rfl rfl Try.func24 (by kernel_rfl) rfl #[.slice Ao41 y219.length co41, .bool false, .int .i64 0] rfl argN ?_; (with_reducible refine (rate_Do.calls k _ _ y219 false 0 t222 t223 _ ?side1 ?side2 A1.out).mono ?_); (case side1 => repeat (first | exact (Kd.R_reads' HO221.out).2.2 | (with_reducible refine Kd.C_alloc ?_ _) | (with_reducible refine Kd.C_drewN ?_ _) | (with_reducible refine Kd.C_drew ?_))); (case side2 => exact (Kd.R_reads' HO221.out).2.1); rintro e w42 ⟨v224, rfl, ho0, hb⟩; refine ⟨_, rfl, ?_⟩; have n0_ := Aside0.mk (Kd.R_elder' (rowN HO221.out) (Kd.R_base ho0) hb); have n1_ := Aside0.mk (Kd.R_lower (Kd.R_new' ho0 (Kd.R_lt (rowN HO221.out))) (below_size (belN HB.out))); have n2_ := Aside0.mk (below_step (belN HB.out) hb); clear HO221; clear HB; have HO221 := n0_; have HO225 := n1_; have HB := n2_; clear n0_ n1_ n2_; (try clear hb); (try clear hb2); (try clear hk); (try clear hi); (try clear ho0)) | ((with_reducible refine gate_dst (N := 19) rfl ?_); (try (refine gate_guard (by rfl) ?_; dsimp only)); refine Kd.R_lit k30 _ 30 ?hg (N := 19) ?hd (xs := ([(⟨0, (⟨8, 1⟩ : S28)⟩ : S30), (⟨3, (⟨1, 1⟩ : S28)⟩ : S30)] : List (S30))) (inner := [.int .i64 0, .int .i64 8, .int .i64 1, .int .i64 3, .int .i64 1, .int .i64 1]) (ok := fun _ => True) (okp := fun _ => True) ?hr ?hp (fun _ hk => hk) trivial (Below.refl _ _) (Nat.le_refl _) (by simp) ?_; (case hd => rfl); (case hg => rfl); (case hr => first | (go_simp; done) | (go_simp; rfl)); (case hp => exact (Reps.c3 (show Kd.M k30 _ _ _ (⟨0, (⟨8, 1⟩ : S28)⟩ : S30) [.int .i64 0, .int .i64 8, .int .i64 1] from (k30_mkM _ _ _ (⟨0, (⟨8, 1⟩ : S28)⟩ : S30) )) (Reps.c3 (show Kd.M k30 _ _ _ (⟨3, (⟨1, 1⟩ : S28)⟩ : S30) [.int .i64 3, .int .i64 1, .int .i64 1] from (k30_mkM _ _ _ (⟨3, (⟨1, 1⟩ : S28)⟩ : S30) )) (Reps.none _ _)))); intro v227 w43 ho44 hb hg_ hnew_; clear hg_ hnew_; (first | rw [← Ny226.out] at ho44 | (simp only [Int.reduceToNat] at ho44; rw [← Ny226.out] at ho44)); have n0_ := Aside0.mk (Kd.R_elder' (rowN HO221.out) (Kd.R_base ho44) hb); have n1_ := Aside0.mk (Kd.R_elder' (rowN HO225.out) (Kd.R_base ho44) hb); have n2_ := Aside0.mk (Kd.R_lower (Kd.R_new' (Kd.R_new' ho44 (Kd.R_lt (rowN HO221.out))) (Kd.R_lt (rowN HO225.out))) (below_size (belN HB.out))); have n3_ := Aside0.mk (below_step (belN HB.out) hb); clear HO221; clear HO225; clear HB; have HO221 := n0_; have HO225 := n1_; have HO228 := n2_; have HB := n3_; clear n0_ n1_ n2_ n3_; clear hb ho44; obtain ⟨Ao45, co45, eo45⟩ := Kd.R_slice HO228.out; subst eo45) | ((with_reducible refine gate_callee (f := 24) rfl ?_); refine goesL_ (some 20) rfl rfl Try.func24 (by kernel_rfl) rfl #[.slice Ao45 y226.length co45, .bool true, .int .i64 10] rfl argN ?_; (with_reducible refine (rate_Do.calls k _ _ y226 true 10 t229 t230 _ ?side1 ?side2 A2.out).mono ?_); (case side1 => repeat (first | exact (Kd.R_reads' HO228.out).2.2 | (with_reducible refine Kd.C_alloc ?_ _) | (with_reducible refine Kd.C_drewN ?_ _) | (with_reducible refine Kd.C_drew ?_))); (case side2 => exact (Kd.R_reads' HO228.out).2.1); rintro e w46 ⟨v231, rfl, ho0, hb⟩; refine ⟨_, rfl, ?_⟩; have n0_ := Aside0.mk (Kd.R_elder' (rowN HO221.out) (Kd.R_base ho0) hb); have n1_ := Aside0.mk (Kd.R_elder' (rowN HO225.out) (Kd.R_base ho0) hb); have n2_ := Aside0.mk (Kd.R_elder' (rowN HO228.out) (Kd.R_base ho0) hb); have n3_ := Aside0.mk (Kd.R_lower (Kd.R_new' (Kd.R_new' (Kd.R_new' ho0 (Kd.R_lt (rowN HO221.out))) (Kd.R_lt (rowN HO225.out))) (Kd.R_lt (rowN HO228.out))) (below_size (belN HB.out))); have n4_ := Aside0.mk (below_step (belN HB.out) hb); clear HO221; clear HO225; clear HO228; clear HB; have HO221 := n0_; have HO225 := n1_; have HO228 := n2_; have HO232 := n3_; have HB := n4_; clear n0_ n1_ n2_ n3_ n4_; (try clear hb); (try clear hb2); (try clear hk); (try clear hi); (try clear ho0); obtain ⟨Ao47, co47, eo47⟩ := Kd.R_slice HO225.out; subst eo47; have p233 : 0 ≤ (0 : Int) := (by omega); have q233 : 0 < (t222.length : Int) := of_decide_eq_true (by first | (with_reducible assumption) | assumption); obtain ⟨ad233, e233, hx233_0, hx233_1, hx233_2⟩ := at_T30 (Kd.R_reads' HO225.out).2.2 0 p233 q233; cases e233; have qi233 : (0 < t222.length) = True := eq_true (by omega); (try rw [show ((0 : Int)).toNat = 0 from rfl] at hx233_0); (try rw [show 0 * 3 = 0 from rfl] at hx233_0); (try rw [Addr.add_zero'] at hx233_0); (try rw [show ((0 : Int)).toNat = 0 from rfl] at hx233_1); (try rw [show 0 * 3 = 0 from rfl] at hx233_1); (try rw [Addr.add_zero'] at hx233_1); (try rw [show ((0 : Int)).toNat = 0 from rfl] at hx233_2); (try rw [show 0 * 3 = 0 from rfl] at hx233_2); (try rw [Addr.add_zero'] at hx233_2); replace p233 := eq_true p233; replace q233 := eq_true q233))
     go_ret
     exact ⟨by first | rfl | (simp [errW_none, errW_some] <;> rfl) | (simp [*, errW_none, errW_some] <;> rfl), (belN HB.out)⟩
   ·rw [if_neg c5] at H
    exact absurd H (by simp)
  ·rw [if_neg c4] at H
   have c4b0 : ((t222.length : Int) == 1) = false := beq_eq_false_iff_ne.mpr c4
   have c4b1 : ((t222.length : Int) != 1) = true := bne_iff_ne.mpr c4
   obtain rfl := Option.some.inj H
   go_enter Try.func23, Try.ntmps23
   go_wp2_with (first | ((with_reducible refine gate_dst (N := 10) rfl ?_); (try (refine gate_guard (by rfl) ?_; dsimp only)); refine Kd.R_lit k30 _ 30 ?hg (N := 10) ?hd (xs := ([(⟨0, (⟨1, 1⟩ : S28)⟩ : S30), (⟨10, (⟨6, 1⟩ : S28)⟩ : S30)] : List (S30))) (inner := [.int .i64 0, .int .i64 1, .int .i64 1, .int .i64 10, .int .i64 6, .int .i64 1]) (ok := fun _ => True) (okp := fun _ => True) ?hr ?hp (fun _ hk => hk) trivial (Below.refl _ _) (Nat.le_refl _) (by simp) ?_; (case hd => rfl); (case hg => rfl); (case hr => first | (go_simp; done) | (go_simp; rfl)); (case hp => exact (Reps.c3 (show Kd.M k30 _ _ _ (⟨0, (⟨1, 1⟩ : S28)⟩ : S30) [.int .i64 0, .int .i64 1, .int .i64 1] from (k30_mkM _ _ _ (⟨0, (⟨1, 1⟩ : S28)⟩ : S30) )) (Reps.c3 (show Kd.M k30 _ _ _ (⟨10, (⟨6, 1⟩ : S28)⟩ : S30) [.int .i64 10, .int .i64 6, .int .i64 1] from (k30_mkM _ _ _ (⟨10, (⟨6, 1⟩ : S28)⟩ : S30) )) (Reps.none _ _)))); intro v220 w48 ho49 hb hg_ hnew_; clear hg_ hnew_; (first | rw [← Ny219.out] at ho49 | (simp only [Int.reduceToNat] at ho49; rw [← Ny219.out] at ho49)); have n0_ := Aside0.mk (Kd.R_lower ho49 (below_size (belN HB.out))); have n1_ := Aside0.mk (below_step (belN HB.out) hb); clear HB; have HO221 := n0_; have HB := n1_; clear n0_ n1_; clear hb ho49; obtain ⟨Ao50, co50, eo50⟩ := Kd.R_slice HO221.out; subst eo50) | ((with_reducible refine gate_callee (f := 24) rfl ?_); refine goesL_ (some 11) rfl rfl Try.func24 (by kernel_rfl) rfl #[.slice Ao50 y219.length co50, .bool false, .int .i64 0] rfl argN ?_; (with_reducible refine (rate_Do.calls k _ _ y219 false 0 t222 t223 _ ?side1 ?side2 A1.out).mono ?_); (case side1 => repeat (first | exact (Kd.R_reads' HO221.out).2.2 | (with_reducible refine Kd.C_alloc ?_ _) | (with_reducible refine Kd.C_drewN ?_ _) | (with_reducible refine Kd.C_drew ?_))); (case side2 => exact (Kd.R_reads' HO221.out).2.1); rintro e w51 ⟨v224, rfl, ho0, hb⟩; refine ⟨_, rfl, ?_⟩; have n0_ := Aside0.mk (Kd.R_elder' (rowN HO221.out) (Kd.R_base ho0) hb); have n1_ := Aside0.mk (Kd.R_lower (Kd.R_new' ho0 (Kd.R_lt (rowN HO221.out))) (below_size (belN HB.out))); have n2_ := Aside0.mk (below_step (belN HB.out) hb); clear HO221; clear HB; have HO221 := n0_; have HO225 := n1_; have HB := n2_; clear n0_ n1_ n2_; (try clear hb); (try clear hb2); (try clear hk); (try clear hi); (try clear ho0)) | ((with_reducible refine gate_dst (N := 19) rfl ?_); (try (refine gate_guard (by rfl) ?_; dsimp only)); refine Kd.R_lit k30 _ 30 ?hg (N := 19) ?hd (xs := ([(⟨0, (⟨8, 1⟩ : S28)⟩ : S30), (⟨3, (⟨1, 1⟩ : S28)⟩ : S30)] : List (S30))) (inner := [.int .i64 0, .int .i64 8, .int .i64 1, .int .i64 3, .int .i64 1, .int .i64 1]) (ok := fun _ => True) (okp := fun _ => True) ?hr ?hp (fun _ hk => hk) trivial (Below.refl _ _) (Nat.le_refl _) (by simp) ?_; (case hd => rfl); (case hg => rfl); (case hr => first | (go_simp; done) | (go_simp; rfl)); (case hp => exact (Reps.c3 (show Kd.M k30 _ _ _ (⟨0, (⟨8, 1⟩ : S28)⟩ : S30) [.int .i64 0, .int .i64 8, .int .i64 1] from (k30_mkM _ _ _ (⟨0, (⟨8, 1⟩ : S28)⟩ : S30) )) (Reps.c3 (show Kd.M k30 _ _ _ (⟨3, (⟨1, 1⟩ : S28)⟩ : S30) [.int .i64 3, .int .i64 1, .int .i64 1] from (k30_mkM _ _ _ (⟨3, (⟨1, 1⟩ : S28)⟩ : S30) )) (Reps.none _ _)))); intro v227 w52 ho53 hb hg_ hnew_; clear hg_ hnew_; (first | rw [← Ny226.out] at ho53 | (simp only [Int.reduceToNat] at ho53; rw [← Ny226.out] at ho53)); have n0_ := Aside0.mk (Kd.R_elder' (rowN HO221.out) (Kd.R_base ho53) hb); have n1_ := Aside0.mk (Kd.R_elder' (rowN HO225.out) (Kd.R_base ho53) hb); have n2_ := Aside0.mk (Kd.R_lower (Kd.R_new' (Kd.R_new' ho53 (Kd.R_lt (rowN HO221.out))) (Kd.R_lt (rowN HO225.out))) (below_size (belN HB.out))); have n3_ := Aside0.mk (below_step (belN HB.out) hb); clear HO221; clear HO225; clear HB; have HO221 := n0_; have HO225 := n1_; have HO228 := n2_; have HB := n3_; clear n0_ n1_ n2_ n3_; clear hb ho53; obtain ⟨Ao54, co54, eo54⟩ := Kd.R_slice HO228.out; subst eo54) | ((with_reducible refine gate_callee (f := 24) rfl ?_); refine goesL_ (some 20) rfl rfl Try.func24 (by kernel_rfl) rfl #[.slice Ao54 y226.length co54, .bool true, .int .i64 10] rfl argN ?_; (with_reducible refine (rate_Do.calls k _ _ y226 true 10 t229 t230 _ ?side1 ?side2 A2.out).mono ?_); (case side1 => repeat (first | exact (Kd.R_reads' HO228.out).2.2 | (with_reducible refine Kd.C_alloc ?_ _) | (with_reducible refine Kd.C_drewN ?_ _) | (with_reducible refine Kd.C_drew ?_))); (case side2 => exact (Kd.R_reads' HO228.out).2.1); rintro e w55 ⟨v231, rfl, ho0, hb⟩; refine ⟨_, rfl, ?_⟩; have n0_ := Aside0.mk (Kd.R_elder' (rowN HO221.out) (Kd.R_base ho0) hb); have n1_ := Aside0.mk (Kd.R_elder' (rowN HO225.out) (Kd.R_base ho0) hb); have n2_ := Aside0.mk (Kd.R_elder' (rowN HO228.out) (Kd.R_base ho0) hb); have n3_ := Aside0.mk (Kd.R_lower (Kd.R_new' (Kd.R_new' (Kd.R_new' ho0 (Kd.R_lt (rowN HO221.out))) (Kd.R_lt (rowN HO225.out))) (Kd.R_lt (rowN HO228.out))) (below_size (belN HB.out))); have n4_ := Aside0.mk (below_step (belN HB.out) hb); clear HO221; clear HO225; clear HO228; clear HB; have HO221 := n0_; have HO225 := n1_; have HO228 := n2_; have HO232 := n3_; have HB := n4_; clear n0_ n1_ n2_ n3_ n4_; (try clear hb); (try clear hb2); (try clear hk); (try clear hi); (try clear ho0); obtain ⟨Ao56, co56, eo56⟩ := Kd.R_slice HO225.out; subst eo56))
   go_ret
   exact ⟨by first | rfl | (simp [errW_none, errW_some] <;> rfl) | (simp [*, errW_none, errW_some] <;> rfl), (belN HB.out)⟩
 ·rw [if_neg c3] at H
  have c3b0 : (t223 == 0) = false := beq_eq_false_iff_ne.mpr c3
  have c3b1 : (t223 != 0) = true := bne_iff_ne.mpr c3
  obtain rfl := Option.some.inj H
  go_enter Try.func23, Try.ntmps23
  go_wp2_with (first | ((with_reducible refine gate_dst (N := 10) rfl ?_); (try (refine gate_guard (by rfl) ?_; dsimp only)); refine Kd.R_lit k30 _ 30 ?hg (N := 10) ?hd (xs := ([(⟨0, (⟨1, 1⟩ : S28)⟩ : S30), (⟨10, (⟨6, 1⟩ : S28)⟩ : S30)] : List (S30))) (inner := [.int .i64 0, .int .i64 1, .int .i64 1, .int .i64 10, .int .i64 6, .int .i64 1]) (ok := fun _ => True) (okp := fun _ => True) ?hr ?hp (fun _ hk => hk) trivial (Below.refl _ _) (Nat.le_refl _) (by simp) ?_; (case hd => rfl); (case hg => rfl); (case hr => first | (go_simp; done) | (go_simp; rfl)); (case hp => exact (Reps.c3 (show Kd.M k30 _ _ _ (⟨0, (⟨1, 1⟩ : S28)⟩ : S30) [.int .i64 0, .int .i64 1, .int .i64 1] from (k30_mkM _ _ _ (⟨0, (⟨1, 1⟩ : S28)⟩ : S30) )) (Reps.c3 (show Kd.M k30 _ _ _ (⟨10, (⟨6, 1⟩ : S28)⟩ : S30) [.int .i64 10, .int .i64 6, .int .i64 1] from (k30_mkM _ _ _ (⟨10, (⟨6, 1⟩ : S28)⟩ : S30) )) (Reps.none _ _)))); intro v220 w57 ho58 hb hg_ hnew_; clear hg_ hnew_; (first | rw [← Ny219.out] at ho58 | (simp only [Int.reduceToNat] at ho58; rw [← Ny219.out] at ho58)); have n0_ := Aside0.mk (Kd.R_lower ho58 (below_size (belN HB.out))); have n1_ := Aside0.mk (below_step (belN HB.out) hb); clear HB; have HO221 := n0_; have HB := n1_; clear n0_ n1_; clear hb ho58; obtain ⟨Ao59, co59, eo59⟩ := Kd.R_slice HO221.out; subst eo59) | ((with_reducible refine gate_callee (f := 24) rfl ?_); refine goesL_ (some 11) rfl rfl Try.func24 (by kernel_rfl) rfl #[.slice Ao59 y219.length co59, .bool false, .int .i64 0] rfl argN ?_; (with_reducible refine (rate_Do.calls k _ _ y219 false 0 t222 t223 _ ?side1 ?side2 A1.out).mono ?_); (case side1 => repeat (first | exact (Kd.R_reads' HO221.out).2.2 | (with_reducible refine Kd.C_alloc ?_ _) | (with_reducible refine Kd.C_drewN ?_ _) | (with_reducible refine Kd.C_drew ?_))); (case side2 => exact (Kd.R_reads' HO221.out).2.1); rintro e w60 ⟨v224, rfl, ho0, hb⟩; refine ⟨_, rfl, ?_⟩; have n0_ := Aside0.mk (Kd.R_elder' (rowN HO221.out) (Kd.R_base ho0) hb); have n1_ := Aside0.mk (Kd.R_lower (Kd.R_new' ho0 (Kd.R_lt (rowN HO221.out))) (below_size (belN HB.out))); have n2_ := Aside0.mk (below_step (belN HB.out) hb); clear HO221; clear HB; have HO221 := n0_; have HO225 := n1_; have HB := n2_; clear n0_ n1_ n2_; (try clear hb); (try clear hb2); (try clear hk); (try clear hi); (try clear ho0)) | ((with_reducible refine gate_dst (N := 19) rfl ?_); (try (refine gate_guard (by rfl) ?_; dsimp only)); refine Kd.R_lit k30 _ 30 ?hg (N := 19) ?hd (xs := ([(⟨0, (⟨8, 1⟩ : S28)⟩ : S30), (⟨3, (⟨1, 1⟩ : S28)⟩ : S30)] : List (S30))) (inner := [.int .i64 0, .int .i64 8, .int .i64 1, .int .i64 3, .int .i64 1, .int .i64 1]) (ok := fun _ => True) (okp := fun _ => True) ?hr ?hp (fun _ hk => hk) trivial (Below.refl _ _) (Nat.le_refl _) (by simp) ?_; (case hd => rfl); (case hg => rfl); (case hr => first | (go_simp; done) | (go_simp; rfl)); (case hp => exact (Reps.c3 (show Kd.M k30 _ _ _ (⟨0, (⟨8, 1⟩ : S28)⟩ : S30) [.int .i64 0, .int .i64 8, .int .i64 1] from (k30_mkM _ _ _ (⟨0, (⟨8, 1⟩ : S28)⟩ : S30) )) (Reps.c3 (show Kd.M k30 _ _ _ (⟨3, (⟨1, 1⟩ : S28)⟩ : S30) [.int .i64 3, .int .i64 1, .int .i64 1] from (k30_mkM _ _ _ (⟨3, (⟨1, 1⟩ : S28)⟩ : S30) )) (Reps.none _ _)))); intro v227 w61 ho62 hb hg_ hnew_; clear hg_ hnew_; (first | rw [← Ny226.out] at ho62 | (simp only [Int.reduceToNat] at ho62; rw [← Ny226.out] at ho62)); have n0_ := Aside0.mk (Kd.R_elder' (rowN HO221.out) (Kd.R_base ho62) hb); have n1_ := Aside0.mk (Kd.R_elder' (rowN HO225.out) (Kd.R_base ho62) hb); have n2_ := Aside0.mk (Kd.R_lower (Kd.R_new' (Kd.R_new' ho62 (Kd.R_lt (rowN HO221.out))) (Kd.R_lt (rowN HO225.out))) (below_size (belN HB.out))); have n3_ := Aside0.mk (below_step (belN HB.out) hb); clear HO221; clear HO225; clear HB; have HO221 := n0_; have HO225 := n1_; have HO228 := n2_; have HB := n3_; clear n0_ n1_ n2_ n3_; clear hb ho62; obtain ⟨Ao63, co63, eo63⟩ := Kd.R_slice HO228.out; subst eo63) | ((with_reducible refine gate_callee (f := 24) rfl ?_); refine goesL_ (some 20) rfl rfl Try.func24 (by kernel_rfl) rfl #[.slice Ao63 y226.length co63, .bool true, .int .i64 10] rfl argN ?_; (with_reducible refine (rate_Do.calls k _ _ y226 true 10 t229 t230 _ ?side1 ?side2 A2.out).mono ?_); (case side1 => repeat (first | exact (Kd.R_reads' HO228.out).2.2 | (with_reducible refine Kd.C_alloc ?_ _) | (with_reducible refine Kd.C_drewN ?_ _) | (with_reducible refine Kd.C_drew ?_))); (case side2 => exact (Kd.R_reads' HO228.out).2.1); rintro e w64 ⟨v231, rfl, ho0, hb⟩; refine ⟨_, rfl, ?_⟩; have n0_ := Aside0.mk (Kd.R_elder' (rowN HO221.out) (Kd.R_base ho0) hb); have n1_ := Aside0.mk (Kd.R_elder' (rowN HO225.out) (Kd.R_base ho0) hb); have n2_ := Aside0.mk (Kd.R_elder' (rowN HO228.out) (Kd.R_base ho0) hb); have n3_ := Aside0.mk (Kd.R_lower (Kd.R_new' (Kd.R_new' (Kd.R_new' ho0 (Kd.R_lt (rowN HO221.out))) (Kd.R_lt (rowN HO225.out))) (Kd.R_lt (rowN HO228.out))) (below_size (belN HB.out))); have n4_ := Aside0.mk (below_step (belN HB.out) hb); clear HO221; clear HO225; clear HO228; clear HB; have HO221 := n0_; have HO225 := n1_; have HO228 := n2_; have HO232 := n3_; have HB := n4_; clear n0_ n1_ n2_ n3_ n4_; (try clear hb); (try clear hb2); (try clear hk); (try clear hi); (try clear ho0)))
  go_ret
  exact ⟨by first | rfl | (simp [errW_none, errW_some] <;> rfl) | (simp [*, errW_none, errW_some] <;> rfl), (belN HB.out)⟩

/-! ### marigraphref1_gcd: function 49 -/
def marigraphref1_gcd.l0 : Nat → Int → Int → Option (Int)
  | 0, _, _ => none
  | k + 1, x0, x1 => if x1 = 0 then (some x0) else (marigraphref1_gcd.l0 k x1 (Int.tmod x0 x1))
def marigraphref1_gcd.f (k : Nat) (a0 : Int) (a1 : Int) : Option (Int) := marigraphref1_gcd.l0 k a0 a1
theorem marigraphref1_gcd.mono_l : ∀ k, (∀ y0 y1, LeO (marigraphref1_gcd.l0 k y0 y1) (marigraphref1_gcd.l0 (k + 1) y0 y1))
  | 0 => fun _ _ r h => by simp [marigraphref1_gcd.l0] at h
  | k + 1 => by
    have ih0 := marigraphref1_gcd.mono_l k
    · intro y0 y1
      unfold marigraphref1_gcd.l0
      repeat' first
      | (with_reducible exact ih0 _ _)
      | (with_reducible exact LeO.refl _)
      | (with_reducible exact LeO.none _)
      | (with_reducible refine LeO.ite ?_ ?_)
      | (with_reducible refine LeO.bind ?_ (fun _ => ?_))
      | exact ih0 _ _
      | exact LeO.none _
      | refine LeO.ite ?_ ?_
      | refine LeO.bind ?_ (fun _ => ?_)
theorem marigraphref1_gcd.mono : ∀ a0 a1 k, LeO (marigraphref1_gcd.f k a0 a1) (marigraphref1_gcd.f (k + 1) a0 a1) := by
  intro a0 a1 k
  have ih0 := marigraphref1_gcd.mono_l k
  unfold marigraphref1_gcd.f
  repeat' first
      | (with_reducible exact ih0 _ _)
      | (with_reducible exact LeO.refl _)
      | (with_reducible exact LeO.none _)
      | (with_reducible refine LeO.ite ?_ ?_)
      | (with_reducible refine LeO.bind ?_ (fun _ => ?_))
      | exact ih0 _ _
      | exact LeO.none _
      | refine LeO.ite ?_ ?_
      | refine LeO.bind ?_ (fun _ => ?_)
set_option maxHeartbeats 8000000 in
set_option maxRecDepth 100000 in
theorem marigraphref1_gcd.calls (k : Nat) (a0 : Int) (a1 : Int) (r : Int) (w : World) (h : marigraphref1_gcd.f k a0 a1 = some r) :
    Calls Try.prog 49 #[.int .i64 a0, .int .i64 a1] w fun e w' => e = .returned (.int .i64 r) ∧ Drawn0 w w' := by
  have H : (marigraphref1_gcd.l0 k a0 a1) = some r := h
  clear h
  have H' := Aside0.mk H
  clear H
  go_enter Try.func49, Try.ntmps49
  go_wp2
  repeat (go_quiet (fail); try go_wp2)
  go_loopg [0, 1] k (fun kq v0 v1 w' => ∃ (x0_1 : Int) (x1_1 : Int), v0 = .int .i64 x0_1 ∧ v1 = .int .i64 x1_1 ∧ Aside0 (marigraphref1_gcd.l0 kq x0_1 x1_1 = some r) ∧ Aside0 (kq ≤ k) ∧ Drawn0 w w')
  case atStart => exact ⟨(a0), (a1), (by first | rfl | (simp; done) | (simp [*]; done)), (by first | rfl | (simp; done) | (simp [*]; done)), H', ⟨Nat.le_refl _⟩, by repeat (first | exact Drawn0.refl _ | apply Drawn0.step)⟩
  case round =>
    clear H'
    try clear p2
    obtain ⟨x0_1, x1_1, rfl, rfl, HA, HK1, ⟨m1, rfl⟩⟩ := hrel
    cases gk with
    | zero => exact absurd HA.out (by simp [marigraphref1_gcd.l0])
    | succ k1 =>
      have H := HA.out
      clear HA
      simp only [marigraphref1_gcd.l0] at H
      by_cases c3 : x1_1 = 0
      · rw [if_pos c3] at H
        have c3b0 : (x1_1 == 0) = true := beq_iff_eq.mpr c3
        have c3b1 : (x1_1 != 0) = false := bne_eq_false_iff_eq.mpr c3
        clear c3
        obtain rfl := Option.some.inj H
        go_wp2
        repeat (go_quiet (fail); try go_wp2)
        go_ret
        exact ⟨by first | rfl | (simp; done) | (simp [*]; done), by repeat (first | exact Drawn0.refl _ | apply Drawn0.step)⟩
      · rw [if_neg c3] at H
        have c3b0 : (x1_1 == 0) = false := beq_eq_false_iff_ne.mpr c3
        have c3b1 : (x1_1 != 0) = true := bne_iff_ne.mpr c3
        have H' := Aside0.mk H
        clear H
        go_wp2
        repeat (go_quiet (fail); try go_wp2)
        go_roundg k1
        case measure => have := HK1.out; omega
        case rel => exact ⟨(x1_1), (Int.tmod x0_1 x1_1), (by first | rfl | (simp; done) | (simp [*]; done)), (by first | rfl | (simp; done) | (simp [*]; done)), H', ⟨by have := HK1.out; omega⟩, by repeat (first | exact Drawn0.refl _ | apply Drawn0.step)⟩

/-! ### marigraphref1_abs: function 50 -/
def marigraphref1_abs.f (a0 : Int) : Option (Int) := if a0 < 0 then (some (wrap64 (-a0))) else (some a0)
set_option maxHeartbeats 8000000 in
set_option maxRecDepth 100000 in
theorem marigraphref1_abs.calls (a0 : Int) (r : Int) (w : World) (h : marigraphref1_abs.f a0 = some r) :
    Calls Try.prog 50 #[.int .i64 a0] w fun e w' => e = .returned (.int .i64 r) ∧ Drawn0 w w' := by
  have H : (if a0 < 0 then (some (wrap64 (-a0))) else (some a0)) = some r := h
  clear h
  by_cases c2 : a0 < 0
  · rw [if_pos c2] at H
    have c2b0 : decide (a0 < 0) = true := decide_eq_true c2
    clear c2
    obtain rfl := Option.some.inj H
    go_enter Try.func50, Try.ntmps50
    go_wp2
    go_ret
    exact ⟨by first | rfl | (simp; done) | (simp [*]; done), by repeat (first | exact Drawn0.refl _ | apply Drawn0.step)⟩
  · rw [if_neg c2] at H
    have c2b0 : decide (a0 < 0) = false := decide_eq_false c2
    clear c2
    obtain rfl := Option.some.inj H
    go_enter Try.func50, Try.ntmps50
    go_wp2
    go_ret
    exact ⟨by first | rfl | (simp; done) | (simp [*]; done), by repeat (first | exact Drawn0.refl _ | apply Drawn0.step)⟩

/-! ### marigraphref1_Right: function 25 -/
def marigraphref1_Right.j0 : Nat → Bool → Int → Int → Option (Bool)
  | 0, _, _, _ => none
  | k + 1, x20, x236000, x236001 => if x20 = true then (some false) else ((marigraphref1_abs.f x236000).bind fun t236 => ((marigraphref1_gcd.f k t236 x236001).bind fun t237 => (some (t237 == 1))))
def marigraphref1_Right.f (k : Nat) (a0_0 : Int) (a0_1 : Int) : Option (Bool) := if a0_1 < 1 then (marigraphref1_Right.j0 k true a0_0 a0_1) else (if a0_1 > 2147483647 then (marigraphref1_Right.j0 k true a0_0 a0_1) else (if a0_0 < (-2147483647) then (marigraphref1_Right.j0 k true a0_0 a0_1) else (marigraphref1_Right.j0 k (decide (a0_0 > 2147483647)) a0_0 a0_1)))
theorem marigraphref1_Right.mono_l : ∀ k, (∀ y0 y1 y2, LeO (marigraphref1_Right.j0 k y0 y1 y2) (marigraphref1_Right.j0 (k + 1) y0 y1 y2))
  | 0 => fun _ _ _ r h => by simp [marigraphref1_Right.j0] at h
  | k + 1 => by
    have ih0 := marigraphref1_Right.mono_l k
    · intro y0 y1 y2
      unfold marigraphref1_Right.j0
      repeat' first
      | (with_reducible exact ih0 _ _ _)
      | (with_reducible exact marigraphref1_gcd.mono _ _ _)
      | (with_reducible exact LeO.refl _)
      | (with_reducible exact LeO.none _)
      | (with_reducible refine LeO.ite ?_ ?_)
      | (with_reducible refine LeO.bind ?_ (fun _ => ?_))
      | exact ih0 _ _ _
      | exact marigraphref1_gcd.mono _ _ _
      | exact LeO.none _
      | refine LeO.ite ?_ ?_
      | refine LeO.bind ?_ (fun _ => ?_)
theorem marigraphref1_Right.mono : ∀ a0 a1 k, LeO (marigraphref1_Right.f k a0 a1) (marigraphref1_Right.f (k + 1) a0 a1) := by
  intro a0 a1 k
  have ih0 := marigraphref1_Right.mono_l k
  unfold marigraphref1_Right.f
  repeat' first
      | (with_reducible exact ih0 _ _ _)
      | (with_reducible exact marigraphref1_gcd.mono _ _ _)
      | (with_reducible exact LeO.refl _)
      | (with_reducible exact LeO.none _)
      | (with_reducible refine LeO.ite ?_ ?_)
      | (with_reducible refine LeO.bind ?_ (fun _ => ?_))
      | exact ih0 _ _ _
      | exact marigraphref1_gcd.mono _ _ _
      | exact LeO.none _
      | refine LeO.ite ?_ ?_
      | refine LeO.bind ?_ (fun _ => ?_)
set_option maxHeartbeats 8000000 in
set_option maxRecDepth 100000 in
theorem marigraphref1_Right.calls (k : Nat) (a0_0 : Int) (a0_1 : Int) (r : Bool) (w : World) (h : marigraphref1_Right.f k a0_0 a0_1 = some r) :
    Calls Try.prog 25 #[.agg #[.int .i64 a0_0, .int .i64 a0_1]] w fun e w' => e = .returned (.bool r) ∧ Below w.heap.size w w' := by
  have hu28 := Try.underlying28
  have HB := Aside0.mk (Below.refl w.heap.size w)
  have H : (if a0_1 < 1 then (marigraphref1_Right.j0 k true a0_0 a0_1) else (if a0_1 > 2147483647 then (marigraphref1_Right.j0 k true a0_0 a0_1) else (if a0_0 < (-2147483647) then (marigraphref1_Right.j0 k true a0_0 a0_1) else (marigraphref1_Right.j0 k (decide (a0_0 > 2147483647)) a0_0 a0_1)))) = some r := h
  clear h
  have HC2 := Aside0.mk H
  clear H
  go_enter Try.func25, Try.ntmps25
  go_upto_region 1 with (first | ((with_reducible refine gate_dst (N := 1) rfl ?_); refine box_event ?hg (N := 1) ?hd (cs := #[.int .i64 a0_0, .int .i64 a0_1]) (t := 28) ?hr ?_; (case hd => rfl); (case hg => rfl); (case hr => first | (go_simp; done) | (go_simp; rfl)); intro gb235 hg w3 hbox hb; have n0_ := Aside0.mk (below_step (by repeat (first | (with_reducible first | exact HB.out | apply below_alloc | apply pw_below_drewN | apply below_drew1) | exact HB.out)) hb); have n1_ := Aside0.mk (hbox); have n2_ := Aside0.mk ((by rw [hg]; exact (below_size (by repeat (first | (with_reducible first | exact HB.out | apply below_alloc | apply pw_below_drewN | apply below_drew1) | exact HB.out))) : w.heap.size ≤ gb235)); have n3_ := Aside0.mk ((by rw [hg]; exact (below_size (by repeat (first | (with_reducible first | exact HB.out | apply below_alloc | apply pw_below_drewN | apply below_drew1) | exact HB.out))) : w.heap.size ≤ gb235)); clear HB; have HB := n0_; have BK235 := n1_; have GW235 := n2_; have GE235 := n3_; clear n0_ n1_ n2_ n3_; clear hb hbox hg))
  repeat (go_quiet (first | ((with_reducible refine gate_dst (N := 1) rfl ?_); refine box_event ?hg (N := 1) ?hd (cs := #[.int .i64 a0_0, .int .i64 a0_1]) (t := 28) ?hr ?_; (case hd => rfl); (case hg => rfl); (case hr => first | (go_simp; done) | (go_simp; rfl)); intro gb235 hg w3 hbox hb; have n0_ := Aside0.mk (below_step (by repeat (first | (with_reducible first | exact HB.out | apply below_alloc | apply pw_below_drewN | apply below_drew1) | exact HB.out)) hb); have n1_ := Aside0.mk (hbox); have n2_ := Aside0.mk ((by rw [hg]; exact (below_size (by repeat (first | (with_reducible first | exact HB.out | apply below_alloc | apply pw_below_drewN | apply below_drew1) | exact HB.out))) : w.heap.size ≤ gb235)); have n3_ := Aside0.mk ((by rw [hg]; exact (below_size (by repeat (first | (with_reducible first | exact HB.out | apply below_alloc | apply pw_below_drewN | apply below_drew1) | exact HB.out))) : w.heap.size ≤ gb235)); clear HB; have HB := n0_; have BK235 := n1_; have GW235 := n2_; have GE235 := n3_; clear n0_ n1_ n2_ n3_; clear hb hbox hg)); go_upto_region 1 with (first | ((with_reducible refine gate_dst (N := 1) rfl ?_); refine box_event ?hg (N := 1) ?hd (cs := #[.int .i64 a0_0, .int .i64 a0_1]) (t := 28) ?hr ?_; (case hd => rfl); (case hg => rfl); (case hr => first | (go_simp; done) | (go_simp; rfl)); intro gb235 hg w3 hbox hb; have n0_ := Aside0.mk (below_step (by repeat (first | (with_reducible first | exact HB.out | apply below_alloc | apply pw_below_drewN | apply below_drew1) | exact HB.out)) hb); have n1_ := Aside0.mk (hbox); have n2_ := Aside0.mk ((by rw [hg]; exact (below_size (by repeat (first | (with_reducible first | exact HB.out | apply below_alloc | apply pw_below_drewN | apply below_drew1) | exact HB.out))) : w.heap.size ≤ gb235)); have n3_ := Aside0.mk ((by rw [hg]; exact (below_size (by repeat (first | (with_reducible first | exact HB.out | apply below_alloc | apply pw_below_drewN | apply below_drew1) | exact HB.out))) : w.heap.size ≤ gb235)); clear HB; have HB := n0_; have BK235 := n1_; have GW235 := n2_; have GE235 := n3_; clear n0_ n1_ n2_ n3_; clear hb hbox hg)))
  (try simp only [Act.put, List.setIfInBounds_toArray, List.set_cons_zero, List.set_cons_succ])
  go_cut [20] (fun v20 wc => ∃ (kq : Nat) (x20_1 : Bool), v20 = .bool x20_1 ∧ Aside0 (marigraphref1_Right.j0 kq x20_1 a0_0 a0_1 = some r) ∧ Aside0 (kq ≤ k) ∧ Aside0 (wc.heap[gb235]? = some (.cells #[.int .i64 a0_0, .int .i64 a0_1] 28 (0, 0))) ∧ Aside0 (Below w.heap.size w wc))
  case first =>
    have H := HC2.out
    clear HC2
    by_cases c4 : a0_1 < 1
    · rw [if_pos c4] at H
      have c4b0 : decide (a0_1 < 1) = true := decide_eq_true c4
      clear c4
      (first | rw [c4b0] | (simp only [i64_w, i32_w]; rw [c4b0]) | skip)
      have H' := Aside0.mk H
      clear H
      have hcz5_0 : w3.cell? ⟨gb235, 0, none⟩ = some (.int .i64 a0_0) := (blk_cell BK235.out 0).trans rfl
      have hcz5_1 : w3.cell? ⟨gb235, 1, none⟩ = some (.int .i64 a0_1) := (blk_cell BK235.out 1).trans rfl
      have hfz5_0 := blk_frozen BK235.out 0
      have hfz5_1 := blk_frozen BK235.out 1
      go_wp2
      repeat (go_quiet (fail); try go_wp2)
      go_meet
      case rel => exact ⟨_, (true), (by first | rfl | (simp; done) | (simp [*]; done)), H', ⟨by first | omega | exact Nat.le_refl _⟩, ⟨by (with_reducible repeat (first | refine blk_drewN ?_ _ | refine blk_drew ?_ | refine blk_alloc ?_ _)); exact BK235.out⟩, ⟨by repeat (first | (with_reducible first | exact HB.out | apply below_alloc | apply pw_below_drewN | apply below_drew1 | refine below_set ?_ GE235.out) | exact HB.out)⟩⟩
    · rw [if_neg c4] at H
      have c4b0 : decide (a0_1 < 1) = false := decide_eq_false c4
      clear c4
      (first | rw [c4b0] | (simp only [i64_w, i32_w]; rw [c4b0]) | skip)
      by_cases c6 : a0_1 > 2147483647
      · rw [if_pos c6] at H
        have c6b0 : decide (2147483647 < a0_1) = true := decide_eq_true c6
        clear c6
        have H' := Aside0.mk H
        clear H
        have hcz7_0 : w3.cell? ⟨gb235, 0, none⟩ = some (.int .i64 a0_0) := (blk_cell BK235.out 0).trans rfl
        have hcz7_1 : w3.cell? ⟨gb235, 1, none⟩ = some (.int .i64 a0_1) := (blk_cell BK235.out 1).trans rfl
        have hfz7_0 := blk_frozen BK235.out 0
        have hfz7_1 := blk_frozen BK235.out 1
        go_wp2
        repeat (go_quiet (fail); try go_wp2)
        go_meet
        case rel => exact ⟨_, (true), (by first | rfl | (simp; done) | (simp [*]; done)), H', ⟨by first | omega | exact Nat.le_refl _⟩, ⟨by (with_reducible repeat (first | refine blk_drewN ?_ _ | refine blk_drew ?_ | refine blk_alloc ?_ _)); exact BK235.out⟩, ⟨by repeat (first | (with_reducible first | exact HB.out | apply below_alloc | apply pw_below_drewN | apply below_drew1 | refine below_set ?_ GE235.out) | exact HB.out)⟩⟩
      · rw [if_neg c6] at H
        have c6b0 : decide (2147483647 < a0_1) = false := decide_eq_false c6
        clear c6
        by_cases c8 : a0_0 < (-2147483647)
        · rw [if_pos c8] at H
          have c8b0 : decide (a0_0 < (-2147483647)) = true := decide_eq_true c8
          clear c8
          have H' := Aside0.mk H
          clear H
          have hcz9_0 : w3.cell? ⟨gb235, 0, none⟩ = some (.int .i64 a0_0) := (blk_cell BK235.out 0).trans rfl
          have hcz9_1 : w3.cell? ⟨gb235, 1, none⟩ = some (.int .i64 a0_1) := (blk_cell BK235.out 1).trans rfl
          have hfz9_0 := blk_frozen BK235.out 0
          have hfz9_1 := blk_frozen BK235.out 1
          go_wp2
          repeat (go_quiet (fail); try go_wp2)
          go_meet
          case rel => exact ⟨_, (true), (by first | rfl | (simp; done) | (simp [*]; done)), H', ⟨by first | omega | exact Nat.le_refl _⟩, ⟨by (with_reducible repeat (first | refine blk_drewN ?_ _ | refine blk_drew ?_ | refine blk_alloc ?_ _)); exact BK235.out⟩, ⟨by repeat (first | (with_reducible first | exact HB.out | apply below_alloc | apply pw_below_drewN | apply below_drew1 | refine below_set ?_ GE235.out) | exact HB.out)⟩⟩
        · rw [if_neg c8] at H
          have c8b0 : decide (a0_0 < (-2147483647)) = false := decide_eq_false c8
          clear c8
          have H' := Aside0.mk H
          clear H
          have hcz10_0 : w3.cell? ⟨gb235, 0, none⟩ = some (.int .i64 a0_0) := (blk_cell BK235.out 0).trans rfl
          have hcz10_1 : w3.cell? ⟨gb235, 1, none⟩ = some (.int .i64 a0_1) := (blk_cell BK235.out 1).trans rfl
          have hfz10_0 := blk_frozen BK235.out 0
          have hfz10_1 := blk_frozen BK235.out 1
          go_wp2
          repeat (go_quiet (fail); try go_wp2)
          go_meet
          case rel => exact ⟨_, (decide (a0_0 > 2147483647)), (by first | rfl | (simp; done) | (simp [*]; done)), H', ⟨by first | omega | exact Nat.le_refl _⟩, ⟨by (with_reducible repeat (first | refine blk_drewN ?_ _ | refine blk_drew ?_ | refine blk_alloc ?_ _)); exact BK235.out⟩, ⟨by repeat (first | (with_reducible first | exact HB.out | apply below_alloc | apply pw_below_drewN | apply below_drew1 | refine below_set ?_ GE235.out) | exact HB.out)⟩⟩
  case rest =>
    clear HC2
    try clear c2
    try clear p2
    try clear c4
    try clear c4b0
    try clear c6
    try clear c6b0
    try clear c8
    try clear c8b0
    try clear hcz10_0
    try clear hcz10_1
    try clear hcz5_0
    try clear hcz5_1
    try clear hcz7_0
    try clear hcz7_1
    try clear hcz9_0
    try clear hcz9_1
    try clear hfz10_0
    try clear hfz10_1
    try clear hfz5_0
    try clear hfz5_1
    try clear hfz7_0
    try clear hfz7_1
    try clear hfz9_0
    try clear hfz9_1
    obtain ⟨kq, x20_1, rfl, HA, HJ1, BK235, HB⟩ := hcut
    cases kq with
    | zero => exact absurd HA.out (by simp [marigraphref1_Right.j0])
    | succ kj1 =>
      have H := HA.out
      clear HA
      simp only [marigraphref1_Right.j0] at H
      by_cases c11 : x20_1 = true
      · subst c11
        have H1 : (some false) = some r := by rw [if_pos rfl] at H; exact H
        clear H
        have H := H1
        clear H1
        obtain rfl := Option.some.inj H
        go_wp2
        repeat (go_quiet (fail); try go_wp2)
        go_ret
        exact ⟨by first | rfl | (simp [errW_none, errW_some] <;> rfl) | (simp [*, errW_none, errW_some] <;> rfl), by repeat (first | (with_reducible first | exact HB.out | apply below_alloc | apply pw_below_drewN | apply below_drew1 | refine below_set ?_ GE235.out) | exact HB.out)⟩
      · replace c11 := Bool.eq_false_iff.mpr c11
        subst c11
        have H1 : ((marigraphref1_abs.f a0_0).bind fun t236 => ((marigraphref1_gcd.f kj1 t236 a0_1).bind fun t237 => (some (t237 == 1)))) = some r := by rw [if_neg (show ¬ (false = true) by decide)] at H; exact H
        clear H
        have H := H1
        clear H1
        replace H := Option.bind_eq_some_iff.mp H
        obtain ⟨t236, A120, H⟩ := H
        replace H : ((marigraphref1_gcd.f kj1 t236 a0_1).bind fun t237 => (some (t237 == 1))) = some r := H
        have A12 := Aside0.mk A120
        clear A120
        replace H := Option.bind_eq_some_iff.mp H
        obtain ⟨t237, A130, H⟩ := H
        replace H : (some (t237 == 1)) = some r := H
        have A13 := Aside0.mk A130
        clear A130
        obtain rfl := Option.some.inj H
        have hcz14_0 : wc.cell? ⟨gb235, 0, none⟩ = some (.int .i64 a0_0) := (blk_cell BK235.out 0).trans rfl
        have hcz14_1 : wc.cell? ⟨gb235, 1, none⟩ = some (.int .i64 a0_1) := (blk_cell BK235.out 1).trans rfl
        have hfz14_0 := blk_frozen BK235.out 0
        have hfz14_1 := blk_frozen BK235.out 1
        go_wp2_with (first | (go_at_call 50; (with_reducible refine (marigraphref1_abs.calls a0_0 t236 _ A12.out).mono ?_); rintro e w' ⟨rfl, ⟨nd, rfl⟩⟩; (try first | exact ⟨rfl, _, World.drewN_drewN _ _ _⟩ | exact ⟨rfl, _, Eq.trans (World.drewN_drewN _ _ _) (congrArg (World.drewN _) (Nat.add_assoc _ _ _))⟩)) | (go_at_call 49; (with_reducible refine (marigraphref1_gcd.calls kj1 t236 a0_1 t237 _ A13.out).mono ?_); rintro e w' ⟨rfl, ⟨nd, rfl⟩⟩; (try first | exact ⟨rfl, _, World.drewN_drewN _ _ _⟩ | exact ⟨rfl, _, Eq.trans (World.drewN_drewN _ _ _) (congrArg (World.drewN _) (Nat.add_assoc _ _ _))⟩)))
        repeat (go_quiet (first | (go_at_call 50; (with_reducible refine (marigraphref1_abs.calls a0_0 t236 _ A12.out).mono ?_); rintro e w' ⟨rfl, ⟨nd, rfl⟩⟩; (try first | exact ⟨rfl, _, World.drewN_drewN _ _ _⟩ | exact ⟨rfl, _, Eq.trans (World.drewN_drewN _ _ _) (congrArg (World.drewN _) (Nat.add_assoc _ _ _))⟩)) | (go_at_call 49; (with_reducible refine (marigraphref1_gcd.calls kj1 t236 a0_1 t237 _ A13.out).mono ?_); rintro e w' ⟨rfl, ⟨nd, rfl⟩⟩; (try first | exact ⟨rfl, _, World.drewN_drewN _ _ _⟩ | exact ⟨rfl, _, Eq.trans (World.drewN_drewN _ _ _) (congrArg (World.drewN _) (Nat.add_assoc _ _ _))⟩))); try go_wp2_with (first | (go_at_call 50; (with_reducible refine (marigraphref1_abs.calls a0_0 t236 _ A12.out).mono ?_); rintro e w' ⟨rfl, ⟨nd, rfl⟩⟩; (try first | exact ⟨rfl, _, World.drewN_drewN _ _ _⟩ | exact ⟨rfl, _, Eq.trans (World.drewN_drewN _ _ _) (congrArg (World.drewN _) (Nat.add_assoc _ _ _))⟩)) | (go_at_call 49; (with_reducible refine (marigraphref1_gcd.calls kj1 t236 a0_1 t237 _ A13.out).mono ?_); rintro e w' ⟨rfl, ⟨nd, rfl⟩⟩; (try first | exact ⟨rfl, _, World.drewN_drewN _ _ _⟩ | exact ⟨rfl, _, Eq.trans (World.drewN_drewN _ _ _) (congrArg (World.drewN _) (Nat.add_assoc _ _ _))⟩))))
        go_ret
        exact ⟨by first | rfl | (simp [errW_none, errW_some] <;> rfl) | (simp [*, errW_none, errW_some] <;> rfl), by repeat (first | (with_reducible first | exact HB.out | apply below_alloc | apply pw_below_drewN | apply below_drew1 | refine below_set ?_ GE235.out) | exact HB.out)⟩

end Go.Proofs.Ytdnialldicdnoaa.PRateSums

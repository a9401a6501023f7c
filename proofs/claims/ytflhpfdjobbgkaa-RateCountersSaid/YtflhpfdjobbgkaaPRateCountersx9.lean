/- The walk of the Go functions that a law reaches, told as plain functions; a program of this session has written it. No condition beyond the statement's own. -/
import Derived.Test.YtflhpfdjobbgkaaPRateCountersx0
import Derived.Test.YtflhpfdjobbgkaaPRateCountersx1
import Derived.Test.YtflhpfdjobbgkaaPRateCountersx2
import Derived.Test.YtflhpfdjobbgkaaPRateCountersx3
import Derived.Test.YtflhpfdjobbgkaaPRateCountersx8
namespace Go.Proofs.Ytflhpfdjobbgkaa.PRateCounters
open Go.RowKit Go.Proofs.YtflhpfdjobbgkaaW.PrintWords Go.Proofs.YtflhpfdjobbgkaaW.PrintLast Go.Proofs.YtflhpfdjobbgkaaW.PrintMore
attribute [local go_sem] max2_int min2_int max_two min_two max_three min_three max_four min_four   -- for this text's walks alone
set_option linter.unusedVariables false
set_option linter.unusedSimpArgs false

attribute [local go_sem high] eqA27 eqA29
/-! ### marigraphlaw24_known: function 9 -/
def marigraphlaw24_known.f (k : Nat)  : Option (Bool) := (rate_Do.f k (([(⟨0, (⟨1, 1⟩ : S27)⟩ : S29), (⟨10, (⟨6, 1⟩ : S27)⟩ : S29)] : List (S29))) false 0).bind fun bt240 => ((rate_Do.f k (([(⟨0, (⟨8, 1⟩ : S27)⟩ : S29), (⟨3, (⟨1, 1⟩ : S27)⟩ : S29)] : List (S29))) true 10).bind fun bt247 => (if bt240.2 = 0 then (if (bt240.1.length : Int) = 1 then (if 0 < (bt240.1.length : Int) then (if (((rd_T29 bt240.1 0).f0) == 10 && ((((rd_T29 bt240.1 0).f1.f0) == 1 && (((rd_T29 bt240.1 0).f1.f1) == 2)))) = true then (if bt247.2 = 0 then (if (bt247.1.length : Int) = 1 then (if 0 < (bt247.1.length : Int) then (some (((rd_T29 bt247.1 0).f1.f0) == 1 && (((rd_T29 bt247.1 0).f1.f1) == 1))) else (none)) else (some false)) else (some false)) else (some false)) else (none)) else (some false)) else (some false)))
theorem marigraphlaw24_known.mono : ∀ k, LeO (marigraphlaw24_known.f k ) (marigraphlaw24_known.f (k + 1) ) := by
 intro  k
 unfold marigraphlaw24_known.f
 repeat' first
   | (with_reducible exact rate_Do.mono _ _ _ _)
   | (with_reducible exact LeO.refl _)
   | (with_reducible exact LeO.none _)
   | (with_reducible refine LeO.ite ?_ ?_)
   | (with_reducible refine LeO.bind ?_ (fun _ => ?_))
   | exact rate_Do.mono _ _ _ _
   | exact LeO.none _
   | refine LeO.ite ?_ ?_
   | refine LeO.bind ?_ (fun _ => ?_)
set_option maxHeartbeats 8000000 in
set_option maxRecDepth 100000 in
theorem marigraphlaw24_known.calls (k : Nat)  (r : Bool) (w : World) (h : marigraphlaw24_known.f k  = some r) :
  Calls Try.prog 9 #[] w fun e w' => e = .returned (.bool r) ∧ Below w.heap.size w w' := by
 have hu27 := Try.underlying27
 have hu29 := Try.underlying29
 have HB := Aside0.mk (Below.refl w.heap.size w)
 have H : ((rate_Do.f k (([(⟨0, (⟨1, 1⟩ : S27)⟩ : S29), (⟨10, (⟨6, 1⟩ : S27)⟩ : S29)] : List (S29))) false 0).bind fun bt240 => ((rate_Do.f k (([(⟨0, (⟨8, 1⟩ : S27)⟩ : S29), (⟨3, (⟨1, 1⟩ : S27)⟩ : S29)] : List (S29))) true 10).bind fun bt247 => (if bt240.2 = 0 then (if (bt240.1.length : Int) = 1 then (if 0 < (bt240.1.length : Int) then (if (((rd_T29 bt240.1 0).f0) == 10 && ((((rd_T29 bt240.1 0).f1.f0) == 1 && (((rd_T29 bt240.1 0).f1.f1) == 2)))) = true then (if bt247.2 = 0 then (if (bt247.1.length : Int) = 1 then (if 0 < (bt247.1.length : Int) then (some (((rd_T29 bt247.1 0).f1.f0) == 1 && (((rd_T29 bt247.1 0).f1.f1) == 1))) else (none)) else (some false)) else (some false)) else (some false)) else (none)) else (some false)) else (some false)))) = some r := h
 clear h
 obtain ⟨y237, hy237⟩ : ∃ y_ : List (S29), y_ = (([(⟨0, (⟨1, 1⟩ : S27)⟩ : S29), (⟨10, (⟨6, 1⟩ : S27)⟩ : S29)] : List (S29))) := ⟨_, rfl⟩
 replace H : ((rate_Do.f k y237 false 0).bind fun bt240 => ((rate_Do.f k (([(⟨0, (⟨8, 1⟩ : S27)⟩ : S29), (⟨3, (⟨1, 1⟩ : S27)⟩ : S29)] : List (S29))) true 10).bind fun bt247 => (if bt240.2 = 0 then (if (bt240.1.length : Int) = 1 then (if 0 < (bt240.1.length : Int) then (if (((rd_T29 bt240.1 0).f0) == 10 && ((((rd_T29 bt240.1 0).f1.f0) == 1 && (((rd_T29 bt240.1 0).f1.f1) == 2)))) = true then (if bt247.2 = 0 then (if (bt247.1.length : Int) = 1 then (if 0 < (bt247.1.length : Int) then (some (((rd_T29 bt247.1 0).f1.f0) == 1 && (((rd_T29 bt247.1 0).f1.f1) == 1))) else (none)) else (some false)) else (some false)) else (some false)) else (none)) else (some false)) else (some false)))) = some r := by first | (rw [hy237]; with_reducible exact H) | (have H2_ := (Option.bind_some _ _).symm.trans H; rw [hy237]; with_reducible exact H2_) | (have H2_ := (Option.bind_some _ _).symm.trans H; with_reducible exact H2_) | with_reducible exact H | (rw [hy237]; exact H) | exact H
 have Ny237 := Aside0.mk hy237
 clear hy237
 replace H := Option.bind_eq_some_iff.mp H
 obtain ⟨⟨t240, t241⟩, A10, H⟩ := H
 replace H : ((rate_Do.f k (([(⟨0, (⟨8, 1⟩ : S27)⟩ : S29), (⟨3, (⟨1, 1⟩ : S27)⟩ : S29)] : List (S29))) true 10).bind fun bt247 => (if t241 = 0 then (if (t240.length : Int) = 1 then (if 0 < (t240.length : Int) then (if (((rd_T29 t240 0).f0) == 10 && ((((rd_T29 t240 0).f1.f0) == 1 && (((rd_T29 t240 0).f1.f1) == 2)))) = true then (if bt247.2 = 0 then (if (bt247.1.length : Int) = 1 then (if 0 < (bt247.1.length : Int) then (some (((rd_T29 bt247.1 0).f1.f0) == 1 && (((rd_T29 bt247.1 0).f1.f1) == 1))) else (none)) else (some false)) else (some false)) else (some false)) else (none)) else (some false)) else (some false))) = some r := H
 have A1 := Aside0.mk A10
 clear A10
 obtain ⟨y244, hy244⟩ : ∃ y_ : List (S29), y_ = (([(⟨0, (⟨8, 1⟩ : S27)⟩ : S29), (⟨3, (⟨1, 1⟩ : S27)⟩ : S29)] : List (S29))) := ⟨_, rfl⟩
 replace H : ((rate_Do.f k y244 true 10).bind fun bt247 => (if t241 = 0 then (if (t240.length : Int) = 1 then (if 0 < (t240.length : Int) then (if (((rd_T29 t240 0).f0) == 10 && ((((rd_T29 t240 0).f1.f0) == 1 && (((rd_T29 t240 0).f1.f1) == 2)))) = true then (if bt247.2 = 0 then (if (bt247.1.length : Int) = 1 then (if 0 < (bt247.1.length : Int) then (some (((rd_T29 bt247.1 0).f1.f0) == 1 && (((rd_T29 bt247.1 0).f1.f1) == 1))) else (none)) else (some false)) else (some false)) else (some false)) else (none)) else (some false)) else (some false))) = some r := by first | (rw [hy244]; with_reducible exact H) | (have H2_ := (Option.bind_some _ _).symm.trans H; rw [hy244]; with_reducible exact H2_) | (have H2_ := (Option.bind_some _ _).symm.trans H; with_reducible exact H2_) | with_reducible exact H | (rw [hy244]; exact H) | exact H
 have Ny244 := Aside0.mk hy244
 clear hy244
 replace H := Option.bind_eq_some_iff.mp H
 obtain ⟨⟨t247, t248⟩, A20, H⟩ := H
 replace H : (if t241 = 0 then (if (t240.length : Int) = 1 then (if 0 < (t240.length : Int) then (if (((rd_T29 t240 0).f0) == 10 && ((((rd_T29 t240 0).f1.f0) == 1 && (((rd_T29 t240 0).f1.f1) == 2)))) = true then (if t248 = 0 then (if (t247.length : Int) = 1 then (if 0 < (t247.length : Int) then (some (((rd_T29 t247 0).f1.f0) == 1 && (((rd_T29 t247 0).f1.f1) == 1))) else (none)) else (some false)) else (some false)) else (some false)) else (none)) else (some false)) else (some false)) = some r := H
 have A2 := Aside0.mk A20
 clear A20
 by_cases c3 : t241 = 0
 ·rw [if_pos c3] at H
  have c3b0 : (t241 == 0) = true := beq_iff_eq.mpr c3
  have c3b1 : (t241 != 0) = false := bne_eq_false_iff_eq.mpr c3
  clear c3
  by_cases c4 : (t240.length : Int) = 1
  ·rw [if_pos c4] at H
   have c4b0 : ((t240.length : Int) == 1) = true := beq_iff_eq.mpr c4
   have c4b1 : ((t240.length : Int) != 1) = false := bne_eq_false_iff_eq.mpr c4
   clear c4
   by_cases c5 : 0 < (t240.length : Int)
   ·rw [if_pos c5] at H
    have c5b0 : decide (0 < (t240.length : Int)) = true := decide_eq_true c5
    have c5b1 : decide (0 < t240.length) = true := decide_eq_true (by omega)
    clear c5
    by_cases c6 : (((rd_T29 t240 0).f0) == 10 && ((((rd_T29 t240 0).f1.f0) == 1 && (((rd_T29 t240 0).f1.f1) == 2)))) = true
    ·rw [if_pos c6] at H
     have c6b0 : (((rd_T29 t240 0).f0) == 10 && ((((rd_T29 t240 0).f1.f0) == 1 && (((rd_T29 t240 0).f1.f1) == 2)))) = true := c6
     (try (have c6b1 : decide (((rd_T29 t240 0).f0) = 10 && ((((rd_T29 t240 0).f1.f0) == 1 && (((rd_T29 t240 0).f1.f1) == 2)))) = true := by simpa using c6))
     (try (have c6b2 : (((rd_T29 t240 0).f0) == 10 && ((((rd_T29 t240 0).f1.f0) == 1 && (((rd_T29 t240 0).f1.f1) == 2)))) = true := by simpa using c6))
     clear c6
     by_cases c7 : t248 = 0
     ·rw [if_pos c7] at H
      have c7b0 : (t248 == 0) = true := beq_iff_eq.mpr c7
      have c7b1 : (t248 != 0) = false := bne_eq_false_iff_eq.mpr c7
      clear c7
      by_cases c8 : (t247.length : Int) = 1
      ·rw [if_pos c8] at H
       have c8b0 : ((t247.length : Int) == 1) = true := beq_iff_eq.mpr c8
       have c8b1 : ((t247.length : Int) != 1) = false := bne_eq_false_iff_eq.mpr c8
       clear c8
       by_cases c9 : 0 < (t247.length : Int)
       ·rw [if_pos c9] at H
        have c9b0 : decide (0 < (t247.length : Int)) = true := decide_eq_true c9
        have c9b1 : decide (0 < t247.length) = true := decide_eq_true (by omega)
        clear c9
        obtain rfl := Option.some.inj H
        go_enter Try.func9, Try.ntmps9
        go_wp2_with (first | ((with_reducible refine gate_dst (N := 10) rfl ?_); (try (refine gate_guard (by rfl) ?_; dsimp only)); refine Kd.R_lit k29 _ 29 ?hg (N := 10) ?hd (xs := ([(⟨0, (⟨1, 1⟩ : S27)⟩ : S29), (⟨10, (⟨6, 1⟩ : S27)⟩ : S29)] : List (S29))) (inner := [.int .i64 0, .int .i64 1, .int .i64 1, .int .i64 10, .int .i64 6, .int .i64 1]) (ok := fun _ => True) (okp := fun _ => True) ?hr ?hp (fun _ hk => hk) trivial (Below.refl _ _) (Nat.le_refl _) (by simp) ?_; (case hd => rfl); (case hg => rfl); (case hr => first | (go_simp; done) | (go_simp; rfl)); (case hp => exact (Reps.c3 (show Kd.M k29 _ _ _ (⟨0, (⟨1, 1⟩ : S27)⟩ : S29) [.int .i64 0, .int .i64 1, .int .i64 1] from (k29_mkM _ _ _ (⟨0, (⟨1, 1⟩ : S27)⟩ : S29) )) (Reps.c3 (show Kd.M k29 _ _ _ (⟨10, (⟨6, 1⟩ : S27)⟩ : S29) [.int .i64 10, .int .i64 6, .int .i64 1] from (k29_mkM _ _ _ (⟨10, (⟨6, 1⟩ : S27)⟩ : S29) )) (Reps.none _ _)))); intro v238 w10 ho11 hb hg_ hnew_; clear hg_ hnew_; (first | rw [← Ny237.out] at ho11 | (simp only [Int.reduceToNat] at ho11; rw [← Ny237.out] at ho11)); have n0_ := Aside0.mk (Kd.R_lower ho11 (below_size (belN HB.out))); have n1_ := Aside0.mk (below_step (belN HB.out) hb); clear HB; have HO239 := n0_; have HB := n1_; clear n0_ n1_; clear hb ho11; obtain ⟨Ao12, co12, eo12⟩ := Kd.R_slice HO239.out; subst eo12) | ((with_reducible refine gate_callee (f := 8) rfl ?_); refine goesL_ (some 11) rfl rfl Try.func8 (by kernel_rfl) rfl #[.slice Ao12 y237.length co12, .bool false, .int .i64 0] rfl argN ?_; (with_reducible refine (rate_Do.calls k _ _ y237 false 0 t240 t241 _ ?side1 ?side2 A1.out).mono ?_); (case side1 => repeat (first | exact (Kd.R_reads' HO239.out).2.2 | (with_reducible refine Kd.C_alloc ?_ _) | (with_reducible refine Kd.C_drewN ?_ _) | (with_reducible refine Kd.C_drew ?_))); (case side2 => exact (Kd.R_reads' HO239.out).2.1); rintro e w13 ⟨v242, rfl, ho0, hb⟩; refine ⟨_, rfl, ?_⟩; have n0_ := Aside0.mk (Kd.R_elder' (rowN HO239.out) (Kd.R_base ho0) hb); have n1_ := Aside0.mk (Kd.R_lower (Kd.R_new' ho0 (Kd.R_lt (rowN HO239.out))) (below_size (belN HB.out))); have n2_ := Aside0.mk (below_step (belN HB.out) hb); clear HO239; clear HB; have HO239 := n0_; have HO243 := n1_; have HB := n2_; clear n0_ n1_ n2_; (try clear hb); (try clear hk); (try clear ho0)) | ((with_reducible refine gate_dst (N := 19) rfl ?_); (try (refine gate_guard (by rfl) ?_; dsimp only)); refine Kd.R_lit k29 _ 29 ?hg (N := 19) ?hd (xs := ([(⟨0, (⟨8, 1⟩ : S27)⟩ : S29), (⟨3, (⟨1, 1⟩ : S27)⟩ : S29)] : List (S29))) (inner := [.int .i64 0, .int .i64 8, .int .i64 1, .int .i64 3, .int .i64 1, .int .i64 1]) (ok := fun _ => True) (okp := fun _ => True) ?hr ?hp (fun _ hk => hk) trivial (Below.refl _ _) (Nat.le_refl _) (by simp) ?_; (case hd => rfl); (case hg => rfl); (case hr => first | (go_simp; done) | (go_simp; rfl)); (case hp => exact (Reps.c3 (show Kd.M k29 _ _ _ (⟨0, (⟨8, 1⟩ : S27)⟩ : S29) [.int .i64 0, .int .i64 8, .int .i64 1] from (k29_mkM _ _ _ (⟨0, (⟨8, 1⟩ : S27)⟩ : S29) )) (Reps.c3 (show Kd.M k29 _ _ _ (⟨3, (⟨1, 1⟩ : S27)⟩ : S29) [.int .i64 3, .int .i64 1, .int .i64 1] from (k29_mkM _ _ _ (⟨3, (⟨1, 1⟩ : S27)⟩ : S29) )) (Reps.none _ _)))); intro v245 w14 ho15 hb hg_ hnew_; clear hg_ hnew_; (first | rw [← Ny244.out] at ho15 | (simp only [Int.reduceToNat] at ho15; rw [← Ny244.out] at ho15)); have n0_ := Aside0.mk (Kd.R_elder' (rowN HO239.out) (Kd.R_base ho15) hb); have n1_ := Aside0.mk (Kd.R_elder' (rowN HO243.out) (Kd.R_base ho15) hb); have n2_ := Aside0.mk (Kd.R_lower (Kd.R_new' (Kd.R_new' ho15 (Kd.R_lt (rowN HO239.out))) (Kd.R_lt (rowN HO243.out))) (below_size (belN HB.out))); have n3_ := Aside0.mk (below_step (belN HB.out) hb); clear HO239; clear HO243; clear HB; have HO239 := n0_; have HO243 := n1_; have HO246 := n2_; have HB := n3_; clear n0_ n1_ n2_ n3_; clear hb ho15; obtain ⟨Ao16, co16, eo16⟩ := Kd.R_slice HO246.out; subst eo16) | ((with_reducible refine gate_callee (f := 8) rfl ?_); refine goesL_ (some 20) rfl rfl Try.func8 (by kernel_rfl) rfl #[.slice Ao16 y244.length co16, .bool true, .int .i64 10] rfl argN ?_; (with_reducible refine (rate_Do.calls k _ _ y244 true 10 t247 t248 _ ?side1 ?side2 A2.out).mono ?_); (case side1 => repeat (first | exact (Kd.R_reads' HO246.out).2.2 | (with_reducible refine Kd.C_alloc ?_ _) | (with_reducible refine Kd.C_drewN ?_ _) | (with_reducible refine Kd.C_drew ?_))); (case side2 => exact (Kd.R_reads' HO246.out).2.1); rintro e w17 ⟨v249, rfl, ho0, hb⟩; refine ⟨_, rfl, ?_⟩; have n0_ := Aside0.mk (Kd.R_elder' (rowN HO239.out) (Kd.R_base ho0) hb); have n1_ := Aside0.mk (Kd.R_elder' (rowN HO243.out) (Kd.R_base ho0) hb); have n2_ := Aside0.mk (Kd.R_elder' (rowN HO246.out) (Kd.R_base ho0) hb); have n3_ := Aside0.mk (Kd.R_lower (Kd.R_new' (Kd.R_new' (Kd.R_new' ho0 (Kd.R_lt (rowN HO239.out))) (Kd.R_lt (rowN HO243.out))) (Kd.R_lt (rowN HO246.out))) (below_size (belN HB.out))); have n4_ := Aside0.mk (below_step (belN HB.out) hb); clear HO239; clear HO243; clear HO246; clear HB; have HO239 := n0_; have HO243 := n1_; have HO246 := n2_; have HO250 := n3_; have HB := n4_; clear n0_ n1_ n2_ n3_ n4_; (try clear hb); (try clear hk); (try clear ho0); obtain ⟨Ao18, co18, eo18⟩ := Kd.R_slice HO243.out; subst eo18; have p251 : 0 ≤ (0 : Int) := (by omega); have q251 : 0 < (t240.length : Int) := of_decide_eq_true (by first | (with_reducible assumption) | assumption); obtain ⟨ad251, e251, hx251_0, hx251_1, hx251_2⟩ := at_T29 (Kd.R_reads' HO243.out).2.2 0 p251 q251; cases e251; have qi251 : (0 < t240.length) = True := eq_true (by omega); (try rw [show ((0 : Int)).toNat = 0 from rfl] at hx251_0); (try rw [show 0 * 3 = 0 from rfl] at hx251_0); (try rw [Addr.add_zero'] at hx251_0); (try rw [show ((0 : Int)).toNat = 0 from rfl] at hx251_1); (try rw [show 0 * 3 = 0 from rfl] at hx251_1); (try rw [Addr.add_zero'] at hx251_1); (try rw [show ((0 : Int)).toNat = 0 from rfl] at hx251_2); (try rw [show 0 * 3 = 0 from rfl] at hx251_2); (try rw [Addr.add_zero'] at hx251_2); replace p251 := eq_true p251; replace q251 := eq_true q251; obtain ⟨Ao19, co19, eo19⟩ := Kd.R_slice HO250.out; subst eo19; have p252 : 0 ≤ (0 : Int) := (by omega); have q252 : 0 < (t247.length : Int) := of_decide_eq_true (by first | (with_reducible assumption) | assumption); obtain ⟨ad252, e252, hx252_0, hx252_1, hx252_2⟩ := at_T29 (Kd.R_reads' HO250.out).2.2 0 p252 q252; cases e252; have qi252 : (0 < t247.length) = True := eq_true (by omega); (try rw [show ((0 : Int)).toNat = 0 from rfl] at hx252_0); (try rw [show 0 * 3 = 0 from rfl] at hx252_0); (try rw [Addr.add_zero'] at hx252_0); (try rw [show ((0 : Int)).toNat = 0 from rfl] at hx252_1); (try rw [show 0 * 3 = 0 from rfl] at hx252_1); (try rw [Addr.add_zero'] at hx252_1); (try rw [show ((0 : Int)).toNat = 0 from rfl] at hx252_2); (try rw [show 0 * 3 = 0 from rfl] at hx252_2); (try rw [Addr.add_zero'] at hx252_2); replace p252 := eq_true p252; replace q252 := eq_true q252))
        go_ret
        exact ⟨by first | rfl | (simp [errW_none, errW_some] <;> rfl) | (simp [*, errW_none, errW_some] <;> rfl), (belN HB.out)⟩
       ·rw [if_neg c9] at H
        exact absurd H (by simp)
      ·rw [if_neg c8] at H
       have c8b0 : ((t247.length : Int) == 1) = false := beq_eq_false_iff_ne.mpr c8
       have c8b1 : ((t247.length : Int) != 1) = true := bne_iff_ne.mpr c8
       obtain rfl := Option.some.inj H
       go_enter Try.func9, Try.ntmps9
       go_wp2_with (first | ((with_reducible refine gate_dst (N := 10) rfl ?_); (try (refine gate_guard (by rfl) ?_; dsimp only)); refine Kd.R_lit k29 _ 29 ?hg (N := 10) ?hd (xs := ([(⟨0, (⟨1, 1⟩ : S27)⟩ : S29), (⟨10, (⟨6, 1⟩ : S27)⟩ : S29)] : List (S29))) (inner := [.int .i64 0, .int .i64 1, .int .i64 1, .int .i64 10, .int .i64 6, .int .i64 1]) (ok := fun _ => True) (okp := fun _ => True) ?hr ?hp (fun _ hk => hk) trivial (Below.refl _ _) (Nat.le_refl _) (by simp) ?_; (case hd => rfl); (case hg => rfl); (case hr => first | (go_simp; done) | (go_simp; rfl)); (case hp => exact (Reps.c3 (show Kd.M k29 _ _ _ (⟨0, (⟨1, 1⟩ : S27)⟩ : S29) [.int .i64 0, .int .i64 1, .int .i64 1] from (k29_mkM _ _ _ (⟨0, (⟨1, 1⟩ : S27)⟩ : S29) )) (Reps.c3 (show Kd.M k29 _ _ _ (⟨10, (⟨6, 1⟩ : S27)⟩ : S29) [.int .i64 10, .int .i64 6, .int .i64 1] from (k29_mkM _ _ _ (⟨10, (⟨6, 1⟩ : S27)⟩ : S29) )) (Reps.none _ _)))); intro v238 w20 ho21 hb hg_ hnew_; clear hg_ hnew_; (first | rw [← Ny237.out] at ho21 | (simp only [Int.reduceToNat] at ho21; rw [← Ny237.out] at ho21)); have n0_ := Aside0.mk (Kd.R_lower ho21 (below_size (belN HB.out))); have n1_ := Aside0.mk (below_step (belN HB.out) hb); clear HB; have HO239 := n0_; have HB := n1_; clear n0_ n1_; clear hb ho21; obtain ⟨Ao22, co22, eo22⟩ := Kd.R_slice HO239.out; subst eo22) | ((with_reducible refine gate_callee (f := 8) rfl ?_); refine goesL_ (some 11) rfl rfl Try.func8 (by kernel_rfl) rfl #[.slice Ao22 y237.length co22, .bool false, .int .i64 0] rfl argN ?_; (with_reducible refine (rate_Do.calls k _ _ y237 false 0 t240 t241 _ ?side1 ?side2 A1.out).mono ?_); (case side1 => repeat (first | exact (Kd.R_reads' HO239.out).2.2 | (with_reducible refine Kd.C_alloc ?_ _) | (with_reducible refine Kd.C_drewN ?_ _) | (with_reducible refine Kd.C_drew ?_))); (case side2 => exact (Kd.R_reads' HO239.out).2.1); rintro e w23 ⟨v242, rfl, ho0, hb⟩; refine ⟨_, rfl, ?_⟩; have n0_ := Aside0.mk (Kd.R_elder' (rowN HO239.out) (Kd.R_base ho0) hb); have n1_ := Aside0.mk (Kd.R_lower (Kd.R_new' ho0 (Kd.R_lt (rowN HO239.out))) (below_size (belN HB.out))); have n2_ := Aside0.mk (below_step (belN HB.out) hb); clear HO239; clear HB; have HO239 := n0_; have HO243 := n1_; have HB := n2_; clear n0_ n1_ n2_; (try clear hb); (try clear hk); (try clear ho0)) | ((with_reducible refine gate_dst (N := 19) rfl ?_); (try (refine gate_guard (by rfl) ?_; dsimp only)); refine Kd.R_lit k29 _ 29 ?hg (N := 19) ?hd (xs := ([(⟨0, (⟨8, 1⟩ : S27)⟩ : S29), (⟨3, (⟨1, 1⟩ : S27)⟩ : S29)] : List (S29))) (inner := [.int .i64 0, .int .i64 8, .int .i64 1, .int .i64 3, .int .i64 1, .int .i64 1]) (ok := fun _ => True) (okp := fun _ => True) ?hr ?hp (fun _ hk => hk) trivial (Below.refl _ _) (Nat.le_refl _) (by simp) ?_; (case hd => rfl); (case hg => rfl); (case hr => first | (go_simp; done) | (go_simp; rfl)); (case hp => exact (Reps.c3 (show Kd.M k29 _ _ _ (⟨0, (⟨8, 1⟩ : S27)⟩ : S29) [.int .i64 0, .int .i64 8, .int .i64 1] from (k29_mkM _ _ _ (⟨0, (⟨8, 1⟩ : S27)⟩ : S29) )) (Reps.c3 (show Kd.M k29 _ _ _ (⟨3, (⟨1, 1⟩ : S27)⟩ : S29) [.int .i64 3, .int .i64 1, .int .i64 1] from (k29_mkM _ _ _ (⟨3, (⟨1, 1⟩ : S27)⟩ : S29) )) (Reps.none _ _)))); intro v245 w24 ho25 hb hg_ hnew_; clear hg_ hnew_; (first | rw [← Ny244.out] at ho25 | (simp only [Int.reduceToNat] at ho25; rw [← Ny244.out] at ho25)); have n0_ := Aside0.mk (Kd.R_elder' (rowN HO239.out) (Kd.R_base ho25) hb); have n1_ := Aside0.mk (Kd.R_elder' (rowN HO243.out) (Kd.R_base ho25) hb); have n2_ := Aside0.mk (Kd.R_lower (Kd.R_new' (Kd.R_new' ho25 (Kd.R_lt (rowN HO239.out))) (Kd.R_lt (rowN HO243.out))) (below_size (belN HB.out))); have n3_ := Aside0.mk (below_step (belN HB.out) hb); clear HO239; clear HO243; clear HB; have HO239 := n0_; have HO243 := n1_; have HO246 := n2_; have HB := n3_; clear n0_ n1_ n2_ n3_; clear hb ho25; obtain ⟨Ao26, co26, eo26⟩ := Kd.R_slice HO246.out; subst eo26) | ((with_reducible refine gate_callee (f := 8) rfl ?_); refine goesL_ (some 20) rfl rfl Try.func8 (by kernel_rfl) rfl #[.slice Ao26 y244.length co26, .bool true, .int .i64 10] rfl argN ?_; (with_reducible refine (rate_Do.calls k _ _ y244 true 10 t247 t248 _ ?side1 ?side2 A2.out).mono ?_); (case side1 => repeat (first | exact (Kd.R_reads' HO246.out).2.2 | (with_reducible refine Kd.C_alloc ?_ _) | (with_reducible refine Kd.C_drewN ?_ _) | (with_reducible refine Kd.C_drew ?_))); (case side2 => exact (Kd.R_reads' HO246.out).2.1); rintro e w27 ⟨v249, rfl, ho0, hb⟩; refine ⟨_, rfl, ?_⟩; have n0_ := Aside0.mk (Kd.R_elder' (rowN HO239.out) (Kd.R_base ho0) hb); have n1_ := Aside0.mk (Kd.R_elder' (rowN HO243.out) (Kd.R_base ho0) hb); have n2_ := Aside0.mk (Kd.R_elder' (rowN HO246.out) (Kd.R_base ho0) hb); have n3_ := Aside0.mk (Kd.R_lower (Kd.R_new' (Kd.R_new' (Kd.R_new' ho0 (Kd.R_lt (rowN HO239.out))) (Kd.R_lt (rowN HO243.out))) (Kd.R_lt (rowN HO246.out))) (below_size (belN HB.out))); have n4_ := Aside0.mk (below_step (belN HB.out) hb); clear HO239; clear HO243; clear HO246; clear HB; have HO239 := n0_; have HO243 := n1_; have HO246 := n2_; have HO250 := n3_; have HB := n4_; clear n0_ n1_ n2_ n3_ n4_; (try clear hb); (try clear hk); (try clear ho0); obtain ⟨Ao28, co28, eo28⟩ := Kd.R_slice HO243.out; subst eo28; have p251 : 0 ≤ (0 : Int) := (by omega); have q251 : 0 < (t240.length : Int) := of_decide_eq_true (by first | (with_reducible assumption) | assumption); obtain ⟨ad251, e251, hx251_0, hx251_1, hx251_2⟩ := at_T29 (Kd.R_reads' HO243.out).2.2 0 p251 q251; cases e251; have qi251 : (0 < t240.length) = True := eq_true (by omega); (try rw [show ((0 : Int)).toNat = 0 from rfl] at hx251_0); (try rw [show 0 * 3 = 0 from rfl] at hx251_0); (try rw [Addr.add_zero'] at hx251_0); (try rw [show ((0 : Int)).toNat = 0 from rfl] at hx251_1); (try rw [show 0 * 3 = 0 from rfl] at hx251_1); (try rw [Addr.add_zero'] at hx251_1); (try rw [show ((0 : Int)).toNat = 0 from rfl] at hx251_2); (try rw [show 0 * 3 = 0 from rfl] at hx251_2); (try rw [Addr.add_zero'] at hx251_2); replace p251 := eq_true p251; replace q251 := eq_true q251; obtain ⟨Ao29, co29, eo29⟩ := Kd.R_slice HO250.out; subst eo29))
       go_ret
       exact ⟨by first | rfl | (simp [errW_none, errW_some] <;> rfl) | (simp [*, errW_none, errW_some] <;> rfl), (belN HB.out)⟩
     ·rw [if_neg c7] at H
      have c7b0 : (t248 == 0) = false := beq_eq_false_iff_ne.mpr c7
      have c7b1 : (t248 != 0) = true := bne_iff_ne.mpr c7
      obtain rfl := Option.some.inj H
      go_enter Try.func9, Try.ntmps9
      go_wp2_with (first | ((with_reducible refine gate_dst (N := 10) rfl ?_); (try (refine gate_guard (by rfl) ?_; dsimp only)); refine Kd.R_lit k29 _ 29 ?hg (N := 10) ?hd (xs := ([(⟨0, (⟨1, 1⟩ : S27)⟩ : S29), (⟨10, (⟨6, 1⟩ : S27)⟩ : S29)] : List (S29))) (inner := [.int .i64 0, .int .i64 1, .int .i64 1, .int .i64 10, .int .i64 6, .int .i64 1]) (ok := fun _ => True) (okp := fun _ => True) ?hr ?hp (fun _ hk => hk) trivial (Below.refl _ _) (Nat.le_refl _) (by simp) ?_; (case hd => rfl); (case hg => rfl); (case hr => first | (go_simp; done) | (go_simp; rfl)); (case hp => exact (Reps.c3 (show Kd.M k29 _ _ _ (⟨0, (⟨1, 1⟩ : S27)⟩ : S29) [.int .i64 0, .int .i64 1, .int .i64 1] from (k29_mkM _ _ _ (⟨0, (⟨1, 1⟩ : S27)⟩ : S29) )) (Reps.c3 (show Kd.M k29 _ _ _ (⟨10, (⟨6, 1⟩ : S27)⟩ : S29) [.int .i64 10, .int .i64 6, .int .i64 1] from (k29_mkM _ _ _ (⟨10, (⟨6, 1⟩ : S27)⟩ : S29) )) (Reps.none _ _)))); intro v238 w30 ho31 hb hg_ hnew_; clear hg_ hnew_; (first | rw [← Ny237.out] at ho31 | (simp only [Int.reduceToNat] at ho31; rw [← Ny237.out] at ho31)); have n0_ := Aside0.mk (Kd.R_lower ho31 (below_size (belN HB.out))); have n1_ := Aside0.mk (below_step (belN HB.out) hb); clear HB; have HO239 := n0_; have HB := n1_; clear n0_ n1_; clear hb ho31; obtain ⟨Ao32, co32, eo32⟩ := Kd.R_slice HO239.out; subst eo32) | ((with_reducible refine gate_callee (f := 8) rfl ?_); refine goesL_ (some 11) rfl rfl Try.func8 (by kernel_rfl) rfl #[.slice Ao32 y237.length co32, .bool false, .int .i64 0] rfl argN ?_; (with_reducible refine (rate_Do.calls k _ _ y237 false 0 t240 t241 _ ?side1 ?side2 A1.out).mono ?_); (case side1 => repeat (first | exact (Kd.R_reads' HO239.out).2.2 | (with_reducible refine Kd.C_alloc ?_ _) | (with_reducible refine Kd.C_drewN ?_ _) | (with_reducible refine Kd.C_drew ?_))); (case side2 => exact (Kd.R_reads' HO239.out).2.1); rintro e w33 ⟨v242, rfl, ho0, hb⟩; refine ⟨_, rfl, ?_⟩; have n0_ := Aside0.mk (Kd.R_elder' (rowN HO239.out) (Kd.R_base ho0) hb); have n1_ := Aside0.mk (Kd.R_lower (Kd.R_new' ho0 (Kd.R_lt (rowN HO239.out))) (below_size (belN HB.out))); have n2_ := Aside0.mk (below_step (belN HB.out) hb); clear HO239; clear HB; have HO239 := n0_; have HO243 := n1_; have HB := n2_; clear n0_ n1_ n2_; (try clear hb); (try clear hk); (try clear ho0)) | ((with_reducible refine gate_dst (N := 19) rfl ?_); (try (refine gate_guard (by rfl) ?_; dsimp only)); refine Kd.R_lit k29 _ 29 ?hg (N := 19) ?hd (xs := ([(⟨0, (⟨8, 1⟩ : S27)⟩ : S29), (⟨3, (⟨1, 1⟩ : S27)⟩ : S29)] : List (S29))) (inner := [.int .i64 0, .int .i64 8, .int .i64 1, .int .i64 3, .int .i64 1, .int .i64 1]) (ok := fun _ => True) (okp := fun _ => True) ?hr ?hp (fun _ hk => hk) trivial (Below.refl _ _) (Nat.le_refl _) (by simp) ?_; (case hd => rfl); (case hg => rfl); (case hr => first | (go_simp; done) | (go_simp; rfl)); (case hp => exact (Reps.c3 (show Kd.M k29 _ _ _ (⟨0, (⟨8, 1⟩ : S27)⟩ : S29) [.int .i64 0, .int .i64 8, .int .i64 1] from (k29_mkM _ _ _ (⟨0, (⟨8, 1⟩ : S27)⟩ : S29) )) (Reps.c3 (show Kd.M k29 _ _ _ (⟨3, (⟨1, 1⟩ : S27)⟩ : S29) [.int .i64 3, .int .i64 1, .int .i64 1] from (k29_mkM _ _ _ (⟨3, (⟨1, 1⟩ : S27)⟩ : S29) )) (Reps.none _ _)))); intro v245 w34 ho35 hb hg_ hnew_; clear hg_ hnew_; (first | rw [← Ny244.out] at ho35 | (simp only [Int.reduceToNat] at ho35; rw [← Ny244.out] at ho35)); have n0_ := Aside0.mk (Kd.R_elder' (rowN HO239.out) (Kd.R_base ho35) hb); have n1_ := Aside0.mk (Kd.R_elder' (rowN HO243.out) (Kd.R_base ho35) hb); have n2_ := Aside0.mk (Kd.R_lower (Kd.R_new' (Kd.R_new' ho35 (Kd.R_lt (rowN HO239.out))) (Kd.R_lt (rowN HO243.out))) (below_size (belN HB.out))); have n3_ := Aside0.mk (below_step (belN HB.out) hb); clear HO239; clear HO243; clear HB; have HO239 := n0_; have HO243 := n1_; have HO246 := n2_; have HB := n3_; clear n0_ n1_ n2_ n3_; clear hb ho35; obtain ⟨Ao36, co36, eo36⟩ := Kd.R_slice HO246.out; subst eo36) | ((with_reducible refine gate_callee (f := 8) rfl ?_); refine goesL_ (some 20) rfl rfl Try.func8 (by kernel_rfl) rfl #[.slice Ao36 y244.length co36, .bool true, .int .i64 10] rfl argN ?_; (with_reducible refine (rate_Do.calls k _ _ y244 true 10 t247 t248 _ ?side1 ?side2 A2.out).mono ?_); (case side1 => repeat (first | exact (Kd.R_reads' HO246.out).2.2 | (with_reducible refine Kd.C_alloc ?_ _) | (with_reducible refine Kd.C_drewN ?_ _) | (with_reducible refine Kd.C_drew ?_))); (case side2 => exact (Kd.R_reads' HO246.out).2.1); rintro e w37 ⟨v249, rfl, ho0, hb⟩; refine ⟨_, rfl, ?_⟩; have n0_ := Aside0.mk (Kd.R_elder' (rowN HO239.out) (Kd.R_base ho0) hb); have n1_ := Aside0.mk (Kd.R_elder' (rowN HO243.out) (Kd.R_base ho0) hb); have n2_ := Aside0.mk (Kd.R_elder' (rowN HO246.out) (Kd.R_base ho0) hb); have n3_ := Aside0.mk (Kd.R_lower (Kd.R_new' (Kd.R_new' (Kd.R_new' ho0 (Kd.R_lt (rowN HO239.out))) (Kd.R_lt (rowN HO243.out))) (Kd.R_lt (rowN HO246.out))) (below_size (belN HB.out))); have n4_ := Aside0.mk (below_step (belN HB.out) hb); clear HO239; clear HO243; clear HO246; clear HB; have HO239 := n0_; have HO243 := n1_; have HO246 := n2_; have HO250 := n3_; have HB := n4_; clear n0_ n1_ n2_ n3_ n4_; (try clear hb); (try clear hk); (try clear ho0); obtain ⟨Ao38, co38, eo38⟩ := Kd.R_slice HO243.out; subst eo38; have p251 : 0 ≤ (0 : Int) := (by omega); have q251 : 0 < (t240.length : Int) := of_decide_eq_true (by first | (with_reducible assumption) | assumption); obtain ⟨ad251, e251, hx251_0, hx251_1, hx251_2⟩ := at_T29 (Kd.R_reads' HO243.out).2.2 0 p251 q251; cases e251; have qi251 : (0 < t240.length) = True := eq_true (by omega); (try rw [show ((0 : Int)).toNat = 0 from rfl] at hx251_0); (try rw [show 0 * 3 = 0 from rfl] at hx251_0); (try rw [Addr.add_zero'] at hx251_0); (try rw [show ((0 : Int)).toNat = 0 from rfl] at hx251_1); (try rw [show 0 * 3 = 0 from rfl] at hx251_1); (try rw [Addr.add_zero'] at hx251_1); (try rw [show ((0 : Int)).toNat = 0 from rfl] at hx251_2); (try rw [show 0 * 3 = 0 from rfl] at hx251_2); (try rw [Addr.add_zero'] at hx251_2); replace p251 := eq_true p251; replace q251 := eq_true q251))
      go_ret
      exact ⟨by first | rfl | (simp [errW_none, errW_some] <;> rfl) | (simp [*, errW_none, errW_some] <;> rfl), (belN HB.out)⟩
    ·rw [if_neg c6] at H
     have c6b0 : (((rd_T29 t240 0).f0) == 10 && ((((rd_T29 t240 0).f1.f0) == 1 && (((rd_T29 t240 0).f1.f1) == 2)))) = false := by simpa using c6
     (try (have c6b1 : decide (((rd_T29 t240 0).f0) = 10 && ((((rd_T29 t240 0).f1.f0) == 1 && (((rd_T29 t240 0).f1.f1) == 2)))) = false := by simpa using c6))
     (try (have c6b2 : (((rd_T29 t240 0).f0) == 10 && ((((rd_T29 t240 0).f1.f0) == 1 && (((rd_T29 t240 0).f1.f1) == 2)))) = false := by simpa using c6))
     (try (have c6b3 : ¬ (((rd_T29 t240 0).f0) = 10 && ((((rd_T29 t240 0).f1.f0) == 1 && (((rd_T29 t240 0).f1.f1) == 2)))) := by simpa using c6))
     clear c6
     obtain rfl := Option.some.inj H
     go_enter Try.func9, Try.ntmps9
     go_wp2_with (first | ((with_reducible refine gate_dst (N := 10) rfl ?_); (try (refine gate_guard (by rfl) ?_; dsimp only)); refine Kd.R_lit k29 _ 29 ?hg (N := 10) ?hd (xs := ([(⟨0, (⟨1, 1⟩ : S27)⟩ : S29), (⟨10, (⟨6, 1⟩ : S27)⟩ : S29)] : List (S29))) (inner := [.int .i64 0, .int .i64 1, .int .i64 1, .int .i64 10, .int .i64 6, .int .i64 1]) (ok := fun _ => True) (okp := fun _ => True) ?hr ?hp (fun _ hk => hk) trivial (Below.refl _ _) (Nat.le_refl _) (by simp) ?_; (case hd => rfl); (case hg => rfl); (case hr => first | (go_simp; done) | (go_simp; rfl)); (case hp => exact (Reps.c3 (show Kd.M k29 _ _ _ (⟨0, (⟨1, 1⟩ : S27)⟩ : S29) [.int .i64 0, .int .i64 1, .int .i64 1] from (k29_mkM _ _ _ (⟨0, (⟨1, 1⟩ : S27)⟩ : S29) )) (Reps.c3 (show Kd.M k29 _ _ _ (⟨10, (⟨6, 1⟩ : S27)⟩ : S29) [.int .i64 10, .int .i64 6, .int .i64 1] from (k29_mkM _ _ _ (⟨10, (⟨6, 1⟩ : S27)⟩ : S29) )) (Reps.none _ _)))); intro v238 w39 ho40 hb hg_ hnew_; clear hg_ hnew_; (first | rw [← Ny237.out] at ho40 | (simp only [Int.reduceToNat] at ho40; rw [← Ny237.out] at ho40)); have n0_ := Aside0.mk (Kd.R_lower ho40 (below_size (belN HB.out))); have n1_ := Aside0.mk (below_step (belN HB.out) hb); clear HB; have HO239 := n0_; have HB := n1_; clear n0_ n1_; clear hb ho40; obtain ⟨Ao41, co41, eo41⟩ := Kd.R_slice HO239.out; subst eo41) | ((with_reducible refine gate_callee (f := 8) rfl ?_); refine goesL_ (some 11) rfl rfl Try.func8 (by kernel_rfl) rfl #[.slice Ao41 y237.length co41, .bool false, .int .i64 0] rfl argN ?_; (with_reducible refine (rate_Do.calls k _ _ y237 false 0 t240 t241 _ ?side1 ?side2 A1.out).mono ?_); (case side1 => repeat (first | exact (Kd.R_reads' HO239.out).2.2 | (with_reducible refine Kd.C_alloc ?_ _) | (with_reducible refine Kd.C_drewN ?_ _) | (with_reducible refine Kd.C_drew ?_))); (case side2 => exact (Kd.R_reads' HO239.out).2.1); rintro e w42 ⟨v242, rfl, ho0, hb⟩; refine ⟨_, rfl, ?_⟩; have n0_ := Aside0.mk (Kd.R_elder' (rowN HO239.out) (Kd.R_base ho0) hb); have n1_ := Aside0.mk (Kd.R_lower (Kd.R_new' ho0 (Kd.R_lt (rowN HO239.out))) (below_size (belN HB.out))); have n2_ := Aside0.mk (below_step (belN HB.out) hb); clear HO239; clear HB; have HO239 := n0_; have HO243 := n1_; have HB := n2_; clear n0_ n1_ n2_; (try clear hb); (try clear hk); (try clear ho0)) | ((with_reducible refine gate_dst (N := 19) rfl ?_); (try (refine gate_guard (by rfl) ?_; dsimp only)); refine Kd.R_lit k29 _ 29 ?hg (N := 19) ?hd (xs := ([(⟨0, (⟨8, 1⟩ : S27)⟩ : S29), (⟨3, (⟨1, 1⟩ : S27)⟩ : S29)] : List (S29))) (inner := [.int .i64 0, .int .i64 8, .int .i64 1, .int .i64 3, .int .i64 1, .int .i64 1]) (ok := fun _ => True) (okp := fun _ => True) ?hr ?hp (fun _ hk => hk) trivial (Below.refl _ _) (Nat.le_refl _) (by simp) ?_; (case hd => rfl); (case hg => rfl); (case hr => first | (go_simp; done) | (go_simp; rfl)); (case hp => exact (Reps.c3 (show Kd.M k29 _ _ _ (⟨0, (⟨8, 1⟩ : S27)⟩ : S29) [.int .i64 0, .int .i64 8, .int .i64 1] from (k29_mkM _ _ _ (⟨0, (⟨8, 1⟩ : S27)⟩ : S29) )) (Reps.c3 (show Kd.M k29 _ _ _ (⟨3, (⟨1, 1⟩ : S27)⟩ : S29) [.int .i64 3, .int .i64 1, .int .i64 1] from (k29_mkM _ _ _ (⟨3, (⟨1, 1⟩ : S27)⟩ : S29) )) (Reps.none _ _)))); intro v245 w43 ho44 hb hg_ hnew_; clear hg_ hnew_; (first | rw [← Ny244.out] at ho44 | (simp only [Int.reduceToNat] at ho44; rw [← Ny244.out] at ho44)); have n0_ := Aside0.mk (Kd.R_elder' (rowN HO239.out) (Kd.R_base ho44) hb); have n1_ := Aside0.mk (Kd.R_elder' (rowN HO243.out) (Kd.R_base ho44) hb); have n2_ := Aside0.mk (Kd.R_lower (Kd.R_new' (Kd.R_new' ho44 (Kd.R_lt (rowN HO239.out))) (Kd.R_lt (rowN HO243.out))) (below_size (belN HB.out))); have n3_ := Aside0.mk (below_step (belN HB.out) hb); clear HO239; clear HO243; clear HB; have HO239 := n0_; have HO243 := n1_; have HO246 := n2_; have HB := n3_; clear n0_ n1_ n2_ n3_; clear hb ho44; obtain ⟨Ao45, co45, eo45⟩ := Kd.R_slice HO246.out; subst eo45) | ((with_reducible refine gate_callee (f := 8) rfl ?_); refine goesL_ (some 20) rfl rfl Try.func8 (by kernel_rfl) rfl #[.slice Ao45 y244.length co45, .bool true, .int .i64 10] rfl argN ?_; (with_reducible refine (rate_Do.calls k _ _ y244 true 10 t247 t248 _ ?side1 ?side2 A2.out).mono ?_); (case side1 => repeat (first | exact (Kd.R_reads' HO246.out).2.2 | (with_reducible refine Kd.C_alloc ?_ _) | (with_reducible refine Kd.C_drewN ?_ _) | (with_reducible refine Kd.C_drew ?_))); (case side2 => exact (Kd.R_reads' HO246.out).2.1); rintro e w46 ⟨v249, rfl, ho0, hb⟩; refine ⟨_, rfl, ?_⟩; have n0_ := Aside0.mk (Kd.R_elder' (rowN HO239.out) (Kd.R_base ho0) hb); have n1_ := Aside0.mk (Kd.R_elder' (rowN HO243.out) (Kd.R_base ho0) hb); have n2_ := Aside0.mk (Kd.R_elder' (rowN HO246.out) (Kd.R_base ho0) hb); have n3_ := Aside0.mk (Kd.R_lower (Kd.R_new' (Kd.R_new' (Kd.R_new' ho0 (Kd.R_lt (rowN HO239.out))) (Kd.R_lt (rowN HO243.out))) (Kd.R_lt (rowN HO246.out))) (below_size (belN HB.out))); have n4_ := Aside0.mk (below_step (belN HB.out) hb); clear HO239; clear HO243; clear HO246; clear HB; have HO239 := n0_; have HO243 := n1_; have HO246 := n2_; have HO250 := n3_; have HB := n4_; clear n0_ n1_ n2_ n3_ n4_; (try clear hb); (try clear hk); (try clear ho0); obtain ⟨Ao47, co47, eo47⟩ := Kd.R_slice HO243.out; subst eo47; have p251 : 0 ≤ (0 : Int) := (by omega); have q251 : 0 < (t240.length : Int) := of_decide_eq_true (by first | (with_reducible assumption) | assumption); obtain ⟨ad251, e251, hx251_0, hx251_1, hx251_2⟩ := at_T29 (Kd.R_reads' HO243.out).2.2 0 p251 q251; cases e251; have qi251 : (0 < t240.length) = True := eq_true (by omega); (try rw [show ((0 : Int)).toNat = 0 from rfl] at hx251_0); (try rw [show 0 * 3 = 0 from rfl] at hx251_0); (try rw [Addr.add_zero'] at hx251_0); (try rw [show ((0 : Int)).toNat = 0 from rfl] at hx251_1); (try rw [show 0 * 3 = 0 from rfl] at hx251_1); (try rw [Addr.add_zero'] at hx251_1); (try rw [show ((0 : Int)).toNat = 0 from rfl] at hx251_2); (try rw [show 0 * 3 = 0 from rfl] at hx251_2); (try rw [Addr.add_zero'] at hx251_2); replace p251 := eq_true p251; replace q251 := eq_true q251))
     go_ret
     exact ⟨by first | rfl | (simp [errW_none, errW_some] <;> rfl) | (simp [*, errW_none, errW_some] <;> rfl), (belN HB.out)⟩
   ·rw [if_neg c5] at H
    exact absurd H (by simp)
  ·rw [if_neg c4] at H
   have c4b0 : ((t240.length : Int) == 1) = false := beq_eq_false_iff_ne.mpr c4
   have c4b1 : ((t240.length : Int) != 1) = true := bne_iff_ne.mpr c4
   obtain rfl := Option.some.inj H
   go_enter Try.func9, Try.ntmps9
   go_wp2_with (first | ((with_reducible refine gate_dst (N := 10) rfl ?_); (try (refine gate_guard (by rfl) ?_; dsimp only)); refine Kd.R_lit k29 _ 29 ?hg (N := 10) ?hd (xs := ([(⟨0, (⟨1, 1⟩ : S27)⟩ : S29), (⟨10, (⟨6, 1⟩ : S27)⟩ : S29)] : List (S29))) (inner := [.int .i64 0, .int .i64 1, .int .i64 1, .int .i64 10, .int .i64 6, .int .i64 1]) (ok := fun _ => True) (okp := fun _ => True) ?hr ?hp (fun _ hk => hk) trivial (Below.refl _ _) (Nat.le_refl _) (by simp) ?_; (case hd => rfl); (case hg => rfl); (case hr => first | (go_simp; done) | (go_simp; rfl)); (case hp => exact (Reps.c3 (show Kd.M k29 _ _ _ (⟨0, (⟨1, 1⟩ : S27)⟩ : S29) [.int .i64 0, .int .i64 1, .int .i64 1] from (k29_mkM _ _ _ (⟨0, (⟨1, 1⟩ : S27)⟩ : S29) )) (Reps.c3 (show Kd.M k29 _ _ _ (⟨10, (⟨6, 1⟩ : S27)⟩ : S29) [.int .i64 10, .int .i64 6, .int .i64 1] from (k29_mkM _ _ _ (⟨10, (⟨6, 1⟩ : S27)⟩ : S29) )) (Reps.none _ _)))); intro v238 w48 ho49 hb hg_ hnew_; clear hg_ hnew_; (first | rw [← Ny237.out] at ho49 | (simp only [Int.reduceToNat] at ho49; rw [← Ny237.out] at ho49)); have n0_ := Aside0.mk (Kd.R_lower ho49 (below_size (belN HB.out))); have n1_ := Aside0.mk (below_step (belN HB.out) hb); clear HB; have HO239 := n0_; have HB := n1_; clear n0_ n1_; clear hb ho49; obtain ⟨Ao50, co50, eo50⟩ := Kd.R_slice HO239.out; subst eo50) | ((with_reducible refine gate_callee (f := 8) rfl ?_); refine goesL_ (some 11) rfl rfl Try.func8 (by kernel_rfl) rfl #[.slice Ao50 y237.length co50, .bool false, .int .i64 0] rfl argN ?_; (with_reducible refine (rate_Do.calls k _ _ y237 false 0 t240 t241 _ ?side1 ?side2 A1.out).mono ?_); (case side1 => repeat (first | exact (Kd.R_reads' HO239.out).2.2 | (with_reducible refine Kd.C_alloc ?_ _) | (with_reducible refine Kd.C_drewN ?_ _) | (with_reducible refine Kd.C_drew ?_))); (case side2 => exact (Kd.R_reads' HO239.out).2.1); rintro e w51 ⟨v242, rfl, ho0, hb⟩; refine ⟨_, rfl, ?_⟩; have n0_ := Aside0.mk (Kd.R_elder' (rowN HO239.out) (Kd.R_base ho0) hb); have n1_ := Aside0.mk (Kd.R_lower (Kd.R_new' ho0 (Kd.R_lt (rowN HO239.out))) (below_size (belN HB.out))); have n2_ := Aside0.mk (below_step (belN HB.out) hb); clear HO239; clear HB; have HO239 := n0_; have HO243 := n1_; have HB := n2_; clear n0_ n1_ n2_; (try clear hb); (try clear hk); (try clear ho0)) | ((with_reducible refine gate_dst (N := 19) rfl ?_); (try (refine gate_guard (by rfl) ?_; dsimp only)); refine Kd.R_lit k29 _ 29 ?hg (N := 19) ?hd (xs := ([(⟨0, (⟨8, 1⟩ : S27)⟩ : S29), (⟨3, (⟨1, 1⟩ : S27)⟩ : S29)] : List (S29))) (inner := [.int .i64 0, .int .i64 8, .int .i64 1, .int .i64 3, .int .i64 1, .int .i64 1]) (ok := fun _ => True) (okp := fun _ => True) ?hr ?hp (fun _ hk => hk) trivial (Below.refl _ _) (Nat.le_refl _) (by simp) ?_; (case hd => rfl); (case hg => rfl); (case hr => first | (go_simp; done) | (go_simp; rfl)); (case hp => exact (Reps.c3 (show Kd.M k29 _ _ _ (⟨0, (⟨8, 1⟩ : S27)⟩ : S29) [.int .i64 0, .int .i64 8, .int .i64 1] from (k29_mkM _ _ _ (⟨0, (⟨8, 1⟩ : S27)⟩ : S29) )) (Reps.c3 (show Kd.M k29 _ _ _ (⟨3, (⟨1, 1⟩ : S27)⟩ : S29) [.int .i64 3, .int .i64 1, .int .i64 1] from (k29_mkM _ _ _ (⟨3, (⟨1, 1⟩ : S27)⟩ : S29) )) (Reps.none _ _)))); intro v245 w52 ho53 hb hg_ hnew_; clear hg_ hnew_; (first | rw [← Ny244.out] at ho53 | (simp only [Int.reduceToNat] at ho53; rw [← Ny244.out] at ho53)); have n0_ := Aside0.mk (Kd.R_elder' (rowN HO239.out) (Kd.R_base ho53) hb); have n1_ := Aside0.mk (Kd.R_elder' (rowN HO243.out) (Kd.R_base ho53) hb); have n2_ := Aside0.mk (Kd.R_lower (Kd.R_new' (Kd.R_new' ho53 (Kd.R_lt (rowN HO239.out))) (Kd.R_lt (rowN HO243.out))) (below_size (belN HB.out))); have n3_ := Aside0.mk (below_step (belN HB.out) hb); clear HO239; clear HO243; clear HB; have HO239 := n0_; have HO243 := n1_; have HO246 := n2_; have HB := n3_; clear n0_ n1_ n2_ n3_; clear hb ho53; obtain ⟨Ao54, co54, eo54⟩ := Kd.R_slice HO246.out; subst eo54) | ((with_reducible refine gate_callee (f := 8) rfl ?_); refine goesL_ (some 20) rfl rfl Try.func8 (by kernel_rfl) rfl #[.slice Ao54 y244.length co54, .bool true, .int .i64 10] rfl argN ?_; (with_reducible refine (rate_Do.calls k _ _ y244 true 10 t247 t248 _ ?side1 ?side2 A2.out).mono ?_); (case side1 => repeat (first | exact (Kd.R_reads' HO246.out).2.2 | (with_reducible refine Kd.C_alloc ?_ _) | (with_reducible refine Kd.C_drewN ?_ _) | (with_reducible refine Kd.C_drew ?_))); (case side2 => exact (Kd.R_reads' HO246.out).2.1); rintro e w55 ⟨v249, rfl, ho0, hb⟩; refine ⟨_, rfl, ?_⟩; have n0_ := Aside0.mk (Kd.R_elder' (rowN HO239.out) (Kd.R_base ho0) hb); have n1_ := Aside0.mk (Kd.R_elder' (rowN HO243.out) (Kd.R_base ho0) hb); have n2_ := Aside0.mk (Kd.R_elder' (rowN HO246.out) (Kd.R_base ho0) hb); have n3_ := Aside0.mk (Kd.R_lower (Kd.R_new' (Kd.R_new' (Kd.R_new' ho0 (Kd.R_lt (rowN HO239.out))) (Kd.R_lt (rowN HO243.out))) (Kd.R_lt (rowN HO246.out))) (below_size (belN HB.out))); have n4_ := Aside0.mk (below_step (belN HB.out) hb); clear HO239; clear HO243; clear HO246; clear HB; have HO239 := n0_; have HO243 := n1_; have HO246 := n2_; have HO250 := n3_; have HB := n4_; clear n0_ n1_ n2_ n3_ n4_; (try clear hb); (try clear hk); (try clear ho0); obtain ⟨Ao56, co56, eo56⟩ := Kd.R_slice HO243.out; subst eo56))
   go_ret
   exact ⟨by first | rfl | (simp [errW_none, errW_some] <;> rfl) | (simp [*, errW_none, errW_some] <;> rfl), (belN HB.out)⟩
 ·rw [if_neg c3] at H
  have c3b0 : (t241 == 0) = false := beq_eq_false_iff_ne.mpr c3
  have c3b1 : (t241 != 0) = true := bne_iff_ne.mpr c3
  obtain rfl := Option.some.inj H
  go_enter Try.func9, Try.ntmps9
  go_wp2_with (first | ((with_reducible refine gate_dst (N := 10) rfl ?_); (try (refine gate_guard (by rfl) ?_; dsimp only)); refine Kd.R_lit k29 _ 29 ?hg (N := 10) ?hd (xs := ([(⟨0, (⟨1, 1⟩ : S27)⟩ : S29), (⟨10, (⟨6, 1⟩ : S27)⟩ : S29)] : List (S29))) (inner := [.int .i64 0, .int .i64 1, .int .i64 1, .int .i64 10, .int .i64 6, .int .i64 1]) (ok := fun _ => True) (okp := fun _ => True) ?hr ?hp (fun _ hk => hk) trivial (Below.refl _ _) (Nat.le_refl _) (by simp) ?_; (case hd => rfl); (case hg => rfl); (case hr => first | (go_simp; done) | (go_simp; rfl)); (case hp => exact (Reps.c3 (show Kd.M k29 _ _ _ (⟨0, (⟨1, 1⟩ : S27)⟩ : S29) [.int .i64 0, .int .i64 1, .int .i64 1] from (k29_mkM _ _ _ (⟨0, (⟨1, 1⟩ : S27)⟩ : S29) )) (Reps.c3 (show Kd.M k29 _ _ _ (⟨10, (⟨6, 1⟩ : S27)⟩ : S29) [.int .i64 10, .int .i64 6, .int .i64 1] from (k29_mkM _ _ _ (⟨10, (⟨6, 1⟩ : S27)⟩ : S29) )) (Reps.none _ _)))); intro v238 w57 ho58 hb hg_ hnew_; clear hg_ hnew_; (first | rw [← Ny237.out] at ho58 | (simp only [Int.reduceToNat] at ho58; rw [← Ny237.out] at ho58)); have n0_ := Aside0.mk (Kd.R_lower ho58 (below_size (belN HB.out))); have n1_ := Aside0.mk (below_step (belN HB.out) hb); clear HB; have HO239 := n0_; have HB := n1_; clear n0_ n1_; clear hb ho58; obtain ⟨Ao59, co59, eo59⟩ := Kd.R_slice HO239.out; subst eo59) | ((with_reducible refine gate_callee (f := 8) rfl ?_); refine goesL_ (some 11) rfl rfl Try.func8 (by kernel_rfl) rfl #[.slice Ao59 y237.length co59, .bool false, .int .i64 0] rfl argN ?_; (with_reducible refine (rate_Do.calls k _ _ y237 false 0 t240 t241 _ ?side1 ?side2 A1.out).mono ?_); (case side1 => repeat (first | exact (Kd.R_reads' HO239.out).2.2 | (with_reducible refine Kd.C_alloc ?_ _) | (with_reducible refine Kd.C_drewN ?_ _) | (with_reducible refine Kd.C_drew ?_))); (case side2 => exact (Kd.R_reads' HO239.out).2.1); rintro e w60 ⟨v242, rfl, ho0, hb⟩; refine ⟨_, rfl, ?_⟩; have n0_ := Aside0.mk (Kd.R_elder' (rowN HO239.out) (Kd.R_base ho0) hb); have n1_ := Aside0.mk (Kd.R_lower (Kd.R_new' ho0 (Kd.R_lt (rowN HO239.out))) (below_size (belN HB.out))); have n2_ := Aside0.mk (below_step (belN HB.out) hb); clear HO239; clear HB; have HO239 := n0_; have HO243 := n1_; have HB := n2_; clear n0_ n1_ n2_; (try clear hb); (try clear hk); (try clear ho0)) | ((with_reducible refine gate_dst (N := 19) rfl ?_); (try (refine gate_guard (by rfl) ?_; dsimp only)); refine Kd.R_lit k29 _ 29 ?hg (N := 19) ?hd (xs := ([(⟨0, (⟨8, 1⟩ : S27)⟩ : S29), (⟨3, (⟨1, 1⟩ : S27)⟩ : S29)] : List (S29))) (inner := [.int .i64 0, .int .i64 8, .int .i64 1, .int .i64 3, .int .i64 1, .int .i64 1]) (ok := fun _ => True) (okp := fun _ => True) ?hr ?hp (fun _ hk => hk) trivial (Below.refl _ _) (Nat.le_refl _) (by simp) ?_; (case hd => rfl); (case hg => rfl); (case hr => first | (go_simp; done) | (go_simp; rfl)); (case hp => exact (Reps.c3 (show Kd.M k29 _ _ _ (⟨0, (⟨8, 1⟩ : S27)⟩ : S29) [.int .i64 0, .int .i64 8, .int .i64 1] from (k29_mkM _ _ _ (⟨0, (⟨8, 1⟩ : S27)⟩ : S29) )) (Reps.c3 (show Kd.M k29 _ _ _ (⟨3, (⟨1, 1⟩ : S27)⟩ : S29) [.int .i64 3, .int .i64 1, .int .i64 1] from (k29_mkM _ _ _ (⟨3, (⟨1, 1⟩ : S27)⟩ : S29) )) (Reps.none _ _)))); intro v245 w61 ho62 hb hg_ hnew_; clear hg_ hnew_; (first | rw [← Ny244.out] at ho62 | (simp only [Int.reduceToNat] at ho62; rw [← Ny244.out] at ho62)); have n0_ := Aside0.mk (Kd.R_elder' (rowN HO239.out) (Kd.R_base ho62) hb); have n1_ := Aside0.mk (Kd.R_elder' (rowN HO243.out) (Kd.R_base ho62) hb); have n2_ := Aside0.mk (Kd.R_lower (Kd.R_new' (Kd.R_new' ho62 (Kd.R_lt (rowN HO239.out))) (Kd.R_lt (rowN HO243.out))) (below_size (belN HB.out))); have n3_ := Aside0.mk (below_step (belN HB.out) hb); clear HO239; clear HO243; clear HB; have HO239 := n0_; have HO243 := n1_; have HO246 := n2_; have HB := n3_; clear n0_ n1_ n2_ n3_; clear hb ho62; obtain ⟨Ao63, co63, eo63⟩ := Kd.R_slice HO246.out; subst eo63) | ((with_reducible refine gate_callee (f := 8) rfl ?_); refine goesL_ (some 20) rfl rfl Try.func8 (by kernel_rfl) rfl #[.slice Ao63 y244.length co63, .bool true, .int .i64 10] rfl argN ?_; (with_reducible refine (rate_Do.calls k _ _ y244 true 10 t247 t248 _ ?side1 ?side2 A2.out).mono ?_); (case side1 => repeat (first | exact (Kd.R_reads' HO246.out).2.2 | (with_reducible refine Kd.C_alloc ?_ _) | (with_reducible refine Kd.C_drewN ?_ _) | (with_reducible refine Kd.C_drew ?_))); (case side2 => exact (Kd.R_reads' HO246.out).2.1); rintro e w64 ⟨v249, rfl, ho0, hb⟩; refine ⟨_, rfl, ?_⟩; have n0_ := Aside0.mk (Kd.R_elder' (rowN HO239.out) (Kd.R_base ho0) hb); have n1_ := Aside0.mk (Kd.R_elder' (rowN HO243.out) (Kd.R_base ho0) hb); have n2_ := Aside0.mk (Kd.R_elder' (rowN HO246.out) (Kd.R_base ho0) hb); have n3_ := Aside0.mk (Kd.R_lower (Kd.R_new' (Kd.R_new' (Kd.R_new' ho0 (Kd.R_lt (rowN HO239.out))) (Kd.R_lt (rowN HO243.out))) (Kd.R_lt (rowN HO246.out))) (below_size (belN HB.out))); have n4_ := Aside0.mk (below_step (belN HB.out) hb); clear HO239; clear HO243; clear HO246; clear HB; have HO239 := n0_; have HO243 := n1_; have HO246 := n2_; have HO250 := n3_; have HB := n4_; clear n0_ n1_ n2_ n3_ n4_; (try clear hb); (try clear hk); (try clear ho0)))
  go_ret
  exact ⟨by first | rfl | (simp [errW_none, errW_some] <;> rfl) | (simp [*, errW_none, errW_some] <;> rfl), (belN HB.out)⟩

/-! ### marigraphlaw24_RateCounters: function 3 -/
mutual
def marigraphlaw24_RateCounters.l0 : Nat → Int → List (S29) → Int → Option (Bool)
 | 0, _, _, _ => none
 | k + 1, x7, x8, x9 => if x9 < (x8.length : Int) then (if 0 ≤ x9 then (if ((rd_T29 x8 x9).f1.f0) < 0 then (marigraphlaw24_RateCounters.l0 k x7 (x8.set (x9 : Int).toNat (⟨(rd_T29 x8 x9).f0, (⟨wrap64 (-((rd_T29 x8 x9).f1.f0)), (rd_T29 x8 x9).f1.f1⟩ : S27)⟩ : S29)) (wrap64 (x9 + 1))) else (marigraphlaw24_RateCounters.l0 k x7 x8 (wrap64 (x9 + 1)))) else (none)) else ((rate_Do.f k x8 true x7).bind fun bt260 => ((rate_Do.f k x8 false 0).bind fun bt264 => (if bt260.2 = 0 then (if bt264.2 = 0 then (marigraphlaw24_RateCounters.j1 k bt260.1 bt264.1 ((bt260.1.length : Int) != (bt264.1.length : Int))) else (marigraphlaw24_RateCounters.j1 k bt260.1 bt264.1 true)) else (marigraphlaw24_RateCounters.j1 k bt260.1 bt264.1 true))))
def marigraphlaw24_RateCounters.j1 : Nat → List (S29) → List (S29) → Bool → Option (Bool)
 | 0, _, _, _ => none
 | k + 1, x10, x12, x68 => if x68 = true then (some false) else (marigraphlaw24_RateCounters.l1 k x10 x12 0)
def marigraphlaw24_RateCounters.l1 : Nat → List (S29) → List (S29) → Int → Option (Bool)
 | 0, _, _, _ => none
 | k + 1, x10, x12, x14 => if x14 < (x10.length : Int) then (if 0 ≤ x14 then (if ((rd_T29 x10 x14).f1.f0) < 0 then (some false) else (if x14 < (x12.length : Int) then (if ((rd_T29 x10 x14).f0) = ((rd_T29 x12 x14).f0) then (if ((rd_T29 x12 x14).f1.f0) ≥ 0 then (if (!(((rd_T29 x10 x14).f1.f0) == ((rd_T29 x12 x14).f1.f0)) || (!(((rd_T29 x10 x14).f1.f1) == ((rd_T29 x12 x14).f1.f1)))) = true then (some false) else (marigraphlaw24_RateCounters.l1 k x10 x12 (wrap64 (x14 + 1)))) else (marigraphlaw24_RateCounters.l1 k x10 x12 (wrap64 (x14 + 1)))) else (some false)) else (none))) else (none)) else ((marigraphlaw24_known.f k).bind fun t274 => (some t274))
end
def marigraphlaw24_RateCounters.f (k : Nat) (l0 : List Int) (l1 : List Int) (a2 : Int) : Option (Bool) := (marigraphbook_Within.f k a2 60 1000).bind fun t253 => ((marigraphkeep_Samples.f k l0 l1 20).bind fun t254 => (marigraphlaw24_RateCounters.l0 k t253 t254 0))
theorem marigraphlaw24_RateCounters.mono_l : ∀ k, (∀ y0 y1 y2, LeO (marigraphlaw24_RateCounters.l0 k y0 y1 y2) (marigraphlaw24_RateCounters.l0 (k + 1) y0 y1 y2)) ∧ (∀ y0 y1 y2, LeO (marigraphlaw24_RateCounters.j1 k y0 y1 y2) (marigraphlaw24_RateCounters.j1 (k + 1) y0 y1 y2)) ∧ (∀ y0 y1 y2, LeO (marigraphlaw24_RateCounters.l1 k y0 y1 y2) (marigraphlaw24_RateCounters.l1 (k + 1) y0 y1 y2))
 | 0 => ⟨fun _ _ _ r h => by simp [marigraphlaw24_RateCounters.l0] at h, fun _ _ _ r h => by simp [marigraphlaw24_RateCounters.j1] at h, fun _ _ _ r h => by simp [marigraphlaw24_RateCounters.l1] at h⟩
 | k + 1 => by
  obtain ⟨ih0, ih1, ih2⟩ := marigraphlaw24_RateCounters.mono_l k
  refine ⟨?_, ?_, ?_⟩
  ·intro y0 y1 y2
   unfold marigraphlaw24_RateCounters.l0
   repeat' first
   | (with_reducible exact ih0 _ _ _)
   | (with_reducible exact ih1 _ _ _)
   | (with_reducible exact ih2 _ _ _)
   | (with_reducible exact marigraphbook_Within.mono _ _ _ _)
   | (with_reducible exact marigraphkeep_Samples.mono _ _ _ _)
   | (with_reducible exact marigraphlaw24_known.mono _)
   | (with_reducible exact rate_Do.mono _ _ _ _)
   | (with_reducible exact LeO.refl _)
   | (with_reducible exact LeO.none _)
   | (with_reducible refine LeO.ite ?_ ?_)
   | (with_reducible refine LeO.bind ?_ (fun _ => ?_))
   | exact ih0 _ _ _
   | exact ih1 _ _ _
   | exact ih2 _ _ _
   | exact marigraphbook_Within.mono _ _ _ _
   | exact marigraphkeep_Samples.mono _ _ _ _
   | exact marigraphlaw24_known.mono _
   | exact rate_Do.mono _ _ _ _
   | exact LeO.none _
   | refine LeO.ite ?_ ?_
   | refine LeO.bind ?_ (fun _ => ?_)
  ·intro y0 y1 y2
   unfold marigraphlaw24_RateCounters.j1
   repeat' first
   | (with_reducible exact ih0 _ _ _)
   | (with_reducible exact ih1 _ _ _)
   | (with_reducible exact ih2 _ _ _)
   | (with_reducible exact marigraphbook_Within.mono _ _ _ _)
   | (with_reducible exact marigraphkeep_Samples.mono _ _ _ _)
   | (with_reducible exact marigraphlaw24_known.mono _)
   | (with_reducible exact rate_Do.mono _ _ _ _)
   | (with_reducible exact LeO.refl _)
   | (with_reducible exact LeO.none _)
   | (with_reducible refine LeO.ite ?_ ?_)
   | (with_reducible refine LeO.bind ?_ (fun _ => ?_))
   | exact ih0 _ _ _
   | exact ih1 _ _ _
   | exact ih2 _ _ _
   | exact marigraphbook_Within.mono _ _ _ _
   | exact marigraphkeep_Samples.mono _ _ _ _
   | exact marigraphlaw24_known.mono _
   | exact rate_Do.mono _ _ _ _
   | exact LeO.none _
   | refine LeO.ite ?_ ?_
   | refine LeO.bind ?_ (fun _ => ?_)
  ·intro y0 y1 y2
   unfold marigraphlaw24_RateCounters.l1
   repeat' first
   | (with_reducible exact ih0 _ _ _)
   | (with_reducible exact ih1 _ _ _)
   | (with_reducible exact ih2 _ _ _)
   | (with_reducible exact marigraphbook_Within.mono _ _ _ _)
   | (with_reducible exact marigraphkeep_Samples.mono _ _ _ _)
   | (with_reducible exact marigraphlaw24_known.mono _)
   | (with_reducible exact rate_Do.mono _ _ _ _)
   | (with_reducible exact LeO.refl _)
   | (with_reducible exact LeO.none _)
   | (with_reducible refine LeO.ite ?_ ?_)
   | (with_reducible refine LeO.bind ?_ (fun _ => ?_))
   | exact ih0 _ _ _
   | exact ih1 _ _ _
   | exact ih2 _ _ _
   | exact marigraphbook_Within.mono _ _ _ _
   | exact marigraphkeep_Samples.mono _ _ _ _
   | exact marigraphlaw24_known.mono _
   | exact rate_Do.mono _ _ _ _
   | exact LeO.none _
   | refine LeO.ite ?_ ?_
   | refine LeO.bind ?_ (fun _ => ?_)
theorem marigraphlaw24_RateCounters.mono : ∀ a0 a1 a2 k, LeO (marigraphlaw24_RateCounters.f k a0 a1 a2) (marigraphlaw24_RateCounters.f (k + 1) a0 a1 a2) := by
 intro a0 a1 a2 k
 obtain ⟨ih0, ih1, ih2⟩ := marigraphlaw24_RateCounters.mono_l k
 unfold marigraphlaw24_RateCounters.f
 repeat' first
   | (with_reducible exact ih0 _ _ _)
   | (with_reducible exact ih1 _ _ _)
   | (with_reducible exact ih2 _ _ _)
   | (with_reducible exact marigraphbook_Within.mono _ _ _ _)
   | (with_reducible exact marigraphkeep_Samples.mono _ _ _ _)
   | (with_reducible exact marigraphlaw24_known.mono _)
   | (with_reducible exact rate_Do.mono _ _ _ _)
   | (with_reducible exact LeO.refl _)
   | (with_reducible exact LeO.none _)
   | (with_reducible refine LeO.ite ?_ ?_)
   | (with_reducible refine LeO.bind ?_ (fun _ => ?_))
   | exact ih0 _ _ _
   | exact ih1 _ _ _
   | exact ih2 _ _ _
   | exact marigraphbook_Within.mono _ _ _ _
   | exact marigraphkeep_Samples.mono _ _ _ _
   | exact marigraphlaw24_known.mono _
   | exact rate_Do.mono _ _ _ _
   | exact LeO.none _
   | refine LeO.ite ?_ ?_
   | refine LeO.bind ?_ (fun _ => ?_)
set_option maxHeartbeats 8000000 in
set_option maxRecDepth 100000 in
theorem marigraphlaw24_RateCounters.calls (k : Nat) (A0 : Option Addr) (c0 : Nat) (l0 : List Int) (A1 : Option Addr) (c1 : Nat) (l1 : List Int) (a2 : Int) (r : Bool) (w : World) (hr0 : Kd.C (Kd.int .i64) w A0 l0.length l0) (hc0 : l0.length ≤ c0) (hr1 : Kd.C (Kd.int .i64) w A1 l1.length l1) (hc1 : l1.length ≤ c1) (h : marigraphlaw24_RateCounters.f k l0 l1 a2 = some r) :
  Calls Try.prog 3 #[.slice A0 l0.length c0, .slice A1 l1.length c1, .int .i64 a2] w fun e w' => e = .returned (.bool r) ∧ Below w.heap.size w w' := by
 have hu27 := Try.underlying27
 have HR0 := Aside0.mk hr0
 have HC0 := Aside0.mk hc0
 clear hr0 hc0
 have HR1 := Aside0.mk hr1
 have HC1 := Aside0.mk hc1
 clear hr1 hc1
 have HB := Aside0.mk (Below.refl w.heap.size w)
 have H : ((marigraphbook_Within.f k a2 60 1000).bind fun t253 => ((marigraphkeep_Samples.f k l0 l1 20).bind fun t254 => (marigraphlaw24_RateCounters.l0 k t253 t254 0))) = some r := h
 clear h
 replace H := Option.bind_eq_some_iff.mp H
 obtain ⟨t253, A40, H⟩ := H
 replace H : ((marigraphkeep_Samples.f k l0 l1 20).bind fun t254 => (marigraphlaw24_RateCounters.l0 k t253 t254 0)) = some r := H
 have A4 := Aside0.mk A40
 clear A40
 replace H := Option.bind_eq_some_iff.mp H
 obtain ⟨t254, A50, H⟩ := H
 replace H : (marigraphlaw24_RateCounters.l0 k t253 t254 0) = some r := H
 have A5 := Aside0.mk A50
 clear A50
 have H' := Aside0.mk H
 clear H
 go_enter Try.func3, Try.ntmps3
 go_wp2_with (first | (go_at_call 6; (with_reducible refine (marigraphbook_Within.calls k a2 60 1000 t253 _ A4.out).mono ?_); rintro e w' ⟨rfl, ⟨nd, rfl⟩⟩; (try first | exact ⟨rfl, _, World.drewN_drewN _ _ _⟩ | exact ⟨rfl, _, Eq.trans (World.drewN_drewN _ _ _) (congrArg (World.drewN _) (Nat.add_assoc _ _ _))⟩)) | (go_at_call 7; (with_reducible refine (marigraphkeep_Samples.calls k _ _ l0 _ _ l1 20 t254 _ ?side1 ?side2 ?side3 ?side4 A5.out).mono ?_); (case side1 => repeat (first | exact HR0.out | (with_reducible refine Kd.C_alloc ?_ _) | (with_reducible refine Kd.C_drewN ?_ _) | (with_reducible refine Kd.C_drew ?_))); (case side2 => exact HC0.out); (case side3 => repeat (first | exact HR1.out | (with_reducible refine Kd.C_alloc ?_ _) | (with_reducible refine Kd.C_drewN ?_ _) | (with_reducible refine Kd.C_drew ?_))); (case side4 => exact HC1.out); rintro e w6 ⟨v255, rfl, ho0, hb⟩; have n0_ := Aside0.mk (Kd.R_lower ho0 (below_size (belN HB.out))); have n1_ := Aside0.mk (below_step (belN HB.out) hb); clear HB; have HO256 := n0_; have HB := n1_; clear n0_ n1_; (try clear hb); (try clear hk); (try clear ho0)))
 repeat (go_quiet (first | (go_at_call 6; (with_reducible refine (marigraphbook_Within.calls k a2 60 1000 t253 _ A4.out).mono ?_); rintro e w' ⟨rfl, ⟨nd, rfl⟩⟩; (try first | exact ⟨rfl, _, World.drewN_drewN _ _ _⟩ | exact ⟨rfl, _, Eq.trans (World.drewN_drewN _ _ _) (congrArg (World.drewN _) (Nat.add_assoc _ _ _))⟩)) | (go_at_call 7; (with_reducible refine (marigraphkeep_Samples.calls k _ _ l0 _ _ l1 20 t254 _ ?side1 ?side2 ?side3 ?side4 A5.out).mono ?_); (case side1 => repeat (first | exact HR0.out | (with_reducible refine Kd.C_alloc ?_ _) | (with_reducible refine Kd.C_drewN ?_ _) | (with_reducible refine Kd.C_drew ?_))); (case side2 => exact HC0.out); (case side3 => repeat (first | exact HR1.out | (with_reducible refine Kd.C_alloc ?_ _) | (with_reducible refine Kd.C_drewN ?_ _) | (with_reducible refine Kd.C_drew ?_))); (case side4 => exact HC1.out); rintro e w6 ⟨v255, rfl, ho0, hb⟩; have n0_ := Aside0.mk (Kd.R_lower ho0 (below_size (belN HB.out))); have n1_ := Aside0.mk (below_step (belN HB.out) hb); clear HB; have HO256 := n0_; have HB := n1_; clear n0_ n1_; (try clear hb); (try clear hk); (try clear ho0))); try go_wp2_with (first | (go_at_call 6; (with_reducible refine (marigraphbook_Within.calls k a2 60 1000 t253 _ A4.out).mono ?_); rintro e w' ⟨rfl, ⟨nd, rfl⟩⟩; (try first | exact ⟨rfl, _, World.drewN_drewN _ _ _⟩ | exact ⟨rfl, _, Eq.trans (World.drewN_drewN _ _ _) (congrArg (World.drewN _) (Nat.add_assoc _ _ _))⟩)) | (go_at_call 7; (with_reducible refine (marigraphkeep_Samples.calls k _ _ l0 _ _ l1 20 t254 _ ?side1 ?side2 ?side3 ?side4 A5.out).mono ?_); (case side1 => repeat (first | exact HR0.out | (with_reducible refine Kd.C_alloc ?_ _) | (with_reducible refine Kd.C_drewN ?_ _) | (with_reducible refine Kd.C_drew ?_))); (case side2 => exact HC0.out); (case side3 => repeat (first | exact HR1.out | (with_reducible refine Kd.C_alloc ?_ _) | (with_reducible refine Kd.C_drewN ?_ _) | (with_reducible refine Kd.C_drew ?_))); (case side4 => exact HC1.out); rintro e w6 ⟨v255, rfl, ho0, hb⟩; have n0_ := Aside0.mk (Kd.R_lower ho0 (below_size (belN HB.out))); have n1_ := Aside0.mk (below_step (belN HB.out) hb); clear HB; have HO256 := n0_; have HB := n1_; clear n0_ n1_; (try clear hb); (try clear hk); (try clear ho0))))
 go_loopg [9] k (fun kq v9 w' => ∃ (x8_1 : List (S29)) (x9_1 : Int), v9 = .int .i64 x9_1 ∧ Aside0 (marigraphlaw24_RateCounters.l0 kq t253 x8_1 x9_1 = some r) ∧ Aside0 (kq ≤ k) ∧ Aside0 (Kd.R k29 29 w' w.heap.size (fun _ => True) v255 x8_1) ∧ Aside0 (Below w.heap.size w w'))
 case atStart => exact ⟨(t254), (0), (by first | rfl | (simp; done) | (simp [*]; done)), H', ⟨Nat.le_refl _⟩, ⟨(rowN HO256.out)⟩, ⟨(belN HB.out)⟩⟩
 case round =>
  clear H'
  try clear c1
  try clear p2
  try clear c3
  obtain ⟨x8_1, x9_1, rfl, HA, HK1, HO_8, HB⟩ := hrel
  cases gk with
  | zero => exact absurd HA.out (by simp [marigraphlaw24_RateCounters.l0])
  | succ k1 =>
   have H := HA.out
   clear HA
   simp only [marigraphlaw24_RateCounters.l0] at H
   by_cases c7 : x9_1 < (x8_1.length : Int)
   ·rw [if_pos c7] at H
    have c7b0 : decide (x9_1 < (x8_1.length : Int)) = true := decide_eq_true c7
    clear c7
    by_cases c8 : 0 ≤ x9_1
    ·rw [if_pos c8] at H
     have c8b0 : decide (0 ≤ x9_1) = true := decide_eq_true c8
     clear c8
     by_cases c9 : ((rd_T29 x8_1 x9_1).f1.f0) < 0
     ·rw [if_pos c9] at H
      have c9b0 : decide (((rd_T29 x8_1 x9_1).f1.f0) < 0) = true := decide_eq_true c9
      clear c9
      obtain ⟨y259, hy259⟩ : ∃ y_ : List (S29), y_ = (x8_1.set (x9_1 : Int).toNat (⟨(rd_T29 x8_1 x9_1).f0, (⟨wrap64 (-((rd_T29 x8_1 x9_1).f1.f0)), (rd_T29 x8_1 x9_1).f1.f1⟩ : S27)⟩ : S29)) := ⟨_, rfl⟩
      replace H : (marigraphlaw24_RateCounters.l0 k1 t253 y259 (wrap64 (x9_1 + 1))) = some r := by first | (rw [hy259]; with_reducible exact H) | (have H2_ := (Option.bind_some _ _).symm.trans H; rw [hy259]; with_reducible exact H2_) | (have H2_ := (Option.bind_some _ _).symm.trans H; with_reducible exact H2_) | with_reducible exact H | (rw [hy259]; exact H) | exact H
      have Ny259 := Aside0.mk hy259
      clear hy259
      have H' := Aside0.mk H
      clear H
      obtain ⟨Ao11, co11, eo11⟩ := Kd.R_slice HO_8.out
      subst eo11
      have p257 : 0 ≤ (x9_1 : Int) := of_decide_eq_true (by first | (with_reducible assumption) | assumption)
      have q257 : x9_1 < (x8_1.length : Int) := of_decide_eq_true (by first | (with_reducible assumption) | assumption)
      obtain ⟨ad257, e257, hx257_0, hx257_1, hx257_2⟩ := at_T29 (Kd.R_reads' HO_8.out).2.2 x9_1 p257 q257
      cases e257
      replace p257 := eq_true p257
      replace q257 := eq_true q257
      have p258 : 0 ≤ (x9_1 : Int) := of_decide_eq_true (by first | (with_reducible assumption) | assumption)
      have q258 : x9_1 < (x8_1.length : Int) := of_decide_eq_true (by first | (with_reducible assumption) | assumption)
      obtain ⟨ad258, e258, hx258_0, hx258_1, hx258_2⟩ := at_T29 (Kd.R_reads' HO_8.out).2.2 x9_1 p258 q258
      obtain rfl : ad257 = ad258 := (by injection e258)
      replace p258 := eq_true p258
      replace q258 := eq_true q258
      have p10 : 0 ≤ (x9_1 : Int) := of_decide_eq_true (by first | (with_reducible assumption) | assumption)
      have q10 : (x9_1 : Int) < ((x8_1.length : Int) : Int) := of_decide_eq_true (by first | (with_reducible assumption) | assumption)
      obtain ⟨go10, co10, eo10, gb10, gl10, cl10, HG10⟩ := Kd.R_form HO_8.out (by omega)
      (first | cases eo10 | (injection eo10 with ea_ en_ ec_; (first | subst ea_ | (injection ea_ with ea_; subst ea_)); subst ec_; clear en_))
      have GB10 := Aside0.mk gb10
      have GG10 := Aside0.mk HG10
      clear gb10 gl10 HG10
      (first | simp only [add_plain] at hx257_0 | skip)
      (first | simp only [add_plain] at hx257_1 | skip)
      (first | simp only [add_plain] at hx257_2 | skip)
      (first | simp only [add_plain] at hx258_0 | skip)
      (first | simp only [add_plain] at hx258_1 | skip)
      (first | simp only [add_plain] at hx258_2 | skip)
      obtain ⟨ce10, hcl10, hM10, hcc10, hfr10⟩ := Kd.R_elem HO_8.out z29 (x9_1 : Int) p10 q10
      obtain rfl := k29_openM hM10
      have hx10_0 : wr.cell? ⟨go10, (x9_1 : Int).toNat * 3, none⟩ = some (.int .i64 ((rd_T29 x8_1 x9_1).f0)) := hcc10 0 _ rfl
      have hx10_1 : wr.cell? ⟨go10, (x9_1 : Int).toNat * 3 + 1, none⟩ = some (.int .i64 ((rd_T29 x8_1 x9_1).f1.f0)) := hcc10 1 _ rfl
      have hx10_2 : wr.cell? ⟨go10, (x9_1 : Int).toNat * 3 + 2, none⟩ = some (.int .i64 ((rd_T29 x8_1 x9_1).f1.f1)) := hcc10 2 _ rfl
      have hf10_0 : wr.frozen? ⟨go10, (x9_1 : Int).toNat * 3, none⟩ = false := hfr10 0
      have hf10_1 : wr.frozen? ⟨go10, (x9_1 : Int).toNat * 3 + 1, none⟩ = false := hfr10 1
      have hf10_2 : wr.frozen? ⟨go10, (x9_1 : Int).toNat * 3 + 2, none⟩ = false := hfr10 2
      clear hcl10 hcc10 hfr10 hM10
      replace p10 := eq_true p10
      replace q10 := eq_true q10
      have HX12 := Aside0.mk (show Kd.R k29 29 wr w.heap.size (fun _ => True) (.slice (some ⟨go10, 0, none⟩) x8_1.length co11) x8_1 from (rowN HO_8.out))
      obtain ⟨ce12, hcl12, hM12, hcc12, hfr12⟩ := Kd.R_elem HX12.out z29 (x9_1 : Int) (of_decide_eq_true (by first | (with_reducible assumption) | assumption)) (by have h_ : (x9_1 : Int) < ((x8_1.length : Int) : Int) := of_decide_eq_true (by first | (with_reducible assumption) | assumption); first | exact h_ | (have e_ := (Kd.R_reads' HO_8.out).1; omega) | simpa using h_)
      obtain rfl := k29_openM hM12
      have HP12 := Kd.R_seg HX12.out (x9_1 : Int) (of_decide_eq_true (by first | (with_reducible assumption) | assumption)) (by have h_ : (x9_1 : Int) < ((x8_1.length : Int) : Int) := of_decide_eq_true (by first | (with_reducible assumption) | assumption); first | exact h_ | (have e_ := (Kd.R_reads' HO_8.out).1; omega) | simpa using h_) (seg := [.int .i64 (wrap64 (-((rd_T29 x8_1 x9_1).f1.f0)))]) (j := 1) hcl12 hcc12 (show 2 ≤ 3 from by decide) (x' := (⟨(rd_T29 x8_1 x9_1).f0, (⟨wrap64 (-((rd_T29 x8_1 x9_1).f1.f0)), (rd_T29 x8_1 x9_1).f1.f1⟩ : S27)⟩ : S29)) (k29_mkM _ _ _ (⟨(rd_T29 x8_1 x9_1).f0, (⟨wrap64 (-((rd_T29 x8_1 x9_1).f1.f0)), (rd_T29 x8_1 x9_1).f1.f1⟩ : S27)⟩ : S29) ) (fun _ hk => hk)
      have hx12_1 := hcc12 1 _ rfl
      (try simp only [show (k29).sz = 3 from rfl, Nat.mul_one, Nat.add_zero] at hx12_1)
      have hf12_1 := hfr12 1
      (try simp only [show (k29).sz = 3 from rfl, Nat.mul_one, Nat.add_zero] at hf12_1)
      clear hcl12 hcc12 hfr12 hM12
      go_wp2_with (first | ((with_reducible refine gate_store (t := 2) (p := 44) rfl ?_); (try (rw [drewN_self wr]; generalize hq_ : World.drewN wr _ = wr; have n0_ := Aside0.mk (Kd.R_at hq_ HO_8.out); have n1_ := Aside0.mk (below_at hq_ HB.out); clear hq_ HO_8 HB; have HO_8 := n0_; have HB := n1_; clear n0_ n1_; (try (have HX12 := Aside0.mk (show Kd.R k29 29 wr w.heap.size (fun _ => True) (.slice (some ⟨go10, 0, none⟩) x8_1.length co11) x8_1 from (rowN HO_8.out)))); (try (obtain ⟨ce12, hcl12, hM12, hcc12, hfr12⟩ := Kd.R_elem HX12.out z29 (x9_1 : Int) (of_decide_eq_true (by first | (with_reducible assumption) | assumption)) (by have h_ : (x9_1 : Int) < ((x8_1.length : Int) : Int) := of_decide_eq_true (by first | (with_reducible assumption) | assumption); first | exact h_ | (have e_ := (Kd.R_reads' HO_8.out).1; omega) | simpa using h_))); (try (obtain rfl := k29_openM hM12)); (try (have HP12 := Kd.R_seg HX12.out (x9_1 : Int) (of_decide_eq_true (by first | (with_reducible assumption) | assumption)) (by have h_ : (x9_1 : Int) < ((x8_1.length : Int) : Int) := of_decide_eq_true (by first | (with_reducible assumption) | assumption); first | exact h_ | (have e_ := (Kd.R_reads' HO_8.out).1; omega) | simpa using h_) (seg := [.int .i64 (wrap64 (-((rd_T29 x8_1 x9_1).f1.f0)))]) (j := 1) hcl12 hcc12 (show 2 ≤ 3 from by decide) (x' := (⟨(rd_T29 x8_1 x9_1).f0, (⟨wrap64 (-((rd_T29 x8_1 x9_1).f1.f0)), (rd_T29 x8_1 x9_1).f1.f1⟩ : S27)⟩ : S29)) (k29_mkM _ _ _ (⟨(rd_T29 x8_1 x9_1).f0, (⟨wrap64 (-((rd_T29 x8_1 x9_1).f1.f0)), (rd_T29 x8_1 x9_1).f1.f1⟩ : S27)⟩ : S29) ) (fun _ hk => hk))); (try (have hx12_1 := hcc12 1 _ rfl)); (try (try simp only [show (k29).sz = 3 from rfl, Nat.mul_one, Nat.add_zero] at hx12_1)); (try (have hf12_1 := hfr12 1)); (try (try simp only [show (k29).sz = 3 from rfl, Nat.mul_one, Nat.add_zero] at hf12_1)); (try (clear hcl12 hcc12 hfr12 hM12)))); refine store_event (t := 2) (p := 44) (v := ?vo_w13) (w1 := (wr.setCell ⟨go10, (x9_1 : Int).toNat * 3 + 1, none⟩ (.int .i64 (wrap64 (-((rd_T29 x8_1 x9_1).f1.f0)))))) ?hg ?ho ?hn ?hr ?_; (case ho => rfl); (case hg => rfl); (case hn => rfl); (case hr => first | (go_simp; done) | (go_simp; rfl)); intro w13 hw; have hg : wr.grownBy w13 (some go10) := (by rw [hw]; exact HP12.2); have hp_ : Kd.R k29 29 w13 w.heap.size (fun _ => True) (.slice (some ⟨go10, 0, none⟩) x8_1.length co11) y259 := (by rw [hw, Ny259.out]; exact HP12.1); clear HP12; have n0_ := Aside0.mk (hp_); have n1_ := Aside0.mk ((by rw [hw]; exact below_set (HB.out) GB10.out : Below w.heap.size w w13)); clear HO_8; clear HB; have HO_8 := n0_; have HB := n1_; clear n0_ n1_; clear hg hw hp_))
      repeat (go_quiet (first | ((with_reducible refine gate_store (t := 2) (p := 44) rfl ?_); (try (rw [drewN_self wr]; generalize hq_ : World.drewN wr _ = wr; have n0_ := Aside0.mk (Kd.R_at hq_ HO_8.out); have n1_ := Aside0.mk (below_at hq_ HB.out); clear hq_ HO_8 HB; have HO_8 := n0_; have HB := n1_; clear n0_ n1_; (try (have HX12 := Aside0.mk (show Kd.R k29 29 wr w.heap.size (fun _ => True) (.slice (some ⟨go10, 0, none⟩) x8_1.length co11) x8_1 from (rowN HO_8.out)))); (try (obtain ⟨ce12, hcl12, hM12, hcc12, hfr12⟩ := Kd.R_elem HX12.out z29 (x9_1 : Int) (of_decide_eq_true (by first | (with_reducible assumption) | assumption)) (by have h_ : (x9_1 : Int) < ((x8_1.length : Int) : Int) := of_decide_eq_true (by first | (with_reducible assumption) | assumption); first | exact h_ | (have e_ := (Kd.R_reads' HO_8.out).1; omega) | simpa using h_))); (try (obtain rfl := k29_openM hM12)); (try (have HP12 := Kd.R_seg HX12.out (x9_1 : Int) (of_decide_eq_true (by first | (with_reducible assumption) | assumption)) (by have h_ : (x9_1 : Int) < ((x8_1.length : Int) : Int) := of_decide_eq_true (by first | (with_reducible assumption) | assumption); first | exact h_ | (have e_ := (Kd.R_reads' HO_8.out).1; omega) | simpa using h_) (seg := [.int .i64 (wrap64 (-((rd_T29 x8_1 x9_1).f1.f0)))]) (j := 1) hcl12 hcc12 (show 2 ≤ 3 from by decide) (x' := (⟨(rd_T29 x8_1 x9_1).f0, (⟨wrap64 (-((rd_T29 x8_1 x9_1).f1.f0)), (rd_T29 x8_1 x9_1).f1.f1⟩ : S27)⟩ : S29)) (k29_mkM _ _ _ (⟨(rd_T29 x8_1 x9_1).f0, (⟨wrap64 (-((rd_T29 x8_1 x9_1).f1.f0)), (rd_T29 x8_1 x9_1).f1.f1⟩ : S27)⟩ : S29) ) (fun _ hk => hk))); (try (have hx12_1 := hcc12 1 _ rfl)); (try (try simp only [show (k29).sz = 3 from rfl, Nat.mul_one, Nat.add_zero] at hx12_1)); (try (have hf12_1 := hfr12 1)); (try (try simp only [show (k29).sz = 3 from rfl, Nat.mul_one, Nat.add_zero] at hf12_1)); (try (clear hcl12 hcc12 hfr12 hM12)))); refine store_event (t := 2) (p := 44) (v := ?vo_w13) (w1 := (wr.setCell ⟨go10, (x9_1 : Int).toNat * 3 + 1, none⟩ (.int .i64 (wrap64 (-((rd_T29 x8_1 x9_1).f1.f0)))))) ?hg ?ho ?hn ?hr ?_; (case ho => rfl); (case hg => rfl); (case hn => rfl); (case hr => first | (go_simp; done) | (go_simp; rfl)); intro w13 hw; have hg : wr.grownBy w13 (some go10) := (by rw [hw]; exact HP12.2); have hp_ : Kd.R k29 29 w13 w.heap.size (fun _ => True) (.slice (some ⟨go10, 0, none⟩) x8_1.length co11) y259 := (by rw [hw, Ny259.out]; exact HP12.1); clear HP12; have n0_ := Aside0.mk (hp_); have n1_ := Aside0.mk ((by rw [hw]; exact below_set (HB.out) GB10.out : Below w.heap.size w w13)); clear HO_8; clear HB; have HO_8 := n0_; have HB := n1_; clear n0_ n1_; clear hg hw hp_)); try go_wp2_with (first | ((with_reducible refine gate_store (t := 2) (p := 44) rfl ?_); (try (rw [drewN_self wr]; generalize hq_ : World.drewN wr _ = wr; have n0_ := Aside0.mk (Kd.R_at hq_ HO_8.out); have n1_ := Aside0.mk (below_at hq_ HB.out); clear hq_ HO_8 HB; have HO_8 := n0_; have HB := n1_; clear n0_ n1_; (try (have HX12 := Aside0.mk (show Kd.R k29 29 wr w.heap.size (fun _ => True) (.slice (some ⟨go10, 0, none⟩) x8_1.length co11) x8_1 from (rowN HO_8.out)))); (try (obtain ⟨ce12, hcl12, hM12, hcc12, hfr12⟩ := Kd.R_elem HX12.out z29 (x9_1 : Int) (of_decide_eq_true (by first | (with_reducible assumption) | assumption)) (by have h_ : (x9_1 : Int) < ((x8_1.length : Int) : Int) := of_decide_eq_true (by first | (with_reducible assumption) | assumption); first | exact h_ | (have e_ := (Kd.R_reads' HO_8.out).1; omega) | simpa using h_))); (try (obtain rfl := k29_openM hM12)); (try (have HP12 := Kd.R_seg HX12.out (x9_1 : Int) (of_decide_eq_true (by first | (with_reducible assumption) | assumption)) (by have h_ : (x9_1 : Int) < ((x8_1.length : Int) : Int) := of_decide_eq_true (by first | (with_reducible assumption) | assumption); first | exact h_ | (have e_ := (Kd.R_reads' HO_8.out).1; omega) | simpa using h_) (seg := [.int .i64 (wrap64 (-((rd_T29 x8_1 x9_1).f1.f0)))]) (j := 1) hcl12 hcc12 (show 2 ≤ 3 from by decide) (x' := (⟨(rd_T29 x8_1 x9_1).f0, (⟨wrap64 (-((rd_T29 x8_1 x9_1).f1.f0)), (rd_T29 x8_1 x9_1).f1.f1⟩ : S27)⟩ : S29)) (k29_mkM _ _ _ (⟨(rd_T29 x8_1 x9_1).f0, (⟨wrap64 (-((rd_T29 x8_1 x9_1).f1.f0)), (rd_T29 x8_1 x9_1).f1.f1⟩ : S27)⟩ : S29) ) (fun _ hk => hk))); (try (have hx12_1 := hcc12 1 _ rfl)); (try (try simp only [show (k29).sz = 3 from rfl, Nat.mul_one, Nat.add_zero] at hx12_1)); (try (have hf12_1 := hfr12 1)); (try (try simp only [show (k29).sz = 3 from rfl, Nat.mul_one, Nat.add_zero] at hf12_1)); (try (clear hcl12 hcc12 hfr12 hM12)))); refine store_event (t := 2) (p := 44) (v := ?vo_w13) (w1 := (wr.setCell ⟨go10, (x9_1 : Int).toNat * 3 + 1, none⟩ (.int .i64 (wrap64 (-((rd_T29 x8_1 x9_1).f1.f0)))))) ?hg ?ho ?hn ?hr ?_; (case ho => rfl); (case hg => rfl); (case hn => rfl); (case hr => first | (go_simp; done) | (go_simp; rfl)); intro w13 hw; have hg : wr.grownBy w13 (some go10) := (by rw [hw]; exact HP12.2); have hp_ : Kd.R k29 29 w13 w.heap.size (fun _ => True) (.slice (some ⟨go10, 0, none⟩) x8_1.length co11) y259 := (by rw [hw, Ny259.out]; exact HP12.1); clear HP12; have n0_ := Aside0.mk (hp_); have n1_ := Aside0.mk ((by rw [hw]; exact below_set (HB.out) GB10.out : Below w.heap.size w w13)); clear HO_8; clear HB; have HO_8 := n0_; have HB := n1_; clear n0_ n1_; clear hg hw hp_)))
      go_roundg k1
      case measure => have := HK1.out; omega
      case rel => exact ⟨(y259), (wrap64 (x9_1 + 1)), (by first | rfl | (simp; done) | (simp [*]; done)), H', ⟨by have := HK1.out; omega⟩, ⟨(rowN HO_8.out)⟩, ⟨(belN HB.out)⟩⟩
     ·rw [if_neg c9] at H
      have c9b0 : decide (((rd_T29 x8_1 x9_1).f1.f0) < 0) = false := decide_eq_false c9
      clear c9
      have H' := Aside0.mk H
      clear H
      obtain ⟨Ao14, co14, eo14⟩ := Kd.R_slice HO_8.out
      subst eo14
      have p257 : 0 ≤ (x9_1 : Int) := of_decide_eq_true (by first | (with_reducible assumption) | assumption)
      have q257 : x9_1 < (x8_1.length : Int) := of_decide_eq_true (by first | (with_reducible assumption) | assumption)
      obtain ⟨ad257, e257, hx257_0, hx257_1, hx257_2⟩ := at_T29 (Kd.R_reads' HO_8.out).2.2 x9_1 p257 q257
      cases e257
      replace p257 := eq_true p257
      replace q257 := eq_true q257
      go_wp2
      repeat (go_quiet (fail); try go_wp2)
      go_roundg k1
      case measure => have := HK1.out; omega
      case rel => exact ⟨(x8_1), (wrap64 (x9_1 + 1)), (by first | rfl | (simp; done) | (simp [*]; done)), H', ⟨by have := HK1.out; omega⟩, ⟨(rowN HO_8.out)⟩, ⟨(belN HB.out)⟩⟩
    ·rw [if_neg c8] at H
     exact absurd H (by simp)
   ·rw [if_neg c7] at H
    have c7b0 : decide (x9_1 < (x8_1.length : Int)) = false := decide_eq_false c7
    clear c7
    replace H := Option.bind_eq_some_iff.mp H
    obtain ⟨⟨t260, t261⟩, A150, H⟩ := H
    replace H : ((rate_Do.f k1 x8_1 false 0).bind fun bt264 => (if t261 = 0 then (if bt264.2 = 0 then (marigraphlaw24_RateCounters.j1 k1 t260 bt264.1 ((t260.length : Int) != (bt264.1.length : Int))) else (marigraphlaw24_RateCounters.j1 k1 t260 bt264.1 true)) else (marigraphlaw24_RateCounters.j1 k1 t260 bt264.1 true))) = some r := H
    have A15 := Aside0.mk A150
    clear A150
    replace H := Option.bind_eq_some_iff.mp H
    obtain ⟨⟨t264, t265⟩, A160, H⟩ := H
    replace H : (if t261 = 0 then (if t265 = 0 then (marigraphlaw24_RateCounters.j1 k1 t260 t264 ((t260.length : Int) != (t264.length : Int))) else (marigraphlaw24_RateCounters.j1 k1 t260 t264 true)) else (marigraphlaw24_RateCounters.j1 k1 t260 t264 true)) = some r := H
    have A16 := Aside0.mk A160
    clear A160
    have HC17 := Aside0.mk H
    clear H
    obtain ⟨Ao18, co18, eo18⟩ := Kd.R_slice HO_8.out
    subst eo18
    go_upto_region 10 with (first | (go_at_call 8; (with_reducible refine (rate_Do.calls k1 _ _ x8_1 true t253 t260 t261 _ ?side1 ?side2 A15.out).mono ?_); (case side1 => repeat (first | exact (Kd.R_reads' HO_8.out).2.2 | (with_reducible refine Kd.C_alloc ?_ _) | (with_reducible refine Kd.C_drewN ?_ _) | (with_reducible refine Kd.C_drew ?_))); (case side2 => exact (Kd.R_reads' HO_8.out).2.1); rintro e w19 ⟨v262, rfl, ho0, hb⟩; have n0_ := Aside0.mk (Kd.R_elder' (rowN HO_8.out) (Kd.R_base ho0) hb); have n1_ := Aside0.mk (Kd.R_lower (Kd.R_new' ho0 (Kd.R_lt (rowN HO_8.out))) (below_size (belN HB.out))); have n2_ := Aside0.mk (below_step (belN HB.out) hb); clear HO_8; clear HB; have HO_8 := n0_; have HO263 := n1_; have HB := n2_; clear n0_ n1_ n2_; (try clear hb); (try clear hk); (try clear ho0)) | (go_at_call 8; (with_reducible refine (rate_Do.calls k1 _ _ x8_1 false 0 t264 t265 _ ?side1 ?side2 A16.out).mono ?_); (case side1 => repeat (first | exact (Kd.R_reads' HO_8.out).2.2 | (with_reducible refine Kd.C_alloc ?_ _) | (with_reducible refine Kd.C_drewN ?_ _) | (with_reducible refine Kd.C_drew ?_))); (case side2 => exact (Kd.R_reads' HO_8.out).2.1); rintro e w20 ⟨v266, rfl, ho0, hb⟩; have n0_ := Aside0.mk (Kd.R_elder' (rowN HO_8.out) (Kd.R_base ho0) hb); have n1_ := Aside0.mk (Kd.R_elder' (rowN HO263.out) (Kd.R_base ho0) hb); have n2_ := Aside0.mk (Kd.R_lower (Kd.R_new' (Kd.R_new' ho0 (Kd.R_lt (rowN HO_8.out))) (Kd.R_lt (rowN HO263.out))) (below_size (belN HB.out))); have n3_ := Aside0.mk (below_step (belN HB.out) hb); clear HO_8; clear HO263; clear HB; have HO_8 := n0_; have HO263 := n1_; have HO267 := n2_; have HB := n3_; clear n0_ n1_ n2_ n3_; (try clear hb); (try clear hk); (try clear ho0)))
    repeat (go_quiet (first | (go_at_call 8; (with_reducible refine (rate_Do.calls k1 _ _ x8_1 true t253 t260 t261 _ ?side1 ?side2 A15.out).mono ?_); (case side1 => repeat (first | exact (Kd.R_reads' HO_8.out).2.2 | (with_reducible refine Kd.C_alloc ?_ _) | (with_reducible refine Kd.C_drewN ?_ _) | (with_reducible refine Kd.C_drew ?_))); (case side2 => exact (Kd.R_reads' HO_8.out).2.1); rintro e w19 ⟨v262, rfl, ho0, hb⟩; have n0_ := Aside0.mk (Kd.R_elder' (rowN HO_8.out) (Kd.R_base ho0) hb); have n1_ := Aside0.mk (Kd.R_lower (Kd.R_new' ho0 (Kd.R_lt (rowN HO_8.out))) (below_size (belN HB.out))); have n2_ := Aside0.mk (below_step (belN HB.out) hb); clear HO_8; clear HB; have HO_8 := n0_; have HO263 := n1_; have HB := n2_; clear n0_ n1_ n2_; (try clear hb); (try clear hk); (try clear ho0)) | (go_at_call 8; (with_reducible refine (rate_Do.calls k1 _ _ x8_1 false 0 t264 t265 _ ?side1 ?side2 A16.out).mono ?_); (case side1 => repeat (first | exact (Kd.R_reads' HO_8.out).2.2 | (with_reducible refine Kd.C_alloc ?_ _) | (with_reducible refine Kd.C_drewN ?_ _) | (with_reducible refine Kd.C_drew ?_))); (case side2 => exact (Kd.R_reads' HO_8.out).2.1); rintro e w20 ⟨v266, rfl, ho0, hb⟩; have n0_ := Aside0.mk (Kd.R_elder' (rowN HO_8.out) (Kd.R_base ho0) hb); have n1_ := Aside0.mk (Kd.R_elder' (rowN HO263.out) (Kd.R_base ho0) hb); have n2_ := Aside0.mk (Kd.R_lower (Kd.R_new' (Kd.R_new' ho0 (Kd.R_lt (rowN HO_8.out))) (Kd.R_lt (rowN HO263.out))) (below_size (belN HB.out))); have n3_ := Aside0.mk (below_step (belN HB.out) hb); clear HO_8; clear HO263; clear HB; have HO_8 := n0_; have HO263 := n1_; have HO267 := n2_; have HB := n3_; clear n0_ n1_ n2_ n3_; (try clear hb); (try clear hk); (try clear ho0))); go_upto_region 10 with (first | (go_at_call 8; (with_reducible refine (rate_Do.calls k1 _ _ x8_1 true t253 t260 t261 _ ?side1 ?side2 A15.out).mono ?_); (case side1 => repeat (first | exact (Kd.R_reads' HO_8.out).2.2 | (with_reducible refine Kd.C_alloc ?_ _) | (with_reducible refine Kd.C_drewN ?_ _) | (with_reducible refine Kd.C_drew ?_))); (case side2 => exact (Kd.R_reads' HO_8.out).2.1); rintro e w19 ⟨v262, rfl, ho0, hb⟩; have n0_ := Aside0.mk (Kd.R_elder' (rowN HO_8.out) (Kd.R_base ho0) hb); have n1_ := Aside0.mk (Kd.R_lower (Kd.R_new' ho0 (Kd.R_lt (rowN HO_8.out))) (below_size (belN HB.out))); have n2_ := Aside0.mk (below_step (belN HB.out) hb); clear HO_8; clear HB; have HO_8 := n0_; have HO263 := n1_; have HB := n2_; clear n0_ n1_ n2_; (try clear hb); (try clear hk); (try clear ho0)) | (go_at_call 8; (with_reducible refine (rate_Do.calls k1 _ _ x8_1 false 0 t264 t265 _ ?side1 ?side2 A16.out).mono ?_); (case side1 => repeat (first | exact (Kd.R_reads' HO_8.out).2.2 | (with_reducible refine Kd.C_alloc ?_ _) | (with_reducible refine Kd.C_drewN ?_ _) | (with_reducible refine Kd.C_drew ?_))); (case side2 => exact (Kd.R_reads' HO_8.out).2.1); rintro e w20 ⟨v266, rfl, ho0, hb⟩; have n0_ := Aside0.mk (Kd.R_elder' (rowN HO_8.out) (Kd.R_base ho0) hb); have n1_ := Aside0.mk (Kd.R_elder' (rowN HO263.out) (Kd.R_base ho0) hb); have n2_ := Aside0.mk (Kd.R_lower (Kd.R_new' (Kd.R_new' ho0 (Kd.R_lt (rowN HO_8.out))) (Kd.R_lt (rowN HO263.out))) (below_size (belN HB.out))); have n3_ := Aside0.mk (below_step (belN HB.out) hb); clear HO_8; clear HO263; clear HB; have HO_8 := n0_; have HO263 := n1_; have HO267 := n2_; have HB := n3_; clear n0_ n1_ n2_ n3_; (try clear hb); (try clear hk); (try clear ho0))))
    (try simp only [Act.put, List.setIfInBounds_toArray, List.set_cons_zero, List.set_cons_succ])
    go_cut [68] (fun v68 wc => ∃ (kq : Nat) (x68_16 : Bool), v68 = .bool x68_16 ∧ Aside0 (marigraphlaw24_RateCounters.j1 kq t260 t264 x68_16 = some r) ∧ Aside0 (kq ≤ k1) ∧ Aside0 (Kd.R k29 29 wc w.heap.size (fun k_ => some k_ ≠ (v266 : Value).ownBlock) v262 t260) ∧ Aside0 (Kd.R k29 29 wc w.heap.size (fun k_ => some k_ ≠ (v262 : Value).ownBlock) v266 t264) ∧ Aside0 (Below w.heap.size w wc))
    case first =>
     have H := HC17.out
     clear HC17
     by_cases c21 : t261 = 0
     ·rw [if_pos c21] at H
      have c21b0 : (t261 == 0) = true := beq_iff_eq.mpr c21
      have c21b1 : (t261 != 0) = false := bne_eq_false_iff_eq.mpr c21
      clear c21
      (first | rw [c21b0] | rw [c21b1] | (simp only [i64_w, i32_w]; rw [c21b0]) | skip)
      by_cases c22 : t265 = 0
      ·rw [if_pos c22] at H
       have c22b0 : (t265 == 0) = true := beq_iff_eq.mpr c22
       have c22b1 : (t265 != 0) = false := bne_eq_false_iff_eq.mpr c22
       clear c22
       have H' := Aside0.mk H
       clear H
       obtain ⟨Ao23, co23, eo23⟩ := Kd.R_slice HO263.out
       subst eo23
       obtain ⟨Ao24, co24, eo24⟩ := Kd.R_slice HO267.out
       subst eo24
       go_wp2
       repeat (go_quiet (fail); try go_wp2)
       go_meet
       case rel => exact ⟨_, (((t260.length : Int) != (t264.length : Int))), (by first | rfl | (simp; done) | (simp [*]; done)), H', ⟨by have := HK1.out; first | omega | exact Nat.le_refl _⟩, ⟨by (with_reducible repeat (first | apply Kd.R_alloc | apply Kd.R_drewN | apply Kd.R_drew)); exact Kd.R_mono HO263.out (fun _ hk => hk.2)⟩, ⟨by (with_reducible repeat (first | apply Kd.R_alloc | apply Kd.R_drewN | apply Kd.R_drew)); exact Kd.R_mono HO267.out (fun _ hk => hk.2)⟩, ⟨(belN HB.out)⟩⟩
      ·rw [if_neg c22] at H
       have c22b0 : (t265 == 0) = false := beq_eq_false_iff_ne.mpr c22
       have c22b1 : (t265 != 0) = true := bne_iff_ne.mpr c22
       have H' := Aside0.mk H
       clear H
       go_wp2
       repeat (go_quiet (fail); try go_wp2)
       go_meet
       case rel => exact ⟨_, (true), (by first | rfl | (simp; done) | (simp [*]; done)), H', ⟨by have := HK1.out; first | omega | exact Nat.le_refl _⟩, ⟨by (with_reducible repeat (first | apply Kd.R_alloc | apply Kd.R_drewN | apply Kd.R_drew)); exact Kd.R_mono HO263.out (fun _ hk => hk.2)⟩, ⟨by (with_reducible repeat (first | apply Kd.R_alloc | apply Kd.R_drewN | apply Kd.R_drew)); exact Kd.R_mono HO267.out (fun _ hk => hk.2)⟩, ⟨(belN HB.out)⟩⟩
     ·rw [if_neg c21] at H
      have c21b0 : (t261 == 0) = false := beq_eq_false_iff_ne.mpr c21
      have c21b1 : (t261 != 0) = true := bne_iff_ne.mpr c21
      (first | rw [c21b0] | rw [c21b1] | (simp only [i64_w, i32_w]; rw [c21b0]) | skip)
      have H' := Aside0.mk H
      clear H
      go_wp2
      repeat (go_quiet (fail); try go_wp2)
      go_meet
      case rel => exact ⟨_, (true), (by first | rfl | (simp; done) | (simp [*]; done)), H', ⟨by have := HK1.out; first | omega | exact Nat.le_refl _⟩, ⟨by (with_reducible repeat (first | apply Kd.R_alloc | apply Kd.R_drewN | apply Kd.R_drew)); exact Kd.R_mono HO263.out (fun _ hk => hk.2)⟩, ⟨by (with_reducible repeat (first | apply Kd.R_alloc | apply Kd.R_drewN | apply Kd.R_drew)); exact Kd.R_mono HO267.out (fun _ hk => hk.2)⟩, ⟨(belN HB.out)⟩⟩
    case rest =>
     clear HC17
     try clear c1
     try clear p1
     try clear q1
     try clear hx1
     try clear c2
     try clear p2
     try clear q2
     try clear hx2
     try clear c3
     try clear p6
     try clear c7
     try clear c7b0
     try clear c8
     try clear c8b0
     try clear c9
     try clear c9b0
     try clear c10
     try clear p10
     try clear q10
     try clear hx10
     try clear hf10
     try clear c12
     try clear hx12
     try clear hf12
     try clear c21
     try clear c21b0
     try clear c21b1
     try clear c22
     try clear c22b0
     try clear c22b1
     try clear hx10_0
     try clear hx10_1
     try clear hx10_2
     try clear hx12_1
     try clear hx257_0
     try clear hx257_1
     try clear hx257_2
     try clear hx258_0
     try clear hx258_1
     try clear hx258_2
     try clear p10
     try clear p2
     try clear p257
     try clear p258
     try clear q10
     try clear q257
     try clear q258
     obtain ⟨kq, x68_16, rfl, HA, HJ16, HO_10, HO_12, HB⟩ := hcut
     cases kq with
     | zero => exact absurd HA.out (by simp [marigraphlaw24_RateCounters.j1])
     | succ kj16 =>
      have H := HA.out
      clear HA
      simp only [marigraphlaw24_RateCounters.j1] at H
      by_cases c25 : x68_16 = true
      ·subst c25
       have H1 : (some false) = some r := by rw [if_pos rfl] at H; exact H
       clear H
       have H := H1
       clear H1
       obtain rfl := Option.some.inj H
       go_wp2
       repeat (go_quiet (fail); try go_wp2)
       go_ret
       exact ⟨by first | rfl | (simp [errW_none, errW_some] <;> rfl) | (simp [*, errW_none, errW_some] <;> rfl), (belN HB.out)⟩
      ·replace c25 := Bool.eq_false_iff.mpr c25
       subst c25
       have H1 : (marigraphlaw24_RateCounters.l1 kj16 t260 t264 0) = some r := by rw [if_neg (show ¬ (false = true) by decide)] at H; exact H
       clear H
       have H := H1
       clear H1
       have H' := Aside0.mk H
       clear H
       go_wp2
       repeat (go_quiet (fail); try go_wp2)
       go_loopg [14] kj16 (fun kq v14 w' => ∃ (x14_3 : Int), v14 = .int .i64 x14_3 ∧ Aside0 (marigraphlaw24_RateCounters.l1 kq t260 t264 x14_3 = some r) ∧ Aside0 (kq ≤ kj16) ∧ Aside0 (Kd.R k29 29 w' w.heap.size (fun k_ => some k_ ≠ (v266 : Value).ownBlock) v262 t260) ∧ Aside0 (Kd.R k29 29 w' w.heap.size (fun k_ => some k_ ≠ (v262 : Value).ownBlock) v266 t264) ∧ Aside0 (Below w.heap.size w w'))
       case atStart => exact ⟨(0), (by first | rfl | (simp; done) | (simp [*]; done)), H', ⟨Nat.le_refl _⟩, ⟨(rowN HO_10.out)⟩, ⟨(rowN HO_12.out)⟩, ⟨(belN HB.out)⟩⟩
       case round =>
        clear H'
        try clear c1
        try clear p1
        try clear q1
        try clear hx1
        try clear c2
        try clear p2
        try clear q2
        try clear hx2
        try clear c3
        try clear p6
        try clear c7
        try clear c7b0
        try clear c8
        try clear c8b0
        try clear c9
        try clear c9b0
        try clear c10
        try clear p10
        try clear q10
        try clear hx10
        try clear hf10
        try clear c12
        try clear hx12
        try clear hf12
        try clear c21
        try clear c21b0
        try clear c21b1
        try clear c22
        try clear c22b0
        try clear c22b1
        try clear c25
        try clear p25
        try clear q25
        try clear hx25
        try clear hx10_0
        try clear hx10_1
        try clear hx10_2
        try clear hx12_1
        try clear hx257_0
        try clear hx257_1
        try clear hx257_2
        try clear hx258_0
        try clear hx258_1
        try clear hx258_2
        try clear p1
        try clear p10
        try clear p2
        try clear p257
        try clear p258
        try clear p6
        try clear q1
        try clear q10
        try clear q2
        try clear q257
        try clear q258
        obtain ⟨x14_3, rfl, HA, HK3, HO_10, HO_12, HB⟩ := hrel
        cases gk with
        | zero => exact absurd HA.out (by simp [marigraphlaw24_RateCounters.l1])
        | succ k3 =>
         have H := HA.out
         clear HA
         simp only [marigraphlaw24_RateCounters.l1] at H
         by_cases c26 : x14_3 < (t260.length : Int)
         ·rw [if_pos c26] at H
          have c26b0 : decide (x14_3 < (t260.length : Int)) = true := decide_eq_true c26
          clear c26
          by_cases c27 : 0 ≤ x14_3
          ·rw [if_pos c27] at H
           have c27b0 : decide (0 ≤ x14_3) = true := decide_eq_true c27
           clear c27
           by_cases c28 : ((rd_T29 t260 x14_3).f1.f0) < 0
           ·rw [if_pos c28] at H
            have c28b0 : decide (((rd_T29 t260 x14_3).f1.f0) < 0) = true := decide_eq_true c28
            clear c28
            obtain rfl := Option.some.inj H
            obtain ⟨Ao29, co29, eo29⟩ := Kd.R_slice HO_10.out
            subst eo29
            have p268 : 0 ≤ (x14_3 : Int) := of_decide_eq_true (by first | (with_reducible assumption) | assumption)
            have q268 : x14_3 < (t260.length : Int) := of_decide_eq_true (by first | (with_reducible assumption) | assumption)
            obtain ⟨ad268, e268, hx268_0, hx268_1, hx268_2⟩ := at_T29 (Kd.R_reads' HO_10.out).2.2 x14_3 p268 q268
            cases e268
            replace p268 := eq_true p268
            replace q268 := eq_true q268
            go_wp2
            repeat (go_quiet (fail); try go_wp2)
            go_ret
            exact ⟨by first | rfl | (simp [errW_none, errW_some] <;> rfl) | (simp [*, errW_none, errW_some] <;> rfl), (belN HB.out)⟩
           ·rw [if_neg c28] at H
            have c28b0 : decide (((rd_T29 t260 x14_3).f1.f0) < 0) = false := decide_eq_false c28
            clear c28
            by_cases c30 : x14_3 < (t264.length : Int)
            ·rw [if_pos c30] at H
             have c30b0 : decide (x14_3 < (t264.length : Int)) = true := decide_eq_true c30
             clear c30
             by_cases c31 : ((rd_T29 t260 x14_3).f0) = ((rd_T29 t264 x14_3).f0)
             ·rw [if_pos c31] at H
              have c31b0 : (((rd_T29 t260 x14_3).f0) == ((rd_T29 t264 x14_3).f0)) = true := beq_iff_eq.mpr c31
              have c31b1 : (((rd_T29 t260 x14_3).f0) != ((rd_T29 t264 x14_3).f0)) = false := bne_eq_false_iff_eq.mpr c31
              clear c31
              by_cases c32 : ((rd_T29 t264 x14_3).f1.f0) ≥ 0
              ·rw [if_pos c32] at H
               have c32b0 : decide (0 ≤ ((rd_T29 t264 x14_3).f1.f0)) = true := decide_eq_true c32
               clear c32
               by_cases c33 : (!(((rd_T29 t260 x14_3).f1.f0) == ((rd_T29 t264 x14_3).f1.f0)) || (!(((rd_T29 t260 x14_3).f1.f1) == ((rd_T29 t264 x14_3).f1.f1)))) = true
               ·rw [if_pos c33] at H
                have c33b0 : (!(((rd_T29 t260 x14_3).f1.f0) == ((rd_T29 t264 x14_3).f1.f0)) || (!(((rd_T29 t260 x14_3).f1.f1) == ((rd_T29 t264 x14_3).f1.f1)))) = true := c33
                clear c33
                obtain rfl := Option.some.inj H
                obtain ⟨Ao34, co34, eo34⟩ := Kd.R_slice HO_10.out
                subst eo34
                have p268 : 0 ≤ (x14_3 : Int) := of_decide_eq_true (by first | (with_reducible assumption) | assumption)
                have q268 : x14_3 < (t260.length : Int) := of_decide_eq_true (by first | (with_reducible assumption) | assumption)
                obtain ⟨ad268, e268, hx268_0, hx268_1, hx268_2⟩ := at_T29 (Kd.R_reads' HO_10.out).2.2 x14_3 p268 q268
                cases e268
                replace p268 := eq_true p268
                replace q268 := eq_true q268
                have p269 : 0 ≤ (x14_3 : Int) := of_decide_eq_true (by first | (with_reducible assumption) | assumption)
                have q269 : x14_3 < (t260.length : Int) := of_decide_eq_true (by first | (with_reducible assumption) | assumption)
                obtain ⟨ad269, e269, hx269_0, hx269_1, hx269_2⟩ := at_T29 (Kd.R_reads' HO_10.out).2.2 x14_3 p269 q269
                obtain rfl : ad268 = ad269 := (by injection e269)
                replace p269 := eq_true p269
                replace q269 := eq_true q269
                obtain ⟨Ao35, co35, eo35⟩ := Kd.R_slice HO_12.out
                subst eo35
                have p270 : 0 ≤ (x14_3 : Int) := of_decide_eq_true (by first | (with_reducible assumption) | assumption)
                have q270 : x14_3 < (t264.length : Int) := of_decide_eq_true (by first | (with_reducible assumption) | assumption)
                obtain ⟨ad270, e270, hx270_0, hx270_1, hx270_2⟩ := at_T29 (Kd.R_reads' HO_12.out).2.2 x14_3 p270 q270
                cases e270
                replace p270 := eq_true p270
                replace q270 := eq_true q270
                have p271 : 0 ≤ (x14_3 : Int) := of_decide_eq_true (by first | (with_reducible assumption) | assumption)
                have q271 : x14_3 < (t264.length : Int) := of_decide_eq_true (by first | (with_reducible assumption) | assumption)
                obtain ⟨ad271, e271, hx271_0, hx271_1, hx271_2⟩ := at_T29 (Kd.R_reads' HO_12.out).2.2 x14_3 p271 q271
                obtain rfl : ad270 = ad271 := (by injection e271)
                replace p271 := eq_true p271
                replace q271 := eq_true q271
                have p272 : 0 ≤ (x14_3 : Int) := of_decide_eq_true (by first | (with_reducible assumption) | assumption)
                have q272 : x14_3 < (t260.length : Int) := of_decide_eq_true (by first | (with_reducible assumption) | assumption)
                obtain ⟨ad272, e272, hx272_0, hx272_1, hx272_2⟩ := at_T29 (Kd.R_reads' HO_10.out).2.2 x14_3 p272 q272
                obtain rfl : ad268 = ad272 := (by injection e272)
                replace p272 := eq_true p272
                replace q272 := eq_true q272
                have p273 : 0 ≤ (x14_3 : Int) := of_decide_eq_true (by first | (with_reducible assumption) | assumption)
                have q273 : x14_3 < (t264.length : Int) := of_decide_eq_true (by first | (with_reducible assumption) | assumption)
                obtain ⟨ad273, e273, hx273_0, hx273_1, hx273_2⟩ := at_T29 (Kd.R_reads' HO_12.out).2.2 x14_3 p273 q273
                obtain rfl : ad270 = ad273 := (by injection e273)
                replace p273 := eq_true p273
                replace q273 := eq_true q273
                go_wp2
                repeat (go_quiet (fail); try go_wp2)
                go_ret
                exact ⟨by first | rfl | (simp [errW_none, errW_some] <;> rfl) | (simp [*, errW_none, errW_some] <;> rfl), (belN HB.out)⟩
               ·rw [if_neg c33] at H
                have c33b0 : (!(((rd_T29 t260 x14_3).f1.f0) == ((rd_T29 t264 x14_3).f1.f0)) || (!(((rd_T29 t260 x14_3).f1.f1) == ((rd_T29 t264 x14_3).f1.f1)))) = false := by simpa using c33
                clear c33
                have H' := Aside0.mk H
                clear H
                obtain ⟨Ao36, co36, eo36⟩ := Kd.R_slice HO_10.out
                subst eo36
                have p268 : 0 ≤ (x14_3 : Int) := of_decide_eq_true (by first | (with_reducible assumption) | assumption)
                have q268 : x14_3 < (t260.length : Int) := of_decide_eq_true (by first | (with_reducible assumption) | assumption)
                obtain ⟨ad268, e268, hx268_0, hx268_1, hx268_2⟩ := at_T29 (Kd.R_reads' HO_10.out).2.2 x14_3 p268 q268
                cases e268
                replace p268 := eq_true p268
                replace q268 := eq_true q268
                have p269 : 0 ≤ (x14_3 : Int) := of_decide_eq_true (by first | (with_reducible assumption) | assumption)
                have q269 : x14_3 < (t260.length : Int) := of_decide_eq_true (by first | (with_reducible assumption) | assumption)
                obtain ⟨ad269, e269, hx269_0, hx269_1, hx269_2⟩ := at_T29 (Kd.R_reads' HO_10.out).2.2 x14_3 p269 q269
                obtain rfl : ad268 = ad269 := (by injection e269)
                replace p269 := eq_true p269
                replace q269 := eq_true q269
                obtain ⟨Ao37, co37, eo37⟩ := Kd.R_slice HO_12.out
                subst eo37
                have p270 : 0 ≤ (x14_3 : Int) := of_decide_eq_true (by first | (with_reducible assumption) | assumption)
                have q270 : x14_3 < (t264.length : Int) := of_decide_eq_true (by first | (with_reducible assumption) | assumption)
                obtain ⟨ad270, e270, hx270_0, hx270_1, hx270_2⟩ := at_T29 (Kd.R_reads' HO_12.out).2.2 x14_3 p270 q270
                cases e270
                replace p270 := eq_true p270
                replace q270 := eq_true q270
                have p271 : 0 ≤ (x14_3 : Int) := of_decide_eq_true (by first | (with_reducible assumption) | assumption)
                have q271 : x14_3 < (t264.length : Int) := of_decide_eq_true (by first | (with_reducible assumption) | assumption)
                obtain ⟨ad271, e271, hx271_0, hx271_1, hx271_2⟩ := at_T29 (Kd.R_reads' HO_12.out).2.2 x14_3 p271 q271
                obtain rfl : ad270 = ad271 := (by injection e271)
                replace p271 := eq_true p271
                replace q271 := eq_true q271
                have p272 : 0 ≤ (x14_3 : Int) := of_decide_eq_true (by first | (with_reducible assumption) | assumption)
                have q272 : x14_3 < (t260.length : Int) := of_decide_eq_true (by first | (with_reducible assumption) | assumption)
                obtain ⟨ad272, e272, hx272_0, hx272_1, hx272_2⟩ := at_T29 (Kd.R_reads' HO_10.out).2.2 x14_3 p272 q272
                obtain rfl : ad268 = ad272 := (by injection e272)
                replace p272 := eq_true p272
                replace q272 := eq_true q272
                have p273 : 0 ≤ (x14_3 : Int) := of_decide_eq_true (by first | (with_reducible assumption) | assumption)
                have q273 : x14_3 < (t264.length : Int) := of_decide_eq_true (by first | (with_reducible assumption) | assumption)
                obtain ⟨ad273, e273, hx273_0, hx273_1, hx273_2⟩ := at_T29 (Kd.R_reads' HO_12.out).2.2 x14_3 p273 q273
                obtain rfl : ad270 = ad273 := (by injection e273)
                replace p273 := eq_true p273
                replace q273 := eq_true q273
                go_wp2
                repeat (go_quiet (fail); try go_wp2)
                go_roundg k3
                case measure => have := HK1.out; have := HJ16.out; have := HK3.out; omega
                case rel => exact ⟨(wrap64 (x14_3 + 1)), (by first | rfl | (simp; done) | (simp [*]; done)), H', ⟨by have := HK1.out; have := HJ16.out; have := HK3.out; omega⟩, ⟨(rowN HO_10.out)⟩, ⟨(rowN HO_12.out)⟩, ⟨(belN HB.out)⟩⟩
              ·rw [if_neg c32] at H
               have c32b0 : decide (0 ≤ ((rd_T29 t264 x14_3).f1.f0)) = false := decide_eq_false c32
               clear c32
               have H' := Aside0.mk H
               clear H
               obtain ⟨Ao38, co38, eo38⟩ := Kd.R_slice HO_10.out
               subst eo38
               have p268 : 0 ≤ (x14_3 : Int) := of_decide_eq_true (by first | (with_reducible assumption) | assumption)
               have q268 : x14_3 < (t260.length : Int) := of_decide_eq_true (by first | (with_reducible assumption) | assumption)
               obtain ⟨ad268, e268, hx268_0, hx268_1, hx268_2⟩ := at_T29 (Kd.R_reads' HO_10.out).2.2 x14_3 p268 q268
               cases e268
               replace p268 := eq_true p268
               replace q268 := eq_true q268
               have p269 : 0 ≤ (x14_3 : Int) := of_decide_eq_true (by first | (with_reducible assumption) | assumption)
               have q269 : x14_3 < (t260.length : Int) := of_decide_eq_true (by first | (with_reducible assumption) | assumption)
               obtain ⟨ad269, e269, hx269_0, hx269_1, hx269_2⟩ := at_T29 (Kd.R_reads' HO_10.out).2.2 x14_3 p269 q269
               obtain rfl : ad268 = ad269 := (by injection e269)
               replace p269 := eq_true p269
               replace q269 := eq_true q269
               obtain ⟨Ao39, co39, eo39⟩ := Kd.R_slice HO_12.out
               subst eo39
               have p270 : 0 ≤ (x14_3 : Int) := of_decide_eq_true (by first | (with_reducible assumption) | assumption)
               have q270 : x14_3 < (t264.length : Int) := of_decide_eq_true (by first | (with_reducible assumption) | assumption)
               obtain ⟨ad270, e270, hx270_0, hx270_1, hx270_2⟩ := at_T29 (Kd.R_reads' HO_12.out).2.2 x14_3 p270 q270
               cases e270
               replace p270 := eq_true p270
               replace q270 := eq_true q270
               have p271 : 0 ≤ (x14_3 : Int) := of_decide_eq_true (by first | (with_reducible assumption) | assumption)
               have q271 : x14_3 < (t264.length : Int) := of_decide_eq_true (by first | (with_reducible assumption) | assumption)
               obtain ⟨ad271, e271, hx271_0, hx271_1, hx271_2⟩ := at_T29 (Kd.R_reads' HO_12.out).2.2 x14_3 p271 q271
               obtain rfl : ad270 = ad271 := (by injection e271)
               replace p271 := eq_true p271
               replace q271 := eq_true q271
               go_wp2
               repeat (go_quiet (fail); try go_wp2)
               go_roundg k3
               case measure => have := HK1.out; have := HJ16.out; have := HK3.out; omega
               case rel => exact ⟨(wrap64 (x14_3 + 1)), (by first | rfl | (simp; done) | (simp [*]; done)), H', ⟨by have := HK1.out; have := HJ16.out; have := HK3.out; omega⟩, ⟨(rowN HO_10.out)⟩, ⟨(rowN HO_12.out)⟩, ⟨(belN HB.out)⟩⟩
             ·rw [if_neg c31] at H
              have c31b0 : (((rd_T29 t260 x14_3).f0) == ((rd_T29 t264 x14_3).f0)) = false := beq_eq_false_iff_ne.mpr c31
              have c31b1 : (((rd_T29 t260 x14_3).f0) != ((rd_T29 t264 x14_3).f0)) = true := bne_iff_ne.mpr c31
              obtain rfl := Option.some.inj H
              obtain ⟨Ao40, co40, eo40⟩ := Kd.R_slice HO_10.out
              subst eo40
              have p268 : 0 ≤ (x14_3 : Int) := of_decide_eq_true (by first | (with_reducible assumption) | assumption)
              have q268 : x14_3 < (t260.length : Int) := of_decide_eq_true (by first | (with_reducible assumption) | assumption)
              obtain ⟨ad268, e268, hx268_0, hx268_1, hx268_2⟩ := at_T29 (Kd.R_reads' HO_10.out).2.2 x14_3 p268 q268
              cases e268
              replace p268 := eq_true p268
              replace q268 := eq_true q268
              have p269 : 0 ≤ (x14_3 : Int) := of_decide_eq_true (by first | (with_reducible assumption) | assumption)
              have q269 : x14_3 < (t260.length : Int) := of_decide_eq_true (by first | (with_reducible assumption) | assumption)
              obtain ⟨ad269, e269, hx269_0, hx269_1, hx269_2⟩ := at_T29 (Kd.R_reads' HO_10.out).2.2 x14_3 p269 q269
              obtain rfl : ad268 = ad269 := (by injection e269)
              replace p269 := eq_true p269
              replace q269 := eq_true q269
              obtain ⟨Ao41, co41, eo41⟩ := Kd.R_slice HO_12.out
              subst eo41
              have p270 : 0 ≤ (x14_3 : Int) := of_decide_eq_true (by first | (with_reducible assumption) | assumption)
              have q270 : x14_3 < (t264.length : Int) := of_decide_eq_true (by first | (with_reducible assumption) | assumption)
              obtain ⟨ad270, e270, hx270_0, hx270_1, hx270_2⟩ := at_T29 (Kd.R_reads' HO_12.out).2.2 x14_3 p270 q270
              cases e270
              replace p270 := eq_true p270
              replace q270 := eq_true q270
              go_wp2
              repeat (go_quiet (fail); try go_wp2)
              go_ret
              exact ⟨by first | rfl | (simp [errW_none, errW_some] <;> rfl) | (simp [*, errW_none, errW_some] <;> rfl), (belN HB.out)⟩
            ·rw [if_neg c30] at H
             exact absurd H (by simp)
          ·rw [if_neg c27] at H
           exact absurd H (by simp)
         ·rw [if_neg c26] at H
          have c26b0 : decide (x14_3 < (t260.length : Int)) = false := decide_eq_false c26
          clear c26
          replace H := Option.bind_eq_some_iff.mp H
          obtain ⟨t274, A420, H⟩ := H
          replace H : (some t274) = some r := H
          have A42 := Aside0.mk A420
          clear A420
          obtain rfl := Option.some.inj H
          obtain ⟨Ao43, co43, eo43⟩ := Kd.R_slice HO_10.out
          subst eo43
          go_wp2_with (first | (go_at_call 9; (with_reducible refine (marigraphlaw24_known.calls k3  t274 _ A42.out).mono ?_); rintro e w44 ⟨rfl, hb⟩; have n0_ := Aside0.mk (Kd.R_below (rowN HO_10.out) hb); have n1_ := Aside0.mk (Kd.R_below (rowN HO_12.out) hb); have n2_ := Aside0.mk (below_step (belN HB.out) hb); clear HO_10; clear HO_12; clear HB; have HO_10 := n0_; have HO_12 := n1_; have HB := n2_; clear n0_ n1_ n2_; (try clear hb); (try clear hk)))
          repeat (go_quiet (first | (go_at_call 9; (with_reducible refine (marigraphlaw24_known.calls k3  t274 _ A42.out).mono ?_); rintro e w44 ⟨rfl, hb⟩; have n0_ := Aside0.mk (Kd.R_below (rowN HO_10.out) hb); have n1_ := Aside0.mk (Kd.R_below (rowN HO_12.out) hb); have n2_ := Aside0.mk (below_step (belN HB.out) hb); clear HO_10; clear HO_12; clear HB; have HO_10 := n0_; have HO_12 := n1_; have HB := n2_; clear n0_ n1_ n2_; (try clear hb); (try clear hk))); try go_wp2_with (first | (go_at_call 9; (with_reducible refine (marigraphlaw24_known.calls k3  t274 _ A42.out).mono ?_); rintro e w44 ⟨rfl, hb⟩; have n0_ := Aside0.mk (Kd.R_below (rowN HO_10.out) hb); have n1_ := Aside0.mk (Kd.R_below (rowN HO_12.out) hb); have n2_ := Aside0.mk (below_step (belN HB.out) hb); clear HO_10; clear HO_12; clear HB; have HO_10 := n0_; have HO_12 := n1_; have HB := n2_; clear n0_ n1_ n2_; (try clear hb); (try clear hk))))
          go_ret
          exact ⟨by first | rfl | (simp [errW_none, errW_some] <;> rfl) | (simp [*, errW_none, errW_some] <;> rfl), (belN HB.out)⟩

/-- THE ONE PURE STATEMENT of marigraphlaw24_RateCounters: yours. -/
def marigraphlaw24_RateCounters.Pure : Prop := ∀ (l0 : List Int) (l1 : List Int) (a2 : Int), l0.length ≤ maxLen → l0.length * 8 ≤ 140737488351232 → (∀ x ∈ l0, (Lit.int .i64 x).wf = true) → l1.length ≤ maxLen → l1.length * 8 ≤ 140737488351232 → (∀ x ∈ l1, (Lit.int .i64 x).wf = true) → (Lit.int .i64 a2).wf = true → ∃ k, marigraphlaw24_RateCounters.f k l0 l1 a2 = some true
theorem marigraphlaw24_RateCounters.walk (P : marigraphlaw24_RateCounters.Pure) (a0 : Option Addr) (len0 cap0 : Nat) (z0 : List Int) (a1 : Option Addr) (len1 cap1 : Nat) (z1 : List Int) (a2 : Int) (w : World) (w0 : (a0 = none ∧ len0 = 0 ∧ cap0 = 0 ∧ z0 = []) ∨ ∃ x, a0 = some x ∧ len0 ≤ cap0 ∧ cap0 ≤ maxLen ∧ z0.length = cap0 ∧ (∀ i, i < z0.length → w.cell? (x.add i) = some (.int .i64 (z0.getD i 0))) ∧ ∀ n ∈ z0, (Lit.int .i64 n).wf = true) (y0 : len0 * 8 ≤ 140737488351232) (w1 : (a1 = none ∧ len1 = 0 ∧ cap1 = 0 ∧ z1 = []) ∨ ∃ x, a1 = some x ∧ len1 ≤ cap1 ∧ cap1 ≤ maxLen ∧ z1.length = cap1 ∧ (∀ i, i < z1.length → w.cell? (x.add i) = some (.int .i64 (z1.getD i 0))) ∧ ∀ n ∈ z1, (Lit.int .i64 n).wf = true) (y1 : len1 * 8 ≤ 140737488351232) (w2 : (Lit.int .i64 a2).wf = true) :
  Calls Try.prog 3 #[.slice a0 len0 cap0, .slice a1 len1 cap1, .int .i64 a2] w fun e w' => e = .returned (.bool true) ∧ Below w.heap.size w w' := by
 obtain ⟨l0, rfl, hr0, hm0, hw0, hc0⟩ := ReadsInt.ofRowC w0
 obtain ⟨l1, rfl, hr1, hm1, hw1, hc1⟩ := ReadsInt.ofRowC w1
 obtain ⟨k, h⟩ := P l0 l1 a2 hm0 y0 hw0 hm1 y1 hw1 w2
 refine (marigraphlaw24_RateCounters.calls k _ _ l0 _ _ l1 a2 true w (Kd.C_of_reads (d := (0 : Int)) (h1 := fun _ => rfl) hr0) hc0 (Kd.C_of_reads (d := (0 : Int)) (h1 := fun _ => rfl) hr1) hc1 h).mono ?_
 rintro e w' ⟨rfl, hd⟩
 exact ⟨rfl, hd⟩

end Go.Proofs.Ytflhpfdjobbgkaa.PRateCounters

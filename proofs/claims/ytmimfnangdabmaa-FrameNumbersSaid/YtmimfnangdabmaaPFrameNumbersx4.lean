/- The walk of the Go functions that a law reaches, told as plain functions; a program of this session has written it. No condition beyond the statement's own. -/
import Derived.Test.YtmimfnangdabmaaPFrameNumbersx0
import Derived.Test.YtmimfnangdabmaaPFrameNumbersx1
import Derived.Test.YtmimfnangdabmaaPFrameNumbersx3
namespace Go.Proofs.Ytmimfnangdabmaa.PFrameNumbers
open Go.RowKit Go.Proofs.YtmimfnangdabmaaW.PrintWords Go.Proofs.YtmimfnangdabmaaW.PrintLast Go.Proofs.YtmimfnangdabmaaW.PrintMore
attribute [local go_sem] max2_int min2_int max_two min_two max_three min_three max_four min_four   -- for this text's walks alone
set_option linter.unusedVariables false
set_option linter.unusedSimpArgs false

/-! ### marigraphlaw4_known: function 20 -/
def marigraphlaw4_known.f (k : Nat)  : Option (Bool) := (frame_Put.f k ([] : List Int) (([97] : List Int))).bind fun bt220 => ((frame_Batch.f k ([] : List (S49))).bind fun bt224 => (if bt220.2 = 0 then (if (strOfNums bt220.1).toList = ([0, 0, 1, 255, 255, 254, 97] : List UInt8) then (if bt224.2 = 0 then (some ((strOfNums bt224.1).toList == ([0, 0] : List UInt8))) else (some false)) else (some false)) else (some false)))
theorem marigraphlaw4_known.mono : ∀ k, LeO (marigraphlaw4_known.f k ) (marigraphlaw4_known.f (k + 1) ) := by
 intro  k
 unfold marigraphlaw4_known.f
 repeat' first
   | (with_reducible exact frame_Batch.mono _ _)
   | (with_reducible exact frame_Put.mono _ _ _)
   | (with_reducible exact LeO.refl _)
   | (with_reducible exact LeO.none _)
   | (with_reducible refine LeO.ite ?_ ?_)
   | (with_reducible refine LeO.bind ?_ (fun _ => ?_))
   | exact frame_Batch.mono _ _
   | exact frame_Put.mono _ _ _
   | exact LeO.none _
   | refine LeO.ite ?_ ?_
   | refine LeO.bind ?_ (fun _ => ?_)
set_option maxHeartbeats 8000000 in
set_option maxRecDepth 100000 in
theorem marigraphlaw4_known.calls (k : Nat)  (r : Bool) (w : World) (h : marigraphlaw4_known.f k  = some r) :
  Calls Try.prog 20 #[] w fun e w' => e = .returned (.bool r) ∧ Below w.heap.size w w' := by
 have HB := Aside0.mk (Below.refl w.heap.size w)
 have H : ((frame_Put.f k ([] : List Int) (([97] : List Int))).bind fun bt220 => ((frame_Batch.f k ([] : List (S49))).bind fun bt224 => (if bt220.2 = 0 then (if (strOfNums bt220.1).toList = ([0, 0, 1, 255, 255, 254, 97] : List UInt8) then (if bt224.2 = 0 then (some ((strOfNums bt224.1).toList == ([0, 0] : List UInt8))) else (some false)) else (some false)) else (some false)))) = some r := h
 clear h
 obtain ⟨y217, hy217⟩ : ∃ y_ : List Int, y_ = (([97] : List Int)) := ⟨_, rfl⟩
 replace H : ((frame_Put.f k ([] : List Int) y217).bind fun bt220 => ((frame_Batch.f k ([] : List (S49))).bind fun bt224 => (if bt220.2 = 0 then (if (strOfNums bt220.1).toList = ([0, 0, 1, 255, 255, 254, 97] : List UInt8) then (if bt224.2 = 0 then (some ((strOfNums bt224.1).toList == ([0, 0] : List UInt8))) else (some false)) else (some false)) else (some false)))) = some r := by first | (rw [hy217]; with_reducible exact H) | (have H2_ := (Option.bind_some _ _).symm.trans H; rw [hy217]; with_reducible exact H2_) | (have H2_ := (Option.bind_some _ _).symm.trans H; with_reducible exact H2_) | with_reducible exact H | (rw [hy217]; exact H) | exact H
 have Ny217 := Aside0.mk hy217
 clear hy217
 replace H := Option.bind_eq_some_iff.mp H
 obtain ⟨⟨t220, t221⟩, A10, H⟩ := H
 replace H : ((frame_Batch.f k ([] : List (S49))).bind fun bt224 => (if t221 = 0 then (if (strOfNums t220).toList = ([0, 0, 1, 255, 255, 254, 97] : List UInt8) then (if bt224.2 = 0 then (some ((strOfNums bt224.1).toList == ([0, 0] : List UInt8))) else (some false)) else (some false)) else (some false))) = some r := H
 have A1 := Aside0.mk A10
 clear A10
 replace H := Option.bind_eq_some_iff.mp H
 obtain ⟨⟨t224, t225⟩, A20, H⟩ := H
 replace H : (if t221 = 0 then (if (strOfNums t220).toList = ([0, 0, 1, 255, 255, 254, 97] : List UInt8) then (if t225 = 0 then (some ((strOfNums t224).toList == ([0, 0] : List UInt8))) else (some false)) else (some false)) else (some false)) = some r := H
 have A2 := Aside0.mk A20
 clear A20
 by_cases c3 : t221 = 0
 ·rw [if_pos c3] at H
  have c3b0 : (t221 == 0) = true := beq_iff_eq.mpr c3
  have c3b1 : (t221 != 0) = false := bne_eq_false_iff_eq.mpr c3
  clear c3
  by_cases c4 : (strOfNums t220).toList = ([0, 0, 1, 255, 255, 254, 97] : List UInt8)
  ·rw [if_pos c4] at H
   have c4b0 : ((strOfNums t220).toList == ([0, 0, 1, 255, 255, 254, 97] : List UInt8)) = true := beq_iff_eq.mpr c4
   have c4b1 : ((strOfNums t220).toList != ([0, 0, 1, 255, 255, 254, 97] : List UInt8)) = false := bne_eq_false_iff_eq.mpr c4
   clear c4
   by_cases c5 : t225 = 0
   ·rw [if_pos c5] at H
    have c5b0 : (t225 == 0) = true := beq_iff_eq.mpr c5
    have c5b1 : (t225 != 0) = false := bne_eq_false_iff_eq.mpr c5
    clear c5
    obtain rfl := Option.some.inj H
    go_enter Try.func20, Try.ntmps20
    go_wp2_with (first | ((with_reducible refine gate_dst (N := 6) rfl ?_); (try (refine gate_guard (by rfl) ?_; dsimp only)); refine constb_lit (n := 1) (inner := [.int .u8 97]) (E := 5) ?hg ?hr ?_; (case hg => rfl); (case hr => first | (go_simp; done) | (go_simp; rfl)); (with_reducible refine gate_dst (N := 7) rfl ?_); (try (refine gate_guard (by rfl) ?_; dsimp only)); refine constb_conv 23 5 (xs := ([97] : List Int)) rfl rfl rfl rfl (by first | (simp only [Act.put, List.setIfInBounds_toArray, List.set_cons_zero, List.set_cons_succ]; rfl) | rfl | (go_simp; done) | (go_simp; rfl)) Try.underlying23 Try.underlying5 (by simp) ?_; intro v218 w6 ho0 hb; rw [← Ny217.out] at ho0; have n0_ := Aside0.mk (Kd.V_lower (Kd.V_mono (ok' := fun k_ => True) ho0 (fun k_ hk_ => trivial)) (below_size (belN HB.out))); have n1_ := Aside0.mk (below_step (belN HB.out) hb); clear HB; have HO219 := n0_; have HB := n1_; clear n0_ n1_; (try clear hb); (try clear ho0); obtain ⟨Ao7, co7, eo7⟩ := Kd.V_slice HO219.out; subst eo7) | ((with_reducible refine gate_callee (f := 16) rfl ?_); refine goesL_ (some 8) rfl rfl Try.func16 (by kernel_rfl) rfl #[.slice none 0 0, .slice Ao7 y217.length co7] rfl argN ?_; (refine (frame_Put.calls k _ _ ([] : List Int) _ _ y217 t220 t221 _ ?side1 ?side2 ?side3 ?side4 A1.out).mono ?_); (case side1 => exact Kd.C_nil _ _); (case side2 => exact Nat.le_refl _); (case side3 => repeat (first | exact (Kd.V_reads' HO219.out).2.2 | (with_reducible refine Kd.C_alloc ?_ _) | (with_reducible refine Kd.C_drewN ?_ _) | (with_reducible refine Kd.C_drew ?_))); (case side4 => exact (Kd.V_reads' HO219.out).2.1); rintro e w8 ⟨v222, rfl, ho0, hb⟩; refine ⟨_, rfl, ?_⟩; have n0_ := Aside0.mk (Kd.V_elder' (by (with_reducible repeat (first | apply Kd.V_alloc | apply Kd.V_drewN | apply Kd.V_drew)); exact HO219.out) (Kd.R_base ho0) hb); have n1_ := Aside0.mk (Kd.R_lower ho0 (below_size (belN HB.out))); have n2_ := Aside0.mk (below_step (belN HB.out) hb); clear HO219; clear HB; have HO219 := n0_; have HO223 := n1_; have HB := n2_; clear n0_ n1_ n2_; (try clear hb); (try clear ho0)) | ((with_reducible refine gate_callee (f := 22) rfl ?_); refine goesL_ (some 12) rfl rfl Try.func22 (by kernel_rfl) rfl #[.slice none 0 0] rfl argN ?_; (refine (frame_Batch.calls k _ _ ([] : List (S49)) t224 t225 _ ?side1 ?side2 A2.out).mono ?_); (case side1 => exact Kd.C_nil _ _); (case side2 => exact Nat.le_refl _); rintro e w9 ⟨v226, rfl, ho0, hb⟩; refine ⟨_, rfl, ?_⟩; have n0_ := Aside0.mk (Kd.V_elder' (by (with_reducible repeat (first | apply Kd.V_alloc | apply Kd.V_drewN | apply Kd.V_drew)); exact HO219.out) (Kd.R_base ho0) hb); have n1_ := Aside0.mk (Kd.R_elder' (rowN HO223.out) (Kd.R_base ho0) hb); have n2_ := Aside0.mk (Kd.R_lower (Kd.R_new' ho0 (Kd.R_lt (rowN HO223.out))) (below_size (belN HB.out))); have n3_ := Aside0.mk (below_step (belN HB.out) hb); clear HO219; clear HO223; clear HB; have HO219 := n0_; have HO223 := n1_; have HO227 := n2_; have HB := n3_; clear n0_ n1_ n2_ n3_; (try clear hb); (try clear ho0); have hcv10 := own_string (P := Try.prog) Try.underlying23 Try.underlying5 Try.underlying9 (Kd.own_of_R HO223.out); have hcv11 := own_string (P := Try.prog) Try.underlying23 Try.underlying5 Try.underlying9 (Kd.own_of_R HO227.out)))
    go_ret
    exact ⟨by first | rfl | (simp [errW_none, errW_some] <;> rfl) | (simp [*, errW_none, errW_some] <;> rfl), (belN HB.out)⟩
   ·rw [if_neg c5] at H
    have c5b0 : (t225 == 0) = false := beq_eq_false_iff_ne.mpr c5
    have c5b1 : (t225 != 0) = true := bne_iff_ne.mpr c5
    obtain rfl := Option.some.inj H
    go_enter Try.func20, Try.ntmps20
    go_wp2_with (first | ((with_reducible refine gate_dst (N := 6) rfl ?_); (try (refine gate_guard (by rfl) ?_; dsimp only)); refine constb_lit (n := 1) (inner := [.int .u8 97]) (E := 5) ?hg ?hr ?_; (case hg => rfl); (case hr => first | (go_simp; done) | (go_simp; rfl)); (with_reducible refine gate_dst (N := 7) rfl ?_); (try (refine gate_guard (by rfl) ?_; dsimp only)); refine constb_conv 23 5 (xs := ([97] : List Int)) rfl rfl rfl rfl (by first | (simp only [Act.put, List.setIfInBounds_toArray, List.set_cons_zero, List.set_cons_succ]; rfl) | rfl | (go_simp; done) | (go_simp; rfl)) Try.underlying23 Try.underlying5 (by simp) ?_; intro v218 w12 ho0 hb; rw [← Ny217.out] at ho0; have n0_ := Aside0.mk (Kd.V_lower (Kd.V_mono (ok' := fun k_ => True) ho0 (fun k_ hk_ => trivial)) (below_size (belN HB.out))); have n1_ := Aside0.mk (below_step (belN HB.out) hb); clear HB; have HO219 := n0_; have HB := n1_; clear n0_ n1_; (try clear hb); (try clear ho0); obtain ⟨Ao13, co13, eo13⟩ := Kd.V_slice HO219.out; subst eo13) | ((with_reducible refine gate_callee (f := 16) rfl ?_); refine goesL_ (some 8) rfl rfl Try.func16 (by kernel_rfl) rfl #[.slice none 0 0, .slice Ao13 y217.length co13] rfl argN ?_; (refine (frame_Put.calls k _ _ ([] : List Int) _ _ y217 t220 t221 _ ?side1 ?side2 ?side3 ?side4 A1.out).mono ?_); (case side1 => exact Kd.C_nil _ _); (case side2 => exact Nat.le_refl _); (case side3 => repeat (first | exact (Kd.V_reads' HO219.out).2.2 | (with_reducible refine Kd.C_alloc ?_ _) | (with_reducible refine Kd.C_drewN ?_ _) | (with_reducible refine Kd.C_drew ?_))); (case side4 => exact (Kd.V_reads' HO219.out).2.1); rintro e w14 ⟨v222, rfl, ho0, hb⟩; refine ⟨_, rfl, ?_⟩; have n0_ := Aside0.mk (Kd.V_elder' (by (with_reducible repeat (first | apply Kd.V_alloc | apply Kd.V_drewN | apply Kd.V_drew)); exact HO219.out) (Kd.R_base ho0) hb); have n1_ := Aside0.mk (Kd.R_lower ho0 (below_size (belN HB.out))); have n2_ := Aside0.mk (below_step (belN HB.out) hb); clear HO219; clear HB; have HO219 := n0_; have HO223 := n1_; have HB := n2_; clear n0_ n1_ n2_; (try clear hb); (try clear ho0)) | ((with_reducible refine gate_callee (f := 22) rfl ?_); refine goesL_ (some 12) rfl rfl Try.func22 (by kernel_rfl) rfl #[.slice none 0 0] rfl argN ?_; (refine (frame_Batch.calls k _ _ ([] : List (S49)) t224 t225 _ ?side1 ?side2 A2.out).mono ?_); (case side1 => exact Kd.C_nil _ _); (case side2 => exact Nat.le_refl _); rintro e w15 ⟨v226, rfl, ho0, hb⟩; refine ⟨_, rfl, ?_⟩; have n0_ := Aside0.mk (Kd.V_elder' (by (with_reducible repeat (first | apply Kd.V_alloc | apply Kd.V_drewN | apply Kd.V_drew)); exact HO219.out) (Kd.R_base ho0) hb); have n1_ := Aside0.mk (Kd.R_elder' (rowN HO223.out) (Kd.R_base ho0) hb); have n2_ := Aside0.mk (Kd.R_lower (Kd.R_new' ho0 (Kd.R_lt (rowN HO223.out))) (below_size (belN HB.out))); have n3_ := Aside0.mk (below_step (belN HB.out) hb); clear HO219; clear HO223; clear HB; have HO219 := n0_; have HO223 := n1_; have HO227 := n2_; have HB := n3_; clear n0_ n1_ n2_ n3_; (try clear hb); (try clear ho0); have hcv16 := own_string (P := Try.prog) Try.underlying23 Try.underlying5 Try.underlying9 (Kd.own_of_R HO223.out)))
    go_ret
    exact ⟨by first | rfl | (simp [errW_none, errW_some] <;> rfl) | (simp [*, errW_none, errW_some] <;> rfl), (belN HB.out)⟩
  ·rw [if_neg c4] at H
   have c4b0 : ((strOfNums t220).toList == ([0, 0, 1, 255, 255, 254, 97] : List UInt8)) = false := beq_eq_false_iff_ne.mpr c4
   have c4b1 : ((strOfNums t220).toList != ([0, 0, 1, 255, 255, 254, 97] : List UInt8)) = true := bne_iff_ne.mpr c4
   obtain rfl := Option.some.inj H
   go_enter Try.func20, Try.ntmps20
   go_wp2_with (first | ((with_reducible refine gate_dst (N := 6) rfl ?_); (try (refine gate_guard (by rfl) ?_; dsimp only)); refine constb_lit (n := 1) (inner := [.int .u8 97]) (E := 5) ?hg ?hr ?_; (case hg => rfl); (case hr => first | (go_simp; done) | (go_simp; rfl)); (with_reducible refine gate_dst (N := 7) rfl ?_); (try (refine gate_guard (by rfl) ?_; dsimp only)); refine constb_conv 23 5 (xs := ([97] : List Int)) rfl rfl rfl rfl (by first | (simp only [Act.put, List.setIfInBounds_toArray, List.set_cons_zero, List.set_cons_succ]; rfl) | rfl | (go_simp; done) | (go_simp; rfl)) Try.underlying23 Try.underlying5 (by simp) ?_; intro v218 w17 ho0 hb; rw [← Ny217.out] at ho0; have n0_ := Aside0.mk (Kd.V_lower (Kd.V_mono (ok' := fun k_ => True) ho0 (fun k_ hk_ => trivial)) (below_size (belN HB.out))); have n1_ := Aside0.mk (below_step (belN HB.out) hb); clear HB; have HO219 := n0_; have HB := n1_; clear n0_ n1_; (try clear hb); (try clear ho0); obtain ⟨Ao18, co18, eo18⟩ := Kd.V_slice HO219.out; subst eo18) | ((with_reducible refine gate_callee (f := 16) rfl ?_); refine goesL_ (some 8) rfl rfl Try.func16 (by kernel_rfl) rfl #[.slice none 0 0, .slice Ao18 y217.length co18] rfl argN ?_; (refine (frame_Put.calls k _ _ ([] : List Int) _ _ y217 t220 t221 _ ?side1 ?side2 ?side3 ?side4 A1.out).mono ?_); (case side1 => exact Kd.C_nil _ _); (case side2 => exact Nat.le_refl _); (case side3 => repeat (first | exact (Kd.V_reads' HO219.out).2.2 | (with_reducible refine Kd.C_alloc ?_ _) | (with_reducible refine Kd.C_drewN ?_ _) | (with_reducible refine Kd.C_drew ?_))); (case side4 => exact (Kd.V_reads' HO219.out).2.1); rintro e w19 ⟨v222, rfl, ho0, hb⟩; refine ⟨_, rfl, ?_⟩; have n0_ := Aside0.mk (Kd.V_elder' (by (with_reducible repeat (first | apply Kd.V_alloc | apply Kd.V_drewN | apply Kd.V_drew)); exact HO219.out) (Kd.R_base ho0) hb); have n1_ := Aside0.mk (Kd.R_lower ho0 (below_size (belN HB.out))); have n2_ := Aside0.mk (below_step (belN HB.out) hb); clear HO219; clear HB; have HO219 := n0_; have HO223 := n1_; have HB := n2_; clear n0_ n1_ n2_; (try clear hb); (try clear ho0)) | ((with_reducible refine gate_callee (f := 22) rfl ?_); refine goesL_ (some 12) rfl rfl Try.func22 (by kernel_rfl) rfl #[.slice none 0 0] rfl argN ?_; (refine (frame_Batch.calls k _ _ ([] : List (S49)) t224 t225 _ ?side1 ?side2 A2.out).mono ?_); (case side1 => exact Kd.C_nil _ _); (case side2 => exact Nat.le_refl _); rintro e w20 ⟨v226, rfl, ho0, hb⟩; refine ⟨_, rfl, ?_⟩; have n0_ := Aside0.mk (Kd.V_elder' (by (with_reducible repeat (first | apply Kd.V_alloc | apply Kd.V_drewN | apply Kd.V_drew)); exact HO219.out) (Kd.R_base ho0) hb); have n1_ := Aside0.mk (Kd.R_elder' (rowN HO223.out) (Kd.R_base ho0) hb); have n2_ := Aside0.mk (Kd.R_lower (Kd.R_new' ho0 (Kd.R_lt (rowN HO223.out))) (below_size (belN HB.out))); have n3_ := Aside0.mk (below_step (belN HB.out) hb); clear HO219; clear HO223; clear HB; have HO219 := n0_; have HO223 := n1_; have HO227 := n2_; have HB := n3_; clear n0_ n1_ n2_ n3_; (try clear hb); (try clear ho0); have hcv21 := own_string (P := Try.prog) Try.underlying23 Try.underlying5 Try.underlying9 (Kd.own_of_R HO223.out)))
   go_ret
   exact ⟨by first | rfl | (simp [errW_none, errW_some] <;> rfl) | (simp [*, errW_none, errW_some] <;> rfl), (belN HB.out)⟩
 ·rw [if_neg c3] at H
  have c3b0 : (t221 == 0) = false := beq_eq_false_iff_ne.mpr c3
  have c3b1 : (t221 != 0) = true := bne_iff_ne.mpr c3
  obtain rfl := Option.some.inj H
  go_enter Try.func20, Try.ntmps20
  go_wp2_with (first | ((with_reducible refine gate_dst (N := 6) rfl ?_); (try (refine gate_guard (by rfl) ?_; dsimp only)); refine constb_lit (n := 1) (inner := [.int .u8 97]) (E := 5) ?hg ?hr ?_; (case hg => rfl); (case hr => first | (go_simp; done) | (go_simp; rfl)); (with_reducible refine gate_dst (N := 7) rfl ?_); (try (refine gate_guard (by rfl) ?_; dsimp only)); refine constb_conv 23 5 (xs := ([97] : List Int)) rfl rfl rfl rfl (by first | (simp only [Act.put, List.setIfInBounds_toArray, List.set_cons_zero, List.set_cons_succ]; rfl) | rfl | (go_simp; done) | (go_simp; rfl)) Try.underlying23 Try.underlying5 (by simp) ?_; intro v218 w22 ho0 hb; rw [← Ny217.out] at ho0; have n0_ := Aside0.mk (Kd.V_lower (Kd.V_mono (ok' := fun k_ => True) ho0 (fun k_ hk_ => trivial)) (below_size (belN HB.out))); have n1_ := Aside0.mk (below_step (belN HB.out) hb); clear HB; have HO219 := n0_; have HB := n1_; clear n0_ n1_; (try clear hb); (try clear ho0); obtain ⟨Ao23, co23, eo23⟩ := Kd.V_slice HO219.out; subst eo23) | ((with_reducible refine gate_callee (f := 16) rfl ?_); refine goesL_ (some 8) rfl rfl Try.func16 (by kernel_rfl) rfl #[.slice none 0 0, .slice Ao23 y217.length co23] rfl argN ?_; (refine (frame_Put.calls k _ _ ([] : List Int) _ _ y217 t220 t221 _ ?side1 ?side2 ?side3 ?side4 A1.out).mono ?_); (case side1 => exact Kd.C_nil _ _); (case side2 => exact Nat.le_refl _); (case side3 => repeat (first | exact (Kd.V_reads' HO219.out).2.2 | (with_reducible refine Kd.C_alloc ?_ _) | (with_reducible refine Kd.C_drewN ?_ _) | (with_reducible refine Kd.C_drew ?_))); (case side4 => exact (Kd.V_reads' HO219.out).2.1); rintro e w24 ⟨v222, rfl, ho0, hb⟩; refine ⟨_, rfl, ?_⟩; have n0_ := Aside0.mk (Kd.V_elder' (by (with_reducible repeat (first | apply Kd.V_alloc | apply Kd.V_drewN | apply Kd.V_drew)); exact HO219.out) (Kd.R_base ho0) hb); have n1_ := Aside0.mk (Kd.R_lower ho0 (below_size (belN HB.out))); have n2_ := Aside0.mk (below_step (belN HB.out) hb); clear HO219; clear HB; have HO219 := n0_; have HO223 := n1_; have HB := n2_; clear n0_ n1_ n2_; (try clear hb); (try clear ho0)) | ((with_reducible refine gate_callee (f := 22) rfl ?_); refine goesL_ (some 12) rfl rfl Try.func22 (by kernel_rfl) rfl #[.slice none 0 0] rfl argN ?_; (refine (frame_Batch.calls k _ _ ([] : List (S49)) t224 t225 _ ?side1 ?side2 A2.out).mono ?_); (case side1 => exact Kd.C_nil _ _); (case side2 => exact Nat.le_refl _); rintro e w25 ⟨v226, rfl, ho0, hb⟩; refine ⟨_, rfl, ?_⟩; have n0_ := Aside0.mk (Kd.V_elder' (by (with_reducible repeat (first | apply Kd.V_alloc | apply Kd.V_drewN | apply Kd.V_drew)); exact HO219.out) (Kd.R_base ho0) hb); have n1_ := Aside0.mk (Kd.R_elder' (rowN HO223.out) (Kd.R_base ho0) hb); have n2_ := Aside0.mk (Kd.R_lower (Kd.R_new' ho0 (Kd.R_lt (rowN HO223.out))) (below_size (belN HB.out))); have n3_ := Aside0.mk (below_step (belN HB.out) hb); clear HO219; clear HO223; clear HB; have HO219 := n0_; have HO223 := n1_; have HO227 := n2_; have HB := n3_; clear n0_ n1_ n2_ n3_; (try clear hb); (try clear ho0)))
  go_ret
  exact ⟨by first | rfl | (simp [errW_none, errW_some] <;> rfl) | (simp [*, errW_none, errW_some] <;> rfl), (belN HB.out)⟩

/-! ### marigraphref4_Batch: function 34 -/
def marigraphref4_Batch.l0 : Nat → List (S49) → List Int → Int → Option (List Int)
 | 0, _, _, _ => none
 | k + 1, x0, x3, x4 => if x4 < (x0.length : Int) then (if 0 ≤ x4 then (if (rd_T49 x0 x4).f2 = true then ((some (([0, ((((rd_T49 x0 x4).f0).length : Int)) % 256] : List Int) : List Int)).bind fun y233 => (if x3.length + y233.length < 140737488355328 then ((some (x3 ++ y233 : List Int)).bind fun y236 => (if y236.length + ((rd_T49 x0 x4).f0).length < 140737488355328 then (marigraphref4_Batch.l0 k x0 (y236 ++ ((rd_T49 x0 x4).f0)) (wrap64 (x4 + 1))) else (none))) else (none))) else ((some (([1, ((((rd_T49 x0 x4).f0).length : Int)) % 256] : List Int) : List Int)).bind fun y242 => (if x3.length + y242.length < 140737488355328 then ((some (x3 ++ y242 : List Int)).bind fun y245 => (if y245.length + ((rd_T49 x0 x4).f0).length < 140737488355328 then ((marigraphref2_Put.f k (y245 ++ ((rd_T49 x0 x4).f0)) (IntKind.u64.wrap ((((rd_T49 x0 x4).f1).length : Int))) 2).bind fun t251 => (if t251.length + ((rd_T49 x0 x4).f1).length < 140737488355328 then (marigraphref4_Batch.l0 k x0 (t251 ++ ((rd_T49 x0 x4).f1)) (wrap64 (x4 + 1))) else (none))) else (none))) else (none)))) else (none)) else (some x3)
def marigraphref4_Batch.f (k : Nat) (l0 : List (S49)) : Option (List Int) := (marigraphref2_Put.f k ([] : List Int) (IntKind.u64.wrap ((l0.length : Int))) 2).bind fun t228 => (marigraphref4_Batch.l0 k l0 t228 0)
theorem marigraphref4_Batch.mono_l : ∀ k, (∀ y0 y1 y2, LeO (marigraphref4_Batch.l0 k y0 y1 y2) (marigraphref4_Batch.l0 (k + 1) y0 y1 y2))
 | 0 => fun _ _ _ r h => by simp [marigraphref4_Batch.l0] at h
 | k + 1 => by
  have ih0 := marigraphref4_Batch.mono_l k
  ·intro y0 y1 y2
   unfold marigraphref4_Batch.l0
   repeat' first
   | (with_reducible exact ih0 _ _ _)
   | (with_reducible exact marigraphref2_Put.mono _ _ _ _)
   | (with_reducible exact LeO.refl _)
   | (with_reducible exact LeO.none _)
   | (with_reducible refine LeO.ite ?_ ?_)
   | (with_reducible refine LeO.bind ?_ (fun _ => ?_))
   | exact ih0 _ _ _
   | exact marigraphref2_Put.mono _ _ _ _
   | exact LeO.none _
   | refine LeO.ite ?_ ?_
   | refine LeO.bind ?_ (fun _ => ?_)
theorem marigraphref4_Batch.mono : ∀ a0 k, LeO (marigraphref4_Batch.f k a0) (marigraphref4_Batch.f (k + 1) a0) := by
 intro a0 k
 have ih0 := marigraphref4_Batch.mono_l k
 unfold marigraphref4_Batch.f
 repeat' first
   | (with_reducible exact ih0 _ _ _)
   | (with_reducible exact marigraphref2_Put.mono _ _ _ _)
   | (with_reducible exact LeO.refl _)
   | (with_reducible exact LeO.none _)
   | (with_reducible refine LeO.ite ?_ ?_)
   | (with_reducible refine LeO.bind ?_ (fun _ => ?_))
   | exact ih0 _ _ _
   | exact marigraphref2_Put.mono _ _ _ _
   | exact LeO.none _
   | refine LeO.ite ?_ ?_
   | refine LeO.bind ?_ (fun _ => ?_)
def marigraphref4_Batch.T7 : Bool × List (List Nat × List Nat) := (true, [([], []), ([], []), ([1], [1]), ([2], [2]), ([3], [3]), ([4], [4]), ([0, 5], [0, 5]), ([], []), ([7], [7]), ([6, 8, 6], [6, 8]), ([9, 9, 0, 1, 2, 3, 4, 5, 6, 7, 8, 9], [0, 9])])
def marigraphref4_Batch.B7 : List Nat := [0, 0, 2, 6, 14, 30, 63, 0, 128, 511, 1023]
theorem marigraphref4_Batch.tab7 : rtab .any (opsOf Try.f34 7) = marigraphref4_Batch.T7 := by kernel_rfl
theorem marigraphref4_Batch.bits7 : waitsOk marigraphref4_Batch.T7.2 marigraphref4_Batch.B7 = true := by kernel_rfl
def marigraphref4_Batch.T8 : Bool × List (List Nat × List Nat) := (true, [([], []), ([], []), ([1], [1]), ([2], [2]), ([3], [3]), ([4], [4]), ([0, 5], [0, 5]), ([], []), ([7], [7]), ([6, 8, 6], [6, 8]), ([9, 9, 0, 1, 2, 3, 4, 5, 6, 7, 8, 9], [0, 9])])
def marigraphref4_Batch.B8 : List Nat := [0, 0, 2, 6, 14, 30, 63, 0, 128, 511, 1023]
theorem marigraphref4_Batch.tab8 : rtab .any (opsOf Try.f34 8) = marigraphref4_Batch.T8 := by kernel_rfl
theorem marigraphref4_Batch.bits8 : waitsOk marigraphref4_Batch.T8.2 marigraphref4_Batch.B8 = true := by kernel_rfl
def marigraphref4_Batch.T9 : Bool × List (List Nat × List Nat) := (true, [([], []), ([], []), ([1], [1]), ([2], [2]), ([3], [3]), ([0, 4], [0, 4]), ([], []), ([6], [6]), ([5, 7, 5], [5, 7]), ([8, 8, 0, 1, 2, 3, 4, 5, 6, 7, 8], [0, 8])])
def marigraphref4_Batch.B9 : List Nat := [0, 0, 2, 6, 14, 31, 0, 64, 255, 511]
theorem marigraphref4_Batch.tab9 : rtab .any (opsOf Try.f34 9) = marigraphref4_Batch.T9 := by kernel_rfl
theorem marigraphref4_Batch.bits9 : waitsOk marigraphref4_Batch.T9.2 marigraphref4_Batch.B9 = true := by kernel_rfl
set_option maxHeartbeats 8000000 in
set_option maxRecDepth 100000 in
theorem marigraphref4_Batch.calls (k : Nat) (A0 : Option Addr) (c0 : Nat) (l0 : List (S49)) (r : List Int) (w : World) (hr0 : Kd.C k49 w A0 l0.length l0) (hc0 : l0.length ≤ c0) (h : marigraphref4_Batch.f k l0 = some r) :
  Calls Try.prog 34 #[.slice A0 l0.length c0] w fun e w' => ∃ v0_ : Value, e = .returned (v0_) ∧ Kd.R (Kd.int .u8) 5 w' w.heap.size (fun _ => True) v0_ r ∧ Below w.heap.size w w' := by
 have hu49 := Try.underlying49
 have HR0 := Aside0.mk hr0
 have HC0 := Aside0.mk hc0
 clear hr0 hc0
 have HB := Aside0.mk (Below.refl w.heap.size w)
 have H : ((marigraphref2_Put.f k ([] : List Int) (IntKind.u64.wrap ((l0.length : Int))) 2).bind fun t228 => (marigraphref4_Batch.l0 k l0 t228 0)) = some r := h
 clear h
 replace H := Option.bind_eq_some_iff.mp H
 obtain ⟨t228, A20, H⟩ := H
 replace H : (marigraphref4_Batch.l0 k l0 t228 0) = some r := H
 have A2 := Aside0.mk A20
 clear A20
 have H' := Aside0.mk H
 clear H
 go_enter Try.func34, Try.ntmps34
 go_wp2_with (first | ((with_reducible refine gate_callee (f := 41) rfl ?_); refine goesL_ (some 9) rfl rfl Try.func41 (by kernel_rfl) rfl #[.slice none 0 0, .int .u64 (IntKind.u64.wrap ((l0.length : Int))), .int .i64 2] rfl argN ?_; (refine (marigraphref2_Put.calls k _ _ ([] : List Int) (IntKind.u64.wrap ((l0.length : Int))) 2 t228 _ ?side1 ?side2 A2.out).mono ?_); (case side1 => exact Kd.C_nil _ _); (case side2 => exact Nat.le_refl _); rintro e w3 ⟨v229, rfl, ho0, hb⟩; refine ⟨_, rfl, ?_⟩; have n0_ := Aside0.mk (Kd.R_lower ho0 (below_size (belN HB.out))); have n1_ := Aside0.mk (below_step (belN HB.out) hb); clear HB; have HO230 := n0_; have HB := n1_; clear n0_ n1_; (try clear hb); (try clear hk); (try clear ho0)))
 go_loopg [3, 4] k (fun kq v3 v4 w' => ∃ (x3_1 : List Int) (x4_1 : Int), v4 = .int .i64 x4_1 ∧ Aside0 (marigraphref4_Batch.l0 kq l0 x3_1 x4_1 = some r) ∧ Aside0 (kq ≤ k) ∧ Aside0 (Kd.R (Kd.int .u8) 5 w' w.heap.size (fun _ => True) v3 x3_1) ∧ Aside0 (Below w.heap.size w w'))
 case atStart => exact ⟨(t228), (0), (by first | rfl | (simp; done) | (simp [*]; done)), H', ⟨Nat.le_refl _⟩, ⟨(rowN HO230.out)⟩, ⟨(belN HB.out)⟩⟩
 case round =>
  clear H'
  try clear p2
  try clear c3
  obtain ⟨x3_1, x4_1, rfl, HA, HK1, HO_3, HB⟩ := hrel
  cases gk with
  | zero => exact absurd HA.out (by simp [marigraphref4_Batch.l0])
  | succ k1 =>
   have H := HA.out
   clear HA
   simp only [marigraphref4_Batch.l0] at H
   by_cases c4 : x4_1 < (l0.length : Int)
   ·rw [if_pos c4] at H
    have c4b0 : decide (x4_1 < (l0.length : Int)) = true := decide_eq_true c4
    clear c4
    by_cases c5 : 0 ≤ x4_1
    ·rw [if_pos c5] at H
     have c5b0 : decide (0 ≤ x4_1) = true := decide_eq_true c5
     clear c5
     obtain ⟨bq6, hbq6⟩ : ∃ b_ : Bool, b_ = ((rd_T49 l0 x4_1).f2) := ⟨_, rfl⟩
     replace H : (if bq6 = true then ((some (([0, ((((rd_T49 l0 x4_1).f0).length : Int)) % 256] : List Int) : List Int)).bind fun y233 => (if x3_1.length + y233.length < 140737488355328 then ((some (x3_1 ++ y233 : List Int)).bind fun y236 => (if y236.length + ((rd_T49 l0 x4_1).f0).length < 140737488355328 then (marigraphref4_Batch.l0 k1 l0 (y236 ++ ((rd_T49 l0 x4_1).f0)) (wrap64 (x4_1 + 1))) else (none))) else (none))) else ((some (([1, ((((rd_T49 l0 x4_1).f0).length : Int)) % 256] : List Int) : List Int)).bind fun y242 => (if x3_1.length + y242.length < 140737488355328 then ((some (x3_1 ++ y242 : List Int)).bind fun y245 => (if y245.length + ((rd_T49 l0 x4_1).f0).length < 140737488355328 then ((marigraphref2_Put.f k1 (y245 ++ ((rd_T49 l0 x4_1).f0)) (IntKind.u64.wrap ((((rd_T49 l0 x4_1).f1).length : Int))) 2).bind fun t251 => (if t251.length + ((rd_T49 l0 x4_1).f1).length < 140737488355328 then (marigraphref4_Batch.l0 k1 l0 (t251 ++ ((rd_T49 l0 x4_1).f1)) (wrap64 (x4_1 + 1))) else (none))) else (none))) else (none)))) = some r := by rw [← hbq6] at H; exact H
     have Nbq6 := Aside0.mk hbq6
     clear hbq6
     by_cases c7 : bq6 = true
     ·subst c7
      have H1 : ((some (([0, ((((rd_T49 l0 x4_1).f0).length : Int)) % 256] : List Int) : List Int)).bind fun y233 => (if x3_1.length + y233.length < 140737488355328 then ((some (x3_1 ++ y233 : List Int)).bind fun y236 => (if y236.length + ((rd_T49 l0 x4_1).f0).length < 140737488355328 then (marigraphref4_Batch.l0 k1 l0 (y236 ++ ((rd_T49 l0 x4_1).f0)) (wrap64 (x4_1 + 1))) else (none))) else (none))) = some r := by rw [if_pos rfl] at H; exact H
      clear H
      have H := H1
      clear H1
      obtain ⟨y233, hy233⟩ : ∃ y_ : List Int, y_ = (([0, ((((rd_T49 l0 x4_1).f0).length : Int)) % 256] : List Int)) := ⟨_, rfl⟩
      replace H : (if x3_1.length + y233.length < 140737488355328 then ((some (x3_1 ++ y233 : List Int)).bind fun y236 => (if y236.length + ((rd_T49 l0 x4_1).f0).length < 140737488355328 then (marigraphref4_Batch.l0 k1 l0 (y236 ++ ((rd_T49 l0 x4_1).f0)) (wrap64 (x4_1 + 1))) else (none))) else (none)) = some r := by first | (rw [hy233]; with_reducible exact H) | (have H2_ := (Option.bind_some _ _).symm.trans H; rw [hy233]; with_reducible exact H2_) | (have H2_ := (Option.bind_some _ _).symm.trans H; with_reducible exact H2_) | with_reducible exact H | (rw [hy233]; exact H) | exact H
      have Ny233 := Aside0.mk hy233
      clear hy233
      by_cases c8 : x3_1.length + y233.length < 140737488355328
      ·rw [if_pos c8] at H
       have LMc8 := Aside0.mk c8
       clear c8
       obtain ⟨y236, hy236⟩ : ∃ y_ : List Int, y_ = (x3_1 ++ y233) := ⟨_, rfl⟩
       replace H : (if y236.length + ((rd_T49 l0 x4_1).f0).length < 140737488355328 then (marigraphref4_Batch.l0 k1 l0 (y236 ++ ((rd_T49 l0 x4_1).f0)) (wrap64 (x4_1 + 1))) else (none)) = some r := by first | (rw [hy236]; with_reducible exact H) | (have H2_ := (Option.bind_some _ _).symm.trans H; rw [hy236]; with_reducible exact H2_) | (have H2_ := (Option.bind_some _ _).symm.trans H; with_reducible exact H2_) | with_reducible exact H | (rw [hy236]; exact H) | exact H
       have Ny236 := Aside0.mk hy236
       clear hy236
       by_cases c9 : y236.length + ((rd_T49 l0 x4_1).f0).length < 140737488355328
       ·rw [if_pos c9] at H
        have LMc9 := Aside0.mk c9
        clear c9
        obtain ⟨y239, hy239⟩ : ∃ y_ : List Int, y_ = (y236 ++ ((rd_T49 l0 x4_1).f0)) := ⟨_, rfl⟩
        replace H : (marigraphref4_Batch.l0 k1 l0 y239 (wrap64 (x4_1 + 1))) = some r := by first | (rw [hy239]; with_reducible exact H) | (have H2_ := (Option.bind_some _ _).symm.trans H; rw [hy239]; with_reducible exact H2_) | (have H2_ := (Option.bind_some _ _).symm.trans H; with_reducible exact H2_) | with_reducible exact H | (rw [hy239]; exact H) | exact H
        have Ny239 := Aside0.mk hy239
        clear hy239
        have H' := Aside0.mk H
        clear H
        have p231 : 0 ≤ (x4_1 : Int) := of_decide_eq_true (by first | (with_reducible assumption) | assumption)
        have q231 : x4_1 < (l0.length : Int) := of_decide_eq_true (by first | (with_reducible assumption) | assumption)
        obtain ⟨ad231, A231_0, c231_0, A231_1, c231_1, e231, hx231_0, hx231_1, hx231_2, hl231_0, hi231_0, hl231_1, hi231_1⟩ := at_T49 HR0.out x4_1 p231 q231
        (try rw [← Nbq6.out] at hx231_2)
        cases e231
        replace hx231_0 := cellB HB.out hx231_0
        replace hx231_1 := cellB HB.out hx231_1
        replace hx231_2 := cellB HB.out hx231_2
        have HR231_0 := Aside0.mk hi231_0
        have HC231_0 := Aside0.mk hl231_0
        clear hi231_0 hl231_0
        have HR231_1 := Aside0.mk hi231_1
        have HC231_1 := Aside0.mk hl231_1
        clear hi231_1 hl231_1
        replace p231 := eq_true p231
        replace q231 := eq_true q231
        try go_wp2_with (first | ((with_reducible refine gate_dst (N := 5) rfl ?_); refine box_event ?hg (N := 5) ?hd (cs := #[.slice none 0 0, .slice none 0 0, .bool false]) (t := 49) ?hr ?_; (case hd => rfl); (case hg => rfl); (case hr => first | (go_simp; done) | (go_simp; rfl)); intro gb232 hg w10 hbox hb; have n0_ := Aside0.mk (Kd.R_below (rowN HO_3.out) hb); have n1_ := Aside0.mk (below_step (belN HB.out) hb); have n2_ := Aside0.mk (hbox); have n3_ := Aside0.mk (szB hg HB.out); have n4_ := Aside0.mk (szB hg HB.out); clear HO_3; clear HB; have HO_3 := n0_; have HB := n1_; have BK232 := n2_; have GW232 := n3_; have GE232 := n4_; clear n0_ n1_ n2_ n3_ n4_; clear hb hbox hg; have hcz11_0 : w10.cell? ⟨gb232, 0, none⟩ = some (.slice none 0 0) := (blk_cell BK232.out 0).trans rfl; have hcz11_1 : w10.cell? ⟨gb232, 1, none⟩ = some (.slice none 0 0) := (blk_cell BK232.out 1).trans rfl; have hcz11_2 : w10.cell? ⟨gb232, 2, none⟩ = some (.bool false) := (blk_cell BK232.out 2).trans rfl; have hfz11_0 := blk_frozen BK232.out 0; have hfz11_1 := blk_frozen BK232.out 1; have hfz11_2 := blk_frozen BK232.out 2))
        have n0_ : Aside0 (Kd.R (Kd.int .u8) 5 (((w10.setCell ⟨gb232, 0, none⟩ (.slice A231_0 ((rd_T49 l0 x4_1).f0).length c231_0)).setCell ⟨gb232, 1, none⟩ (.slice A231_1 ((rd_T49 l0 x4_1).f1).length c231_1)).setCell ⟨gb232, 2, none⟩ (.bool true)) w.heap.size (fun _ => True) u3 x3_1) := ⟨by (with_reducible repeat (first | apply Kd.R_alloc | apply Kd.R_drewN | apply Kd.R_drew)); exact Kd.R_mono (Kd.R_far (p := ⟨gb232, 2, none⟩) (Kd.R_far (p := ⟨gb232, 1, none⟩) (Kd.R_far (p := ⟨gb232, 0, none⟩) (Kd.R_types HO_3.out BK232.out (by decide)) (fun _ hk => hk.2) (.slice A231_0 ((rd_T49 l0 x4_1).f0).length c231_0)) (fun _ hk => hk.2) (.slice A231_1 ((rd_T49 l0 x4_1).f1).length c231_1)) (fun _ hk => hk.2) (.bool true)) (fun _ hk => trivial)⟩
        have n1_ : Aside0 ((((w10.setCell ⟨gb232, 0, none⟩ (.slice A231_0 ((rd_T49 l0 x4_1).f0).length c231_0)).setCell ⟨gb232, 1, none⟩ (.slice A231_1 ((rd_T49 l0 x4_1).f1).length c231_1)).setCell ⟨gb232, 2, none⟩ (.bool true)).heap[gb232]? = some (.cells #[.slice A231_0 ((rd_T49 l0 x4_1).f0).length c231_0, .slice A231_1 ((rd_T49 l0 x4_1).f1).length c231_1, .bool true] 49 (0, 0))) := ⟨by (with_reducible repeat (first | refine blk_drewN ?_ _ | refine blk_drew ?_ | refine blk_alloc ?_ _)); refine blk_put (cs := #[.slice A231_0 ((rd_T49 l0 x4_1).f0).length c231_0, .slice A231_1 ((rd_T49 l0 x4_1).f1).length c231_1, .bool false]) ?_ 2 _ rfl; (with_reducible repeat (first | refine blk_drewN ?_ _ | refine blk_drew ?_ | refine blk_alloc ?_ _)); refine blk_put (cs := #[.slice A231_0 ((rd_T49 l0 x4_1).f0).length c231_0, .slice none 0 0, .bool false]) ?_ 1 _ rfl; (with_reducible repeat (first | refine blk_drewN ?_ _ | refine blk_drew ?_ | refine blk_alloc ?_ _)); refine blk_put (cs := #[.slice none 0 0, .slice none 0 0, .bool false]) ?_ 0 _ rfl; (with_reducible repeat (first | refine blk_drewN ?_ _ | refine blk_drew ?_ | refine blk_alloc ?_ _)); exact BK232.out⟩
        have n2_ : Aside0 (Below w.heap.size w (((w10.setCell ⟨gb232, 0, none⟩ (.slice A231_0 ((rd_T49 l0 x4_1).f0).length c231_0)).setCell ⟨gb232, 1, none⟩ (.slice A231_1 ((rd_T49 l0 x4_1).f1).length c231_1)).setCell ⟨gb232, 2, none⟩ (.bool true))) := ⟨(belS HB.out)⟩
        (try clear HO_3)
        (try clear BK232)
        (try clear HB)
        generalize (((w10.setCell ⟨gb232, 0, none⟩ (.slice A231_0 ((rd_T49 l0 x4_1).f0).length c231_0)).setCell ⟨gb232, 1, none⟩ (.slice A231_1 ((rd_T49 l0 x4_1).f1).length c231_1)).setCell ⟨gb232, 2, none⟩ (.bool true)) = w12 at n0_ n1_ n2_ ⊢
        have HO_3 := n0_
        have BK232 := n1_
        have HB := n2_
        clear n0_ n1_ n2_
        have n0_ := Aside0.mk (Kd.R_drew HO_3.out)
        have n1_ := Aside0.mk (blk_drew BK232.out)
        have n2_ := Aside0.mk (below_drew1 HB.out)
        clear HO_3
        clear BK232
        clear HB
        have HO_3 := n0_
        have BK232 := n1_
        have HB := n2_
        clear n0_ n1_ n2_
        refine start_ (n := 11) (S := fun w' => w'.cell? ⟨gb232, 0, none⟩ = some (.slice A231_0 ((rd_T49 l0 x4_1).f0).length c231_0) ∧ w'.cell? ⟨gb232, 1, none⟩ = some (.slice A231_1 ((rd_T49 l0 x4_1).f1).length c231_1) ∧ w'.cell? ⟨gb232, 2, none⟩ = some (.bool true)) (ds := []) #[false, false, false, false, false, false, false, false, false, false, false] (by kernel_rfl) rfl rfl ⟨(blk_cell BK232.out 0).trans rfl, (blk_cell BK232.out 1).trans rfl, (blk_cell BK232.out 2).trans rfl⟩ (fun hHeld => ?_); refine with_tabW marigraphref4_Batch.tab7 marigraphref4_Batch.bits7 (fun HT_ HW_ => ?_)
        generalize w12.drew = w13 at HO_3 BK232 HB hHeld ⊢
        refine pA 0 (some 22) (bA 11 1) HT_.out ?_
        refine pA 1 (some 23) (bA 11 3) HT_.out ?_
        refine pA 7 (some 29) (bA 11 131) HT_.out ?_
        refine take_ (i := 2) (N := some 24) (v := ?_) (a' := ?_) (bA 11 135) rfl rfl (take_ofW HT_.out HW_.out (by kernel_rfl)) (fun _ _ _ h => h) (Or.inl ⟨by rfl, ?_⟩) hHeld ?_ ?_
        rotate_left
        ·rintro w' ⟨s0, s1, s2⟩
         go_simp
         with_reducible rfl
        rotate_left
        ·simp only [Act.put, List.setIfInBounds_toArray, List.set_cons_zero, List.set_cons_succ, i64_w, i32_w]
         rfl
        refine pA 3 (some 25) (bA 11 143) HT_.out ?_
        refine pA 4 (some 26) (bA 11 159) HT_.out ?_
        refine take_ (i := 8) (N := some 30) (v := ?_) (a' := ?_) (bA 11 415) rfl rfl (take_ofW HT_.out HW_.out (by kernel_rfl)) (fun _ _ _ h => h) (Or.inl ⟨by rfl, ?_⟩) hHeld ?_ ?_
        rotate_left
        ·rintro w' ⟨s0, s1, s2⟩
         go_simp
         with_reducible rfl
        rotate_left
        ·simp only [Act.put, List.setIfInBounds_toArray, List.set_cons_zero, List.set_cons_succ, i64_w, i32_w]
         rfl
        refine one_ (i := 5) (N := some 27) (bA 11 447) rfl rfl (one_of HT_.out (by kernel_rfl)) (by decide) (fun K hK => ?_)
        refine Kd.R_lit_step (Kd.int .u8) _ 5 ?hg (N := 27) ?hd (xs := ([0, ((((rd_T49 l0 x4_1).f0).length : Int)) % 256] : List Int)) (inner := [.int .u8 0, .int .u8 (((((rd_T49 l0 x4_1).f0).length : Int)) % 256)]) (ok := fun _ => True) (okp := fun _ => True) ?hr ?hp (fun _ hk => hk) trivial (Below.refl _ _) (Nat.le_refl _) (by simp) ?_; (case hd => rfl); (case hg => rfl); (case hr => first | (go_simp; done) | (go_simp; rfl)); (case hp => exact (Reps.one (show Kd.M (Kd.int .u8) _ _ _ 0 [.int .u8 0] from rfl) (Reps.one (show Kd.M (Kd.int .u8) _ _ _ (((((rd_T49 l0 x4_1).f0).length : Int)) % 256) [.int .u8 (((((rd_T49 l0 x4_1).f0).length : Int)) % 256)] from rfl) (Reps.none _ _))))
        intro v234 w14 ho15 hb hg_ hnew_
        clear hg_ hnew_
        (first | rw [← Ny233.out] at ho15 | (simp only [Int.reduceToNat] at ho15; rw [← Ny233.out] at ho15))
        have n0_ := Aside0.mk (Kd.R_elder' (rowN HO_3.out) (Kd.R_base ho15) hb)
        have n1_ := Aside0.mk (Kd.R_lower (Kd.R_new' ho15 (Kd.R_lt (rowN HO_3.out))) (below_size (belS HB.out)))
        have n2_ := Aside0.mk (bkB BK232.out hb)
        have n3_ := Aside0.mk (below_step (belS HB.out) hb)
        clear HO_3
        clear BK232
        clear HB
        have HO_3 := n0_
        have HO235 := n1_
        have BK232 := n2_
        have HB := n3_
        clear n0_ n1_ n2_ n3_
        clear hb ho15
        obtain ⟨Ao17, co17, eo17⟩ := Kd.R_slice HO235.out
        (first | subst eo17 | (injection eo17 with f1_ f2_ f3_; have f4_ := f1_.symm; have f5_ := f3_.symm; clear f1_ f2_ f3_; subst f4_; subst f5_))
        refine hK.out _ _ ⟨(blk_cell BK232.out 0).trans rfl, (blk_cell BK232.out 1).trans rfl, (blk_cell BK232.out 2).trans rfl⟩ (fun hHeld => ?_)
        clear hK K
        refine norm_ (a' := ?_) ?_ ?_
        rotate_left
        ·show Act.put _ (some 27) _ = _
         simp only [Act.put, List.setIfInBounds_toArray, List.set_cons_zero, List.set_cons_succ, i64_w, i32_w]
         rfl
        refine one_ (i := 6) (N := some 28) (bA 11 511) rfl rfl (one_of HT_.out (by kernel_rfl)) (by decide) (fun K hK => ?_)
        refine Kd.R_append_rows_step (Kd.int .u8) (w0 := w) w.heap.size (by rfl) (.tmp 22) (.tmp 27) 23 5 (.int .u8 0) 1 rfl Try.underlying23 info5 rfl (by decide) (by omega) u3 x3_1 y233 _ _ _ (fun k_ => some k_ ≠ (.slice Ao17 y233.length co17 : Value).ownBlock) (fun _ => False) rfl rfl ?aO ?aR (fun _ _ h => h) (fun _ h => h.elim) ?aF ?aB ?aS ?aL ?_
        (case aR => repeat (first | exact (Kd.R_reads' HO235.out).2.2 | (with_reducible refine Kd.C_alloc ?_ _) | (with_reducible refine Kd.C_drewN ?_ _) | (with_reducible refine Kd.C_drew ?_)))
        (case aB => exact (belS HB.out))
        (case aF => exact (fun k_ hk => Kd.fresh' (Kd.R_lt (rowN HO235.out)) k_ hk))
        (case aO => exact (by (with_reducible repeat (first | apply Kd.R_alloc | apply Kd.R_drewN | apply Kd.R_drew)); exact Kd.R_mono HO_3.out (fun _ hk => hk.2)))
        (case aS => exact (below_size (belS HB.out)))
        (case aL => have := LMc8.out; omega)
        intro v237 w16 ho hb hg hat
        rw [← Ny236.out] at ho
        have n0_ := Aside0.mk (blk_grown (g := gb232) (o := .cells #[.slice A231_0 ((rd_T49 l0 x4_1).f0).length c231_0, .slice A231_1 ((rd_T49 l0 x4_1).f1).length c231_1, .bool true] 49 (0, 0)) (blkN BK232.out) hg (Kd.R_ne HO_3.out BK232.out (by decide)))
        have n1_ := Aside0.mk (Kd.R_after (ok := (fun _ => True)) (rowN HO235.out) hg hat)
        have n2_ := Aside0.mk (hb)
        have n3_ := Aside0.mk (ho)
        clear BK232
        clear HO235
        clear HB
        clear HO_3
        have BK232 := n0_
        have HO235 := n1_
        have HB := n2_
        have HO238 := n3_
        clear n0_ n1_ n2_ n3_
        clear ho hb hg hat
        refine hK.out _ _ ⟨(blk_cell BK232.out 0).trans rfl, (blk_cell BK232.out 1).trans rfl, (blk_cell BK232.out 2).trans rfl⟩ (fun hHeld => ?_)
        clear hK K
        refine norm_ (a' := ?_) ?_ ?_
        rotate_left
        ·show Act.put _ (some 28) _ = _
         simp only [Act.put, List.setIfInBounds_toArray, List.set_cons_zero, List.set_cons_succ, i64_w, i32_w]
         rfl
        refine one_ (i := 9) (N := some 31) (bA 11 1023) rfl rfl (one_of HT_.out (by kernel_rfl)) (by decide) (fun K hK => ?_)
        refine Kd.R_append_rows_step (Kd.int .u8) (w0 := w) w.heap.size (by rfl) (.tmp 28) (.tmp 30) 23 5 (.int .u8 0) 1 rfl Try.underlying23 info5 rfl (by decide) (by omega) v237 y236 ((rd_T49 l0 x4_1).f0) _ _ _ (fun k_ => some k_ ≠ (.slice Ao17 y233.length co17 : Value).ownBlock) (fun _ => False) rfl rfl ?aO ?aR (fun _ _ h => h) (fun _ h => h.elim) ?aF ?aB ?aS ?aL ?_
        (case aR => repeat (first | exact (Kd.C_below HR231_0.out HB.out) | (with_reducible refine Kd.C_alloc ?_ _) | (with_reducible refine Kd.C_drewN ?_ _) | (with_reducible refine Kd.C_drew ?_)))
        (case aB => exact (belS HB.out))
        (case aF => exact (fun k_ hk => Kd.fresh' (Kd.R_lt (rowN HO235.out)) k_ hk))
        (case aO => exact (rowN HO238.out))
        (case aS => exact (below_size (belS HB.out)))
        (case aL => have := LMc9.out; omega)
        intro v240 w18 ho hb hg hat
        rw [← Ny239.out] at ho
        have n0_ := Aside0.mk (blk_grown (g := gb232) (o := .cells #[.slice A231_0 ((rd_T49 l0 x4_1).f0).length c231_0, .slice A231_1 ((rd_T49 l0 x4_1).f1).length c231_1, .bool true] 49 (0, 0)) (blkN BK232.out) hg (Kd.R_ne HO238.out BK232.out (by decide)))
        have n1_ := Aside0.mk (Kd.R_after (ok := (fun _ => True)) (rowN HO235.out) hg hat)
        have n2_ := Aside0.mk (hb)
        have n3_ := Aside0.mk (ho)
        clear BK232
        clear HO235
        clear HB
        clear HO238
        have BK232 := n0_
        have HO235 := n1_
        have HB := n2_
        have HO241 := n3_
        clear n0_ n1_ n2_ n3_
        clear ho hb hg hat
        refine hK.out _ _ ⟨(blk_cell BK232.out 0).trans rfl, (blk_cell BK232.out 1).trans rfl, (blk_cell BK232.out 2).trans rfl⟩ (fun hHeld => ?_)
        clear hK K
        refine norm_ (a' := ?_) ?_ ?_
        rotate_left
        ·show Act.put _ (some 31) _ = _
         simp only [Act.put, List.setIfInBounds_toArray, List.set_cons_zero, List.set_cons_succ, i64_w, i32_w]
         rfl
        refine pA 10 (some 3) (bA 11 2047) HT_.out ?_
        refine done_ (done_of HT_.out (by kernel_rfl)) ?_
        try go_wp2
        go_roundg k1
        case measure => have := HK1.out; omega
        case rel => exact ⟨(y239), (wrap64 (x4_1 + 1)), (by first | rfl | (simp; done) | (simp [*]; done)), H', ⟨by have := HK1.out; omega⟩, ⟨by (with_reducible repeat (first | apply Kd.R_alloc | apply Kd.R_drewN | apply Kd.R_drew)); exact Kd.R_mono HO241.out (fun _ hk => trivial)⟩, ⟨(belS HB.out)⟩⟩
       ·rw [if_neg c9] at H
        exact absurd H (by simp)
      ·rw [if_neg c8] at H
       exact absurd H (by simp)
     ·replace c7 := Bool.eq_false_iff.mpr c7
      subst c7
      have H1 : ((some (([1, ((((rd_T49 l0 x4_1).f0).length : Int)) % 256] : List Int) : List Int)).bind fun y242 => (if x3_1.length + y242.length < 140737488355328 then ((some (x3_1 ++ y242 : List Int)).bind fun y245 => (if y245.length + ((rd_T49 l0 x4_1).f0).length < 140737488355328 then ((marigraphref2_Put.f k1 (y245 ++ ((rd_T49 l0 x4_1).f0)) (IntKind.u64.wrap ((((rd_T49 l0 x4_1).f1).length : Int))) 2).bind fun t251 => (if t251.length + ((rd_T49 l0 x4_1).f1).length < 140737488355328 then (marigraphref4_Batch.l0 k1 l0 (t251 ++ ((rd_T49 l0 x4_1).f1)) (wrap64 (x4_1 + 1))) else (none))) else (none))) else (none))) = some r := by rw [if_neg (show ¬ (false = true) by decide)] at H; exact H
      clear H
      have H := H1
      clear H1
      obtain ⟨y242, hy242⟩ : ∃ y_ : List Int, y_ = (([1, ((((rd_T49 l0 x4_1).f0).length : Int)) % 256] : List Int)) := ⟨_, rfl⟩
      replace H : (if x3_1.length + y242.length < 140737488355328 then ((some (x3_1 ++ y242 : List Int)).bind fun y245 => (if y245.length + ((rd_T49 l0 x4_1).f0).length < 140737488355328 then ((marigraphref2_Put.f k1 (y245 ++ ((rd_T49 l0 x4_1).f0)) (IntKind.u64.wrap ((((rd_T49 l0 x4_1).f1).length : Int))) 2).bind fun t251 => (if t251.length + ((rd_T49 l0 x4_1).f1).length < 140737488355328 then (marigraphref4_Batch.l0 k1 l0 (t251 ++ ((rd_T49 l0 x4_1).f1)) (wrap64 (x4_1 + 1))) else (none))) else (none))) else (none)) = some r := by first | (rw [hy242]; with_reducible exact H) | (have H2_ := (Option.bind_some _ _).symm.trans H; rw [hy242]; with_reducible exact H2_) | (have H2_ := (Option.bind_some _ _).symm.trans H; with_reducible exact H2_) | with_reducible exact H | (rw [hy242]; exact H) | exact H
      have Ny242 := Aside0.mk hy242
      clear hy242
      by_cases c19 : x3_1.length + y242.length < 140737488355328
      ·rw [if_pos c19] at H
       have LMc19 := Aside0.mk c19
       clear c19
       obtain ⟨y245, hy245⟩ : ∃ y_ : List Int, y_ = (x3_1 ++ y242) := ⟨_, rfl⟩
       replace H : (if y245.length + ((rd_T49 l0 x4_1).f0).length < 140737488355328 then ((marigraphref2_Put.f k1 (y245 ++ ((rd_T49 l0 x4_1).f0)) (IntKind.u64.wrap ((((rd_T49 l0 x4_1).f1).length : Int))) 2).bind fun t251 => (if t251.length + ((rd_T49 l0 x4_1).f1).length < 140737488355328 then (marigraphref4_Batch.l0 k1 l0 (t251 ++ ((rd_T49 l0 x4_1).f1)) (wrap64 (x4_1 + 1))) else (none))) else (none)) = some r := by first | (rw [hy245]; with_reducible exact H) | (have H2_ := (Option.bind_some _ _).symm.trans H; rw [hy245]; with_reducible exact H2_) | (have H2_ := (Option.bind_some _ _).symm.trans H; with_reducible exact H2_) | with_reducible exact H | (rw [hy245]; exact H) | exact H
       have Ny245 := Aside0.mk hy245
       clear hy245
       by_cases c20 : y245.length + ((rd_T49 l0 x4_1).f0).length < 140737488355328
       ·rw [if_pos c20] at H
        have LMc20 := Aside0.mk c20
        clear c20
        obtain ⟨y248, hy248⟩ : ∃ y_ : List Int, y_ = (y245 ++ ((rd_T49 l0 x4_1).f0)) := ⟨_, rfl⟩
        replace H : ((marigraphref2_Put.f k1 y248 (IntKind.u64.wrap ((((rd_T49 l0 x4_1).f1).length : Int))) 2).bind fun t251 => (if t251.length + ((rd_T49 l0 x4_1).f1).length < 140737488355328 then (marigraphref4_Batch.l0 k1 l0 (t251 ++ ((rd_T49 l0 x4_1).f1)) (wrap64 (x4_1 + 1))) else (none))) = some r := by first | (rw [hy248]; with_reducible exact H) | (have H2_ := (Option.bind_some _ _).symm.trans H; rw [hy248]; with_reducible exact H2_) | (have H2_ := (Option.bind_some _ _).symm.trans H; with_reducible exact H2_) | with_reducible exact H | (rw [hy248]; exact H) | exact H
        have Ny248 := Aside0.mk hy248
        clear hy248
        replace H := Option.bind_eq_some_iff.mp H
        obtain ⟨t251, A210, H⟩ := H
        replace H : (if t251.length + ((rd_T49 l0 x4_1).f1).length < 140737488355328 then (marigraphref4_Batch.l0 k1 l0 (t251 ++ ((rd_T49 l0 x4_1).f1)) (wrap64 (x4_1 + 1))) else (none)) = some r := H
        have A21 := Aside0.mk A210
        clear A210
        by_cases c22 : t251.length + ((rd_T49 l0 x4_1).f1).length < 140737488355328
        ·rw [if_pos c22] at H
         have LMc22 := Aside0.mk c22
         clear c22
         obtain ⟨y254, hy254⟩ : ∃ y_ : List Int, y_ = (t251 ++ ((rd_T49 l0 x4_1).f1)) := ⟨_, rfl⟩
         replace H : (marigraphref4_Batch.l0 k1 l0 y254 (wrap64 (x4_1 + 1))) = some r := by first | (rw [hy254]; with_reducible exact H) | (have H2_ := (Option.bind_some _ _).symm.trans H; rw [hy254]; with_reducible exact H2_) | (have H2_ := (Option.bind_some _ _).symm.trans H; with_reducible exact H2_) | with_reducible exact H | (rw [hy254]; exact H) | exact H
         have Ny254 := Aside0.mk hy254
         clear hy254
         have H' := Aside0.mk H
         clear H
         have p231 : 0 ≤ (x4_1 : Int) := of_decide_eq_true (by first | (with_reducible assumption) | assumption)
         have q231 : x4_1 < (l0.length : Int) := of_decide_eq_true (by first | (with_reducible assumption) | assumption)
         obtain ⟨ad231, A231_0, c231_0, A231_1, c231_1, e231, hx231_0, hx231_1, hx231_2, hl231_0, hi231_0, hl231_1, hi231_1⟩ := at_T49 HR0.out x4_1 p231 q231
         (try rw [← Nbq6.out] at hx231_2)
         cases e231
         replace hx231_0 := cellB HB.out hx231_0
         replace hx231_1 := cellB HB.out hx231_1
         replace hx231_2 := cellB HB.out hx231_2
         have HR231_0 := Aside0.mk hi231_0
         have HC231_0 := Aside0.mk hl231_0
         clear hi231_0 hl231_0
         have HR231_1 := Aside0.mk hi231_1
         have HC231_1 := Aside0.mk hl231_1
         clear hi231_1 hl231_1
         replace p231 := eq_true p231
         replace q231 := eq_true q231
         try go_wp2_with (first | ((with_reducible refine gate_dst (N := 5) rfl ?_); refine box_event ?hg (N := 5) ?hd (cs := #[.slice none 0 0, .slice none 0 0, .bool false]) (t := 49) ?hr ?_; (case hd => rfl); (case hg => rfl); (case hr => first | (go_simp; done) | (go_simp; rfl)); intro gb232 hg w23 hbox hb; have n0_ := Aside0.mk (Kd.R_below (rowN HO_3.out) hb); have n1_ := Aside0.mk (below_step (belN HB.out) hb); have n2_ := Aside0.mk (hbox); have n3_ := Aside0.mk (szB hg HB.out); have n4_ := Aside0.mk (szB hg HB.out); clear HO_3; clear HB; have HO_3 := n0_; have HB := n1_; have BK232 := n2_; have GW232 := n3_; have GE232 := n4_; clear n0_ n1_ n2_ n3_ n4_; clear hb hbox hg; have hcz24_0 : w23.cell? ⟨gb232, 0, none⟩ = some (.slice none 0 0) := (blk_cell BK232.out 0).trans rfl; have hcz24_1 : w23.cell? ⟨gb232, 1, none⟩ = some (.slice none 0 0) := (blk_cell BK232.out 1).trans rfl; have hcz24_2 : w23.cell? ⟨gb232, 2, none⟩ = some (.bool false) := (blk_cell BK232.out 2).trans rfl; have hfz24_0 := blk_frozen BK232.out 0; have hfz24_1 := blk_frozen BK232.out 1; have hfz24_2 := blk_frozen BK232.out 2))
         have n0_ : Aside0 (Kd.R (Kd.int .u8) 5 (((w23.setCell ⟨gb232, 0, none⟩ (.slice A231_0 ((rd_T49 l0 x4_1).f0).length c231_0)).setCell ⟨gb232, 1, none⟩ (.slice A231_1 ((rd_T49 l0 x4_1).f1).length c231_1)).setCell ⟨gb232, 2, none⟩ (.bool false)) w.heap.size (fun _ => True) u3 x3_1) := ⟨by (with_reducible repeat (first | apply Kd.R_alloc | apply Kd.R_drewN | apply Kd.R_drew)); exact Kd.R_mono (Kd.R_far (p := ⟨gb232, 2, none⟩) (Kd.R_far (p := ⟨gb232, 1, none⟩) (Kd.R_far (p := ⟨gb232, 0, none⟩) (Kd.R_types HO_3.out BK232.out (by decide)) (fun _ hk => hk.2) (.slice A231_0 ((rd_T49 l0 x4_1).f0).length c231_0)) (fun _ hk => hk.2) (.slice A231_1 ((rd_T49 l0 x4_1).f1).length c231_1)) (fun _ hk => hk.2) (.bool false)) (fun _ hk => trivial)⟩
         have n1_ : Aside0 ((((w23.setCell ⟨gb232, 0, none⟩ (.slice A231_0 ((rd_T49 l0 x4_1).f0).length c231_0)).setCell ⟨gb232, 1, none⟩ (.slice A231_1 ((rd_T49 l0 x4_1).f1).length c231_1)).setCell ⟨gb232, 2, none⟩ (.bool false)).heap[gb232]? = some (.cells #[.slice A231_0 ((rd_T49 l0 x4_1).f0).length c231_0, .slice A231_1 ((rd_T49 l0 x4_1).f1).length c231_1, .bool false] 49 (0, 0))) := ⟨by (with_reducible repeat (first | refine blk_drewN ?_ _ | refine blk_drew ?_ | refine blk_alloc ?_ _)); refine blk_put (cs := #[.slice A231_0 ((rd_T49 l0 x4_1).f0).length c231_0, .slice A231_1 ((rd_T49 l0 x4_1).f1).length c231_1, .bool false]) ?_ 2 _ rfl; (with_reducible repeat (first | refine blk_drewN ?_ _ | refine blk_drew ?_ | refine blk_alloc ?_ _)); refine blk_put (cs := #[.slice A231_0 ((rd_T49 l0 x4_1).f0).length c231_0, .slice none 0 0, .bool false]) ?_ 1 _ rfl; (with_reducible repeat (first | refine blk_drewN ?_ _ | refine blk_drew ?_ | refine blk_alloc ?_ _)); refine blk_put (cs := #[.slice none 0 0, .slice none 0 0, .bool false]) ?_ 0 _ rfl; (with_reducible repeat (first | refine blk_drewN ?_ _ | refine blk_drew ?_ | refine blk_alloc ?_ _)); exact BK232.out⟩
         have n2_ : Aside0 (Below w.heap.size w (((w23.setCell ⟨gb232, 0, none⟩ (.slice A231_0 ((rd_T49 l0 x4_1).f0).length c231_0)).setCell ⟨gb232, 1, none⟩ (.slice A231_1 ((rd_T49 l0 x4_1).f1).length c231_1)).setCell ⟨gb232, 2, none⟩ (.bool false))) := ⟨(belS HB.out)⟩
         (try clear HO_3)
         (try clear BK232)
         (try clear HB)
         generalize (((w23.setCell ⟨gb232, 0, none⟩ (.slice A231_0 ((rd_T49 l0 x4_1).f0).length c231_0)).setCell ⟨gb232, 1, none⟩ (.slice A231_1 ((rd_T49 l0 x4_1).f1).length c231_1)).setCell ⟨gb232, 2, none⟩ (.bool false)) = w25 at n0_ n1_ n2_ ⊢
         have HO_3 := n0_
         have BK232 := n1_
         have HB := n2_
         clear n0_ n1_ n2_
         have n0_ := Aside0.mk (Kd.R_drew HO_3.out)
         have n1_ := Aside0.mk (blk_drew BK232.out)
         have n2_ := Aside0.mk (below_drew1 HB.out)
         clear HO_3
         clear BK232
         clear HB
         have HO_3 := n0_
         have BK232 := n1_
         have HB := n2_
         clear n0_ n1_ n2_
         refine start_ (n := 11) (S := fun w' => w'.cell? ⟨gb232, 0, none⟩ = some (.slice A231_0 ((rd_T49 l0 x4_1).f0).length c231_0) ∧ w'.cell? ⟨gb232, 1, none⟩ = some (.slice A231_1 ((rd_T49 l0 x4_1).f1).length c231_1) ∧ w'.cell? ⟨gb232, 2, none⟩ = some (.bool false)) (ds := []) #[false, false, false, false, false, false, false, false, false, false, false] (by kernel_rfl) rfl rfl ⟨(blk_cell BK232.out 0).trans rfl, (blk_cell BK232.out 1).trans rfl, (blk_cell BK232.out 2).trans rfl⟩ (fun hHeld => ?_); refine with_tabW marigraphref4_Batch.tab8 marigraphref4_Batch.bits8 (fun HT_ HW_ => ?_)
         generalize w25.drew = w26 at HO_3 BK232 HB hHeld ⊢
         refine pA 0 (some 32) (bA 11 1) HT_.out ?_
         refine pA 1 (some 33) (bA 11 3) HT_.out ?_
         refine pA 7 (some 39) (bA 11 131) HT_.out ?_
         refine take_ (i := 2) (N := some 34) (v := ?_) (a' := ?_) (bA 11 135) rfl rfl (take_ofW HT_.out HW_.out (by kernel_rfl)) (fun _ _ _ h => h) (Or.inl ⟨by rfl, ?_⟩) hHeld ?_ ?_
         rotate_left
         ·rintro w' ⟨s0, s1, s2⟩
          go_simp
          with_reducible rfl
         rotate_left
         ·simp only [Act.put, List.setIfInBounds_toArray, List.set_cons_zero, List.set_cons_succ, i64_w, i32_w]
          rfl
         refine pA 3 (some 35) (bA 11 143) HT_.out ?_
         refine pA 4 (some 36) (bA 11 159) HT_.out ?_
         refine take_ (i := 8) (N := some 40) (v := ?_) (a' := ?_) (bA 11 415) rfl rfl (take_ofW HT_.out HW_.out (by kernel_rfl)) (fun _ _ _ h => h) (Or.inl ⟨by rfl, ?_⟩) hHeld ?_ ?_
         rotate_left
         ·rintro w' ⟨s0, s1, s2⟩
          go_simp
          with_reducible rfl
         rotate_left
         ·simp only [Act.put, List.setIfInBounds_toArray, List.set_cons_zero, List.set_cons_succ, i64_w, i32_w]
          rfl
         refine one_ (i := 5) (N := some 37) (bA 11 447) rfl rfl (one_of HT_.out (by kernel_rfl)) (by decide) (fun K hK => ?_)
         refine Kd.R_lit_step (Kd.int .u8) _ 5 ?hg (N := 37) ?hd (xs := ([1, ((((rd_T49 l0 x4_1).f0).length : Int)) % 256] : List Int)) (inner := [.int .u8 1, .int .u8 (((((rd_T49 l0 x4_1).f0).length : Int)) % 256)]) (ok := fun _ => True) (okp := fun _ => True) ?hr ?hp (fun _ hk => hk) trivial (Below.refl _ _) (Nat.le_refl _) (by simp) ?_; (case hd => rfl); (case hg => rfl); (case hr => first | (go_simp; done) | (go_simp; rfl)); (case hp => exact (Reps.one (show Kd.M (Kd.int .u8) _ _ _ 1 [.int .u8 1] from rfl) (Reps.one (show Kd.M (Kd.int .u8) _ _ _ (((((rd_T49 l0 x4_1).f0).length : Int)) % 256) [.int .u8 (((((rd_T49 l0 x4_1).f0).length : Int)) % 256)] from rfl) (Reps.none _ _))))
         intro v243 w27 ho28 hb hg_ hnew_
         clear hg_ hnew_
         (first | rw [← Ny242.out] at ho28 | (simp only [Int.reduceToNat] at ho28; rw [← Ny242.out] at ho28))
         have n0_ := Aside0.mk (Kd.R_elder' (rowN HO_3.out) (Kd.R_base ho28) hb)
         have n1_ := Aside0.mk (Kd.R_lower (Kd.R_new' ho28 (Kd.R_lt (rowN HO_3.out))) (below_size (belS HB.out)))
         have n2_ := Aside0.mk (bkB BK232.out hb)
         have n3_ := Aside0.mk (below_step (belS HB.out) hb)
         clear HO_3
         clear BK232
         clear HB
         have HO_3 := n0_
         have HO244 := n1_
         have BK232 := n2_
         have HB := n3_
         clear n0_ n1_ n2_ n3_
         clear hb ho28
         obtain ⟨Ao30, co30, eo30⟩ := Kd.R_slice HO244.out
         (first | subst eo30 | (injection eo30 with f1_ f2_ f3_; have f4_ := f1_.symm; have f5_ := f3_.symm; clear f1_ f2_ f3_; subst f4_; subst f5_))
         refine hK.out _ _ ⟨(blk_cell BK232.out 0).trans rfl, (blk_cell BK232.out 1).trans rfl, (blk_cell BK232.out 2).trans rfl⟩ (fun hHeld => ?_)
         clear hK K
         refine norm_ (a' := ?_) ?_ ?_
         rotate_left
         ·show Act.put _ (some 37) _ = _
          simp only [Act.put, List.setIfInBounds_toArray, List.set_cons_zero, List.set_cons_succ, i64_w, i32_w]
          rfl
         refine one_ (i := 6) (N := some 38) (bA 11 511) rfl rfl (one_of HT_.out (by kernel_rfl)) (by decide) (fun K hK => ?_)
         refine Kd.R_append_rows_step (Kd.int .u8) (w0 := w) w.heap.size (by rfl) (.tmp 32) (.tmp 37) 23 5 (.int .u8 0) 1 rfl Try.underlying23 info5 rfl (by decide) (by omega) u3 x3_1 y242 _ _ _ (fun k_ => some k_ ≠ (.slice Ao30 y242.length co30 : Value).ownBlock) (fun _ => False) rfl rfl ?aO ?aR (fun _ _ h => h) (fun _ h => h.elim) ?aF ?aB ?aS ?aL ?_
         (case aR => repeat (first | exact (Kd.R_reads' HO244.out).2.2 | (with_reducible refine Kd.C_alloc ?_ _) | (with_reducible refine Kd.C_drewN ?_ _) | (with_reducible refine Kd.C_drew ?_)))
         (case aB => exact (belS HB.out))
         (case aF => exact (fun k_ hk => Kd.fresh' (Kd.R_lt (rowN HO244.out)) k_ hk))
         (case aO => exact (by (with_reducible repeat (first | apply Kd.R_alloc | apply Kd.R_drewN | apply Kd.R_drew)); exact Kd.R_mono HO_3.out (fun _ hk => hk.2)))
         (case aS => exact (below_size (belS HB.out)))
         (case aL => have := LMc19.out; omega)
         intro v246 w29 ho hb hg hat
         rw [← Ny245.out] at ho
         have n0_ := Aside0.mk (blk_grown (g := gb232) (o := .cells #[.slice A231_0 ((rd_T49 l0 x4_1).f0).length c231_0, .slice A231_1 ((rd_T49 l0 x4_1).f1).length c231_1, .bool false] 49 (0, 0)) (blkN BK232.out) hg (Kd.R_ne HO_3.out BK232.out (by decide)))
         have n1_ := Aside0.mk (Kd.R_after (ok := (fun _ => True)) (rowN HO244.out) hg hat)
         have n2_ := Aside0.mk (hb)
         have n3_ := Aside0.mk (ho)
         clear BK232
         clear HO244
         clear HB
         clear HO_3
         have BK232 := n0_
         have HO244 := n1_
         have HB := n2_
         have HO247 := n3_
         clear n0_ n1_ n2_ n3_
         clear ho hb hg hat
         refine hK.out _ _ ⟨(blk_cell BK232.out 0).trans rfl, (blk_cell BK232.out 1).trans rfl, (blk_cell BK232.out 2).trans rfl⟩ (fun hHeld => ?_)
         clear hK K
         refine norm_ (a' := ?_) ?_ ?_
         rotate_left
         ·show Act.put _ (some 38) _ = _
          simp only [Act.put, List.setIfInBounds_toArray, List.set_cons_zero, List.set_cons_succ, i64_w, i32_w]
          rfl
         refine one_ (i := 9) (N := some 41) (bA 11 1023) rfl rfl (one_of HT_.out (by kernel_rfl)) (by decide) (fun K hK => ?_)
         refine Kd.R_append_rows_step (Kd.int .u8) (w0 := w) w.heap.size (by rfl) (.tmp 38) (.tmp 40) 23 5 (.int .u8 0) 1 rfl Try.underlying23 info5 rfl (by decide) (by omega) v246 y245 ((rd_T49 l0 x4_1).f0) _ _ _ (fun k_ => some k_ ≠ (.slice Ao30 y242.length co30 : Value).ownBlock) (fun _ => False) rfl rfl ?aO ?aR (fun _ _ h => h) (fun _ h => h.elim) ?aF ?aB ?aS ?aL ?_
         (case aR => repeat (first | exact (Kd.C_below HR231_0.out HB.out) | (with_reducible refine Kd.C_alloc ?_ _) | (with_reducible refine Kd.C_drewN ?_ _) | (with_reducible refine Kd.C_drew ?_)))
         (case aB => exact (belS HB.out))
         (case aF => exact (fun k_ hk => Kd.fresh' (Kd.R_lt (rowN HO244.out)) k_ hk))
         (case aO => exact (rowN HO247.out))
         (case aS => exact (below_size (belS HB.out)))
         (case aL => have := LMc20.out; omega)
         intro v249 w31 ho hb hg hat
         rw [← Ny248.out] at ho
         have n0_ := Aside0.mk (blk_grown (g := gb232) (o := .cells #[.slice A231_0 ((rd_T49 l0 x4_1).f0).length c231_0, .slice A231_1 ((rd_T49 l0 x4_1).f1).length c231_1, .bool false] 49 (0, 0)) (blkN BK232.out) hg (Kd.R_ne HO247.out BK232.out (by decide)))
         have n1_ := Aside0.mk (Kd.R_after (ok := (fun _ => True)) (rowN HO244.out) hg hat)
         have n2_ := Aside0.mk (hb)
         have n3_ := Aside0.mk (ho)
         clear BK232
         clear HO244
         clear HB
         clear HO247
         have BK232 := n0_
         have HO244 := n1_
         have HB := n2_
         have HO250 := n3_
         clear n0_ n1_ n2_ n3_
         clear ho hb hg hat
         refine hK.out _ _ ⟨(blk_cell BK232.out 0).trans rfl, (blk_cell BK232.out 1).trans rfl, (blk_cell BK232.out 2).trans rfl⟩ (fun hHeld => ?_)
         clear hK K
         refine norm_ (a' := ?_) ?_ ?_
         rotate_left
         ·show Act.put _ (some 41) _ = _
          simp only [Act.put, List.setIfInBounds_toArray, List.set_cons_zero, List.set_cons_succ, i64_w, i32_w]
          rfl
         refine pA 10 (some 3) (bA 11 2047) HT_.out ?_
         refine done_ (done_of HT_.out (by kernel_rfl)) ?_
         try go_wp2
         have n0_ := Aside0.mk (Kd.R_drew HO244.out)
         have n1_ := Aside0.mk (Kd.R_drew HO250.out)
         have n2_ := Aside0.mk (blk_drew BK232.out)
         have n3_ := Aside0.mk (below_drew1 HB.out)
         clear HO244
         clear HO250
         clear BK232
         clear HB
         have HO244 := n0_
         have HO250 := n1_
         have BK232 := n2_
         have HB := n3_
         clear n0_ n1_ n2_ n3_
         obtain ⟨Ao33, co33, eo33⟩ := Kd.R_slice HO250.out
         (first | subst eo33 | (injection eo33 with f1_ f2_ f3_; have f4_ := f1_.symm; have f5_ := f3_.symm; clear f1_ f2_ f3_; subst f4_; subst f5_))
         refine start_ (n := 10) (S := fun w' => w'.cell? ⟨gb232, 0, none⟩ = some (.slice A231_0 ((rd_T49 l0 x4_1).f0).length c231_0) ∧ w'.cell? ⟨gb232, 1, none⟩ = some (.slice A231_1 ((rd_T49 l0 x4_1).f1).length c231_1) ∧ w'.cell? ⟨gb232, 2, none⟩ = some (.bool false)) (ds := []) #[false, false, false, false, false, false, false, false, false, false] (by kernel_rfl) rfl rfl ⟨(blk_cell BK232.out 0).trans rfl, (blk_cell BK232.out 1).trans rfl, (blk_cell BK232.out 2).trans rfl⟩ (fun hHeld => ?_); refine with_tabW marigraphref4_Batch.tab9 marigraphref4_Batch.bits9 (fun HT_ HW_ => ?_)
         generalize w31.drew = w32 at HO244 HO250 BK232 HB hHeld ⊢
         refine pA 0 (some 42) (bA 10 1) HT_.out ?_
         refine pA 1 (some 43) (bA 10 3) HT_.out ?_
         refine pA 6 (some 48) (bA 10 67) HT_.out ?_
         refine take_ (i := 2) (N := some 44) (v := ?_) (a' := ?_) (bA 10 71) rfl rfl (take_ofW HT_.out HW_.out (by kernel_rfl)) (fun _ _ _ h => h) (Or.inl ⟨by rfl, ?_⟩) hHeld ?_ ?_
         rotate_left
         ·rintro w' ⟨s0, s1, s2⟩
          go_simp
          with_reducible rfl
         rotate_left
         ·simp only [Act.put, List.setIfInBounds_toArray, List.set_cons_zero, List.set_cons_succ, i64_w, i32_w]
          rfl
         refine pA 3 (some 45) (bA 10 79) HT_.out ?_
         refine pA 4 (some 46) (bA 10 95) HT_.out ?_
         refine take_ (i := 7) (N := some 49) (v := ?_) (a' := ?_) (bA 10 223) rfl rfl (take_ofW HT_.out HW_.out (by kernel_rfl)) (fun _ _ _ h => h) (Or.inl ⟨by rfl, ?_⟩) hHeld ?_ ?_
         rotate_left
         ·rintro w' ⟨s0, s1, s2⟩
          go_simp
          with_reducible rfl
         rotate_left
         ·simp only [Act.put, List.setIfInBounds_toArray, List.set_cons_zero, List.set_cons_succ, i64_w, i32_w]
          rfl
         refine one_ (i := 5) (N := some 47) (bA 10 255) rfl rfl (one_of HT_.out (by kernel_rfl)) (by decide) (fun K hK => ?_)
         refine goes_ Try.func41 (by kernel_rfl) rfl #[.slice Ao33 y248.length co33, .int .u64 (IntKind.u64.wrap ((((rd_T49 l0 x4_1).f1).length : Int))), .int .i64 2] (by rfl) rfl rfl argN ?_
         with_reducible refine (marigraphref2_Put.calls k1 _ _ y248 (IntKind.u64.wrap ((((rd_T49 l0 x4_1).f1).length : Int))) 2 t251 _ ?side1 ?side2 A21.out).mono ?_
         (case side1 => repeat (first | exact (Kd.R_reads' HO250.out).2.2 | (with_reducible refine Kd.C_alloc ?_ _) | (with_reducible refine Kd.C_drewN ?_ _) | (with_reducible refine Kd.C_drew ?_)))
         (case side2 => exact (Kd.R_reads' HO250.out).2.1)
         rintro e w34 ⟨v252, rfl, ho0, hb⟩
         refine ⟨_, rfl, ?_⟩
         have n0_ := Aside0.mk (Kd.R_elder' (rowN HO244.out) (Kd.R_base ho0) hb)
         have n1_ := Aside0.mk (Kd.R_elder' (rowN HO250.out) (Kd.R_base ho0) hb)
         have n2_ := Aside0.mk (Kd.R_lower (Kd.R_new' (Kd.R_new' ho0 (Kd.R_lt (rowN HO244.out))) (Kd.R_lt (rowN HO250.out))) (below_size (belS HB.out)))
         have n3_ := Aside0.mk (bkB BK232.out hb)
         have n4_ := Aside0.mk (below_step (belS HB.out) hb)
         clear HO244
         clear HO250
         clear BK232
         clear HB
         have HO244 := n0_
         have HO250 := n1_
         have HO253 := n2_
         have BK232 := n3_
         have HB := n4_
         clear n0_ n1_ n2_ n3_ n4_
         (try clear hb)
         (try clear hk)
         (try clear ho0)
         refine hK.out _ _ ⟨(blk_cell BK232.out 0).trans rfl, (blk_cell BK232.out 1).trans rfl, (blk_cell BK232.out 2).trans rfl⟩ (fun hHeld => ?_)
         clear hK K
         refine norm_ (a' := ?_) ?_ ?_
         rotate_left
         ·show Act.put _ (some 47) _ = _
          simp only [Act.put, List.setIfInBounds_toArray, List.set_cons_zero, List.set_cons_succ, i64_w, i32_w]
          rfl
         refine one_ (i := 8) (N := some 50) (bA 10 511) rfl rfl (one_of HT_.out (by kernel_rfl)) (by decide) (fun K hK => ?_)
         refine Kd.R_append_rows_step (Kd.int .u8) (w0 := w) w.heap.size (by rfl) (.tmp 47) (.tmp 49) 23 5 (.int .u8 0) 1 rfl Try.underlying23 info5 rfl (by decide) (by omega) v252 t251 ((rd_T49 l0 x4_1).f1) _ _ _ (fun k_ => some k_ ≠ (.slice Ao30 y242.length co30 : Value).ownBlock ∧ some k_ ≠ (.slice Ao33 y248.length co33 : Value).ownBlock) (fun _ => False) rfl rfl ?aO ?aR (fun _ _ h => h) (fun _ h => h.elim) ?aF ?aB ?aS ?aL ?_
         (case aR => repeat (first | exact (Kd.C_below HR231_1.out HB.out) | (with_reducible refine Kd.C_alloc ?_ _) | (with_reducible refine Kd.C_drewN ?_ _) | (with_reducible refine Kd.C_drew ?_)))
         (case aB => exact (belS HB.out))
         (case aF => exact (fun k_ hk => ⟨Kd.fresh' (Kd.R_lt (rowN HO244.out)) k_ hk, Kd.fresh' (Kd.R_lt (rowN HO250.out)) k_ hk⟩))
         (case aO => exact (by (with_reducible repeat (first | apply Kd.R_alloc | apply Kd.R_drewN | apply Kd.R_drew)); exact Kd.R_mono HO253.out (fun _ hk => ⟨hk.1.2, hk.2⟩)))
         (case aS => exact (below_size (belS HB.out)))
         (case aL => have := LMc22.out; omega)
         intro v255 w35 ho hb hg hat
         rw [← Ny254.out] at ho
         have n0_ := Aside0.mk (blk_grown (g := gb232) (o := .cells #[.slice A231_0 ((rd_T49 l0 x4_1).f0).length c231_0, .slice A231_1 ((rd_T49 l0 x4_1).f1).length c231_1, .bool false] 49 (0, 0)) (blkN BK232.out) hg (Kd.R_ne HO253.out BK232.out (by decide)))
         have n1_ := Aside0.mk (Kd.R_after (ok := (fun k_ => some k_ ≠ (.slice Ao33 y248.length co33 : Value).ownBlock)) (by (with_reducible repeat (first | apply Kd.R_alloc | apply Kd.R_drewN | apply Kd.R_drew)); exact Kd.R_mono HO244.out (fun _ hk => ⟨hk.1.2, hk.2⟩)) hg hat)
         have n2_ := Aside0.mk (Kd.R_after (ok := (fun k_ => some k_ ≠ (.slice Ao30 y242.length co30 : Value).ownBlock)) (rowN HO250.out) hg hat)
         have n3_ := Aside0.mk (hb)
         have n4_ := Aside0.mk (ho)
         clear BK232
         clear HO244
         clear HO250
         clear HB
         clear HO253
         have BK232 := n0_
         have HO244 := n1_
         have HO250 := n2_
         have HB := n3_
         have HO256 := n4_
         clear n0_ n1_ n2_ n3_ n4_
         clear ho hb hg hat
         refine hK.out _ _ ⟨(blk_cell BK232.out 0).trans rfl, (blk_cell BK232.out 1).trans rfl, (blk_cell BK232.out 2).trans rfl⟩ (fun hHeld => ?_)
         clear hK K
         refine norm_ (a' := ?_) ?_ ?_
         rotate_left
         ·show Act.put _ (some 50) _ = _
          simp only [Act.put, List.setIfInBounds_toArray, List.set_cons_zero, List.set_cons_succ, i64_w, i32_w]
          rfl
         refine pA 9 (some 3) (bA 10 1023) HT_.out ?_
         refine done_ (done_of HT_.out (by kernel_rfl)) ?_
         try go_wp2
         go_roundg k1
         case measure => have := HK1.out; omega
         case rel => exact ⟨(y254), (wrap64 (x4_1 + 1)), (by first | rfl | (simp; done) | (simp [*]; done)), H', ⟨by have := HK1.out; omega⟩, ⟨by (with_reducible repeat (first | apply Kd.R_alloc | apply Kd.R_drewN | apply Kd.R_drew)); exact Kd.R_mono HO256.out (fun _ hk => trivial)⟩, ⟨(belS HB.out)⟩⟩
        ·rw [if_neg c22] at H
         exact absurd H (by simp)
       ·rw [if_neg c20] at H
        exact absurd H (by simp)
      ·rw [if_neg c19] at H
       exact absurd H (by simp)
    ·rw [if_neg c5] at H
     exact absurd H (by simp)
   ·rw [if_neg c4] at H
    have c4b0 : decide (x4_1 < (l0.length : Int)) = false := decide_eq_false c4
    clear c4
    obtain rfl := Option.some.inj H
    go_wp2
    go_ret
    exact ⟨_, by first | rfl | (simp [errW_none, errW_some] <;> rfl) | (simp [*, errW_none, errW_some] <;> rfl), (rowN HO_3.out), (belN HB.out)⟩

end Go.Proofs.Ytmimfnangdabmaa.PFrameNumbers

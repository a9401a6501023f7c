/- The walk of the Go functions that a law reaches, told as plain functions; a program of this session has written it. No condition beyond the statement's own. -/
import Derived.Test.YtlmhgjnlbokceaaPDownPartsx0
import Derived.Test.YtlmhgjnlbokceaaPDownPartsx1
import Derived.Test.YtlmhgjnlbokceaaPDownPartsx3
import Derived.Test.YtlmhgjnlbokceaaPDownPartsx10
import Derived.Test.YtlmhgjnlbokceaaPDownPartsx11
namespace Go.Proofs.Ytlmhgjnlbokceaa.PDownParts
open Go.RowKit Go.Proofs.YtlmhgjnlbokceaaW.PrintWords Go.Proofs.YtlmhgjnlbokceaaW.PrintLast Go.Proofs.YtlmhgjnlbokceaaW.PrintMore
attribute [local go_sem] max2_int min2_int max_two min_two max_three min_three max_four min_four   -- for this text's walks alone
set_option linter.unusedVariables false
set_option linter.unusedSimpArgs false

attribute [local go_sem high] eqA29
/-! ### marigraphlaw21_DownParts: function 5 -/
mutual
def marigraphlaw21_DownParts.j0 : Nat → List (S31) → Int → Int → Option (Bool)
 | 0, _, _, _ => none
 | k + 1, x7, x8, x9 => (down_Do.f k x7 0 x9 x8 5 false).bind fun bt270 => ((down_Do.f k x7 0 x9 x8 5 true).bind fun bt274 => (if bt270.2 = 0 then (if bt274.2 = 0 then (if x8 = 0 then (none) else (marigraphlaw21_DownParts.j1 k x7 x8 bt270.1 bt274.1 ((bt274.1.length : Int) != (wrap64 ((wrap64 (Int.tdiv x9 x8)) + 1))))) else (marigraphlaw21_DownParts.j1 k x7 x8 bt270.1 bt274.1 true)) else (marigraphlaw21_DownParts.j1 k x7 x8 bt270.1 bt274.1 true)))
def marigraphlaw21_DownParts.j1 : Nat → List (S31) → Int → List (S31) → List (S31) → Bool → Option (Bool)
 | 0, _, _, _, _, _ => none
 | k + 1, x7, x8, x10, x12, x60 => if x60 = true then (some false) else (marigraphlaw21_DownParts.l0 k x7 x8 x10 x12 0 0 0)
def marigraphlaw21_DownParts.l0 : Nat → List (S31) → Int → List (S31) → List (S31) → Int → Int → Int → Option (Bool)
 | 0, _, _, _, _, _, _, _ => none
 | k + 1, x7, x8, x10, x12, x14, x15, x16 => if x16 < (x12.length : Int) then (if 0 ≤ x16 then (if ((rd_T31 x12 x16).f0) = (wrap64 (x16 * x8)) then (if x15 < (x10.length : Int) then (if 0 ≤ x15 then (marigraphlaw21_DownParts.j3 k x7 x8 x10 x12 x14 x15 x16 (((rd_T31 x10 x15).f0) == ((rd_T31 x12 x16).f0))) else (none)) else (marigraphlaw21_DownParts.j3 k x7 x8 x10 x12 x14 x15 x16 false)) else (some false)) else (none)) else (if x15 = (x10.length : Int) then (if x14 = (x7.length : Int) then (if (x7.length : Int) = 0 then ((marigraphlaw21_known.f k).bind fun t278 => (some t278)) else (if 0 < (x7.length : Int) then ((marigraphref1_Right.f k ((rd_T31 x7 0).f1.f0) ((rd_T31 x7 0).f1.f1)).bind fun t280 => (if t280 = true then ((marigraphref20_Right.f 1).bind fun t281 => (if t281 = true then ((marigraphlaw21_known.f k).bind fun t282 => (some t282)) else (some false))) else (some false))) else (none))) else (some false)) else (some false))
def marigraphlaw21_DownParts.j3 : Nat → List (S31) → Int → List (S31) → List (S31) → Int → Int → Int → Bool → Option (Bool)
 | 0, _, _, _, _, _, _, _, _ => none
 | k + 1, x7, x8, x10, x12, x14, x15, x16, x92 => if x92 = true then (if 0 ≤ x15 then (if x15 < (x10.length : Int) then (if 0 ≤ x16 then (if x16 < (x12.length : Int) then (if (!(((rd_T31 x10 x15).f1.f0) == ((rd_T31 x12 x16).f1.f0)) || (!(((rd_T31 x10 x15).f1.f1) == ((rd_T31 x12 x16).f1.f1)))) = true then (some false) else (if ((rd_T31 x10 x15).f1.f0) < 1 then (some false) else (marigraphlaw21_DownParts.l0 k x7 x8 x10 x12 (wrap64 (x14 + ((rd_T31 x12 x16).f1.f0))) (wrap64 (x15 + 1)) (wrap64 (x16 + 1))))) else (none)) else (none)) else (none)) else (none)) else (if 0 ≤ x16 then (if x16 < (x12.length : Int) then (if (!(((rd_T31 x12 x16).f1.f0) == 0) || (!(((rd_T31 x12 x16).f1.f1) == 1))) = true then (some false) else (marigraphlaw21_DownParts.l0 k x7 x8 x10 x12 (wrap64 (x14 + ((rd_T31 x12 x16).f1.f0))) x15 (wrap64 (x16 + 1)))) else (none)) else (none))
end
def marigraphlaw21_DownParts.f (k : Nat) (l0 : List Int) (l1 : List Int) (a2 : Int) : Option (Bool) := (marigraphkeep_Samples.f k l0 l1 30).bind fun t265 => ((marigraphbook_Within.f k a2 1 60).bind fun t268 => (if (t265.length : Int) > 0 then (if 0 ≤ (wrap64 ((t265.length : Int) - 1)) then (if (wrap64 ((t265.length : Int) - 1)) < (t265.length : Int) then (marigraphlaw21_DownParts.j0 k t265 t268 ((rd_T31 t265 (wrap64 ((t265.length : Int) - 1))).f0)) else (none)) else (none)) else (marigraphlaw21_DownParts.j0 k t265 t268 0)))
theorem marigraphlaw21_DownParts.mono_l : ∀ k, (∀ y0 y1 y2, LeO (marigraphlaw21_DownParts.j0 k y0 y1 y2) (marigraphlaw21_DownParts.j0 (k + 1) y0 y1 y2)) ∧ (∀ y0 y1 y2 y3 y4, LeO (marigraphlaw21_DownParts.j1 k y0 y1 y2 y3 y4) (marigraphlaw21_DownParts.j1 (k + 1) y0 y1 y2 y3 y4)) ∧ (∀ y0 y1 y2 y3 y4 y5 y6, LeO (marigraphlaw21_DownParts.l0 k y0 y1 y2 y3 y4 y5 y6) (marigraphlaw21_DownParts.l0 (k + 1) y0 y1 y2 y3 y4 y5 y6)) ∧ (∀ y0 y1 y2 y3 y4 y5 y6 y7, LeO (marigraphlaw21_DownParts.j3 k y0 y1 y2 y3 y4 y5 y6 y7) (marigraphlaw21_DownParts.j3 (k + 1) y0 y1 y2 y3 y4 y5 y6 y7))
 | 0 => ⟨fun _ _ _ r h => by simp [marigraphlaw21_DownParts.j0] at h, fun _ _ _ _ _ r h => by simp [marigraphlaw21_DownParts.j1] at h, fun _ _ _ _ _ _ _ r h => by simp [marigraphlaw21_DownParts.l0] at h, fun _ _ _ _ _ _ _ _ r h => by simp [marigraphlaw21_DownParts.j3] at h⟩
 | k + 1 => by
  obtain ⟨ih0, ih1, ih2, ih3⟩ := marigraphlaw21_DownParts.mono_l k
  refine ⟨?_, ?_, ?_, ?_⟩
  ·intro y0 y1 y2
   unfold marigraphlaw21_DownParts.j0
   repeat' first
   | (with_reducible exact ih0 _ _ _)
   | (with_reducible exact ih1 _ _ _ _ _)
   | (with_reducible exact ih2 _ _ _ _ _ _ _)
   | (with_reducible exact ih3 _ _ _ _ _ _ _ _)
   | (with_reducible exact down_Do.mono _ _ _ _ _ _ _)
   | (with_reducible exact marigraphbook_Within.mono _ _ _ _)
   | (with_reducible exact marigraphkeep_Samples.mono _ _ _ _)
   | (with_reducible exact marigraphlaw21_known.mono _)
   | (with_reducible exact marigraphref1_Right.mono _ _ _)
   | (with_reducible exact LeO.refl _)
   | (with_reducible exact LeO.none _)
   | (with_reducible refine LeO.ite ?_ ?_)
   | (with_reducible refine LeO.bind ?_ (fun _ => ?_))
   | exact ih0 _ _ _
   | exact ih1 _ _ _ _ _
   | exact ih2 _ _ _ _ _ _ _
   | exact ih3 _ _ _ _ _ _ _ _
   | exact down_Do.mono _ _ _ _ _ _ _
   | exact marigraphbook_Within.mono _ _ _ _
   | exact marigraphkeep_Samples.mono _ _ _ _
   | exact marigraphlaw21_known.mono _
   | exact marigraphref1_Right.mono _ _ _
   | exact LeO.none _
   | refine LeO.ite ?_ ?_
   | refine LeO.bind ?_ (fun _ => ?_)
  ·intro y0 y1 y2 y3 y4
   unfold marigraphlaw21_DownParts.j1
   repeat' first
   | (with_reducible exact ih0 _ _ _)
   | (with_reducible exact ih1 _ _ _ _ _)
   | (with_reducible exact ih2 _ _ _ _ _ _ _)
   | (with_reducible exact ih3 _ _ _ _ _ _ _ _)
   | (with_reducible exact down_Do.mono _ _ _ _ _ _ _)
   | (with_reducible exact marigraphbook_Within.mono _ _ _ _)
   | (with_reducible exact marigraphkeep_Samples.mono _ _ _ _)
   | (with_reducible exact marigraphlaw21_known.mono _)
   | (with_reducible exact marigraphref1_Right.mono _ _ _)
   | (with_reducible exact LeO.refl _)
   | (with_reducible exact LeO.none _)
   | (with_reducible refine LeO.ite ?_ ?_)
   | (with_reducible refine LeO.bind ?_ (fun _ => ?_))
   | exact ih0 _ _ _
   | exact ih1 _ _ _ _ _
   | exact ih2 _ _ _ _ _ _ _
   | exact ih3 _ _ _ _ _ _ _ _
   | exact down_Do.mono _ _ _ _ _ _ _
   | exact marigraphbook_Within.mono _ _ _ _
   | exact marigraphkeep_Samples.mono _ _ _ _
   | exact marigraphlaw21_known.mono _
   | exact marigraphref1_Right.mono _ _ _
   | exact LeO.none _
   | refine LeO.ite ?_ ?_
   | refine LeO.bind ?_ (fun _ => ?_)
  ·intro y0 y1 y2 y3 y4 y5 y6
   unfold marigraphlaw21_DownParts.l0
   repeat' first
   | (with_reducible exact ih0 _ _ _)
   | (with_reducible exact ih1 _ _ _ _ _)
   | (with_reducible exact ih2 _ _ _ _ _ _ _)
   | (with_reducible exact ih3 _ _ _ _ _ _ _ _)
   | (with_reducible exact down_Do.mono _ _ _ _ _ _ _)
   | (with_reducible exact marigraphbook_Within.mono _ _ _ _)
   | (with_reducible exact marigraphkeep_Samples.mono _ _ _ _)
   | (with_reducible exact marigraphlaw21_known.mono _)
   | (with_reducible exact marigraphref1_Right.mono _ _ _)
   | (with_reducible exact LeO.refl _)
   | (with_reducible exact LeO.none _)
   | (with_reducible refine LeO.ite ?_ ?_)
   | (with_reducible refine LeO.bind ?_ (fun _ => ?_))
   | exact ih0 _ _ _
   | exact ih1 _ _ _ _ _
   | exact ih2 _ _ _ _ _ _ _
   | exact ih3 _ _ _ _ _ _ _ _
   | exact down_Do.mono _ _ _ _ _ _ _
   | exact marigraphbook_Within.mono _ _ _ _
   | exact marigraphkeep_Samples.mono _ _ _ _
   | exact marigraphlaw21_known.mono _
   | exact marigraphref1_Right.mono _ _ _
   | exact LeO.none _
   | refine LeO.ite ?_ ?_
   | refine LeO.bind ?_ (fun _ => ?_)
  ·intro y0 y1 y2 y3 y4 y5 y6 y7
   unfold marigraphlaw21_DownParts.j3
   repeat' first
   | (with_reducible exact ih0 _ _ _)
   | (with_reducible exact ih1 _ _ _ _ _)
   | (with_reducible exact ih2 _ _ _ _ _ _ _)
   | (with_reducible exact ih3 _ _ _ _ _ _ _ _)
   | (with_reducible exact down_Do.mono _ _ _ _ _ _ _)
   | (with_reducible exact marigraphbook_Within.mono _ _ _ _)
   | (with_reducible exact marigraphkeep_Samples.mono _ _ _ _)
   | (with_reducible exact marigraphlaw21_known.mono _)
   | (with_reducible exact marigraphref1_Right.mono _ _ _)
   | (with_reducible exact LeO.refl _)
   | (with_reducible exact LeO.none _)
   | (with_reducible refine LeO.ite ?_ ?_)
   | (with_reducible refine LeO.bind ?_ (fun _ => ?_))
   | exact ih0 _ _ _
   | exact ih1 _ _ _ _ _
   | exact ih2 _ _ _ _ _ _ _
   | exact ih3 _ _ _ _ _ _ _ _
   | exact down_Do.mono _ _ _ _ _ _ _
   | exact marigraphbook_Within.mono _ _ _ _
   | exact marigraphkeep_Samples.mono _ _ _ _
   | exact marigraphlaw21_known.mono _
   | exact marigraphref1_Right.mono _ _ _
   | exact LeO.none _
   | refine LeO.ite ?_ ?_
   | refine LeO.bind ?_ (fun _ => ?_)
theorem marigraphlaw21_DownParts.mono : ∀ a0 a1 a2 k, LeO (marigraphlaw21_DownParts.f k a0 a1 a2) (marigraphlaw21_DownParts.f (k + 1) a0 a1 a2) := by
 intro a0 a1 a2 k
 obtain ⟨ih0, ih1, ih2, ih3⟩ := marigraphlaw21_DownParts.mono_l k
 unfold marigraphlaw21_DownParts.f
 repeat' first
   | (with_reducible exact ih0 _ _ _)
   | (with_reducible exact ih1 _ _ _ _ _)
   | (with_reducible exact ih2 _ _ _ _ _ _ _)
   | (with_reducible exact ih3 _ _ _ _ _ _ _ _)
   | (with_reducible exact down_Do.mono _ _ _ _ _ _ _)
   | (with_reducible exact marigraphbook_Within.mono _ _ _ _)
   | (with_reducible exact marigraphkeep_Samples.mono _ _ _ _)
   | (with_reducible exact marigraphlaw21_known.mono _)
   | (with_reducible exact marigraphref1_Right.mono _ _ _)
   | (with_reducible exact LeO.refl _)
   | (with_reducible exact LeO.none _)
   | (with_reducible refine LeO.ite ?_ ?_)
   | (with_reducible refine LeO.bind ?_ (fun _ => ?_))
   | exact ih0 _ _ _
   | exact ih1 _ _ _ _ _
   | exact ih2 _ _ _ _ _ _ _
   | exact ih3 _ _ _ _ _ _ _ _
   | exact down_Do.mono _ _ _ _ _ _ _
   | exact marigraphbook_Within.mono _ _ _ _
   | exact marigraphkeep_Samples.mono _ _ _ _
   | exact marigraphlaw21_known.mono _
   | exact marigraphref1_Right.mono _ _ _
   | exact LeO.none _
   | refine LeO.ite ?_ ?_
   | refine LeO.bind ?_ (fun _ => ?_)
set_option maxHeartbeats 8000000 in
set_option maxRecDepth 100000 in
theorem marigraphlaw21_DownParts.calls (k : Nat) (A0 : Option Addr) (c0 : Nat) (l0 : List Int) (A1 : Option Addr) (c1 : Nat) (l1 : List Int) (a2 : Int) (r : Bool) (w : World) (hr0 : Kd.C (Kd.int .i64) w A0 l0.length l0) (hc0 : l0.length ≤ c0) (hr1 : Kd.C (Kd.int .i64) w A1 l1.length l1) (hc1 : l1.length ≤ c1) (h : marigraphlaw21_DownParts.f k l0 l1 a2 = some r) :
  Calls Try.prog 5 #[.slice A0 l0.length c0, .slice A1 l1.length c1, .int .i64 a2] w fun e w' => e = .returned (.bool r) ∧ Below w.heap.size w w' := by
 have hu29 := Try.underlying29
 have HR0 := Aside0.mk hr0
 have HC0 := Aside0.mk hc0
 clear hr0 hc0
 have HR1 := Aside0.mk hr1
 have HC1 := Aside0.mk hc1
 clear hr1 hc1
 have HB := Aside0.mk (Below.refl w.heap.size w)
 have H : ((marigraphkeep_Samples.f k l0 l1 30).bind fun t265 => ((marigraphbook_Within.f k a2 1 60).bind fun t268 => (if (t265.length : Int) > 0 then (if 0 ≤ (wrap64 ((t265.length : Int) - 1)) then (if (wrap64 ((t265.length : Int) - 1)) < (t265.length : Int) then (marigraphlaw21_DownParts.j0 k t265 t268 ((rd_T31 t265 (wrap64 ((t265.length : Int) - 1))).f0)) else (none)) else (none)) else (marigraphlaw21_DownParts.j0 k t265 t268 0)))) = some r := h
 clear h
 replace H := Option.bind_eq_some_iff.mp H
 obtain ⟨t265, A40, H⟩ := H
 replace H : ((marigraphbook_Within.f k a2 1 60).bind fun t268 => (if (t265.length : Int) > 0 then (if 0 ≤ (wrap64 ((t265.length : Int) - 1)) then (if (wrap64 ((t265.length : Int) - 1)) < (t265.length : Int) then (marigraphlaw21_DownParts.j0 k t265 t268 ((rd_T31 t265 (wrap64 ((t265.length : Int) - 1))).f0)) else (none)) else (none)) else (marigraphlaw21_DownParts.j0 k t265 t268 0))) = some r := H
 have A4 := Aside0.mk A40
 clear A40
 replace H := Option.bind_eq_some_iff.mp H
 obtain ⟨t268, A50, H⟩ := H
 replace H : (if (t265.length : Int) > 0 then (if 0 ≤ (wrap64 ((t265.length : Int) - 1)) then (if (wrap64 ((t265.length : Int) - 1)) < (t265.length : Int) then (marigraphlaw21_DownParts.j0 k t265 t268 ((rd_T31 t265 (wrap64 ((t265.length : Int) - 1))).f0)) else (none)) else (none)) else (marigraphlaw21_DownParts.j0 k t265 t268 0)) = some r := H
 have A5 := Aside0.mk A50
 clear A50
 have HC6 := Aside0.mk H
 clear H
 go_enter Try.func5, Try.ntmps5
 go_upto_if 24 with (first | (go_at_call 7; (with_reducible refine (marigraphkeep_Samples.calls k _ _ l0 _ _ l1 30 t265 _ ?side1 ?side2 ?side3 ?side4 A4.out).mono ?_); (case side1 => repeat (first | exact HR0.out | (with_reducible refine Kd.C_alloc ?_ _) | (with_reducible refine Kd.C_drewN ?_ _) | (with_reducible refine Kd.C_drew ?_))); (case side2 => exact HC0.out); (case side3 => repeat (first | exact HR1.out | (with_reducible refine Kd.C_alloc ?_ _) | (with_reducible refine Kd.C_drewN ?_ _) | (with_reducible refine Kd.C_drew ?_))); (case side4 => exact HC1.out); rintro e w7 ⟨v266, rfl, ho0, hb⟩; have n0_ := Aside0.mk (Kd.R_lower ho0 (below_size (belN HB.out))); have n1_ := Aside0.mk (below_step (belN HB.out) hb); clear HB; have HO267 := n0_; have HB := n1_; clear n0_ n1_; (try clear hb); (try clear hk); (try clear ho0)) | (go_at_call 11; (with_reducible refine (marigraphbook_Within.calls k a2 1 60 t268 _ A5.out).mono ?_); rintro e w' ⟨rfl, ⟨nd, rfl⟩⟩; (try first | exact ⟨rfl, _, World.drewN_drewN _ _ _⟩ | exact ⟨rfl, _, Eq.trans (World.drewN_drewN _ _ _) (congrArg (World.drewN _) (Nat.add_assoc _ _ _))⟩); obtain ⟨Ao8, co8, eo8⟩ := Kd.R_slice HO267.out; subst eo8))
 repeat (go_quiet (first | (go_at_call 7; (with_reducible refine (marigraphkeep_Samples.calls k _ _ l0 _ _ l1 30 t265 _ ?side1 ?side2 ?side3 ?side4 A4.out).mono ?_); (case side1 => repeat (first | exact HR0.out | (with_reducible refine Kd.C_alloc ?_ _) | (with_reducible refine Kd.C_drewN ?_ _) | (with_reducible refine Kd.C_drew ?_))); (case side2 => exact HC0.out); (case side3 => repeat (first | exact HR1.out | (with_reducible refine Kd.C_alloc ?_ _) | (with_reducible refine Kd.C_drewN ?_ _) | (with_reducible refine Kd.C_drew ?_))); (case side4 => exact HC1.out); rintro e w7 ⟨v266, rfl, ho0, hb⟩; have n0_ := Aside0.mk (Kd.R_lower ho0 (below_size (belN HB.out))); have n1_ := Aside0.mk (below_step (belN HB.out) hb); clear HB; have HO267 := n0_; have HB := n1_; clear n0_ n1_; (try clear hb); (try clear hk); (try clear ho0)) | (go_at_call 11; (with_reducible refine (marigraphbook_Within.calls k a2 1 60 t268 _ A5.out).mono ?_); rintro e w' ⟨rfl, ⟨nd, rfl⟩⟩; (try first | exact ⟨rfl, _, World.drewN_drewN _ _ _⟩ | exact ⟨rfl, _, Eq.trans (World.drewN_drewN _ _ _) (congrArg (World.drewN _) (Nat.add_assoc _ _ _))⟩); obtain ⟨Ao8, co8, eo8⟩ := Kd.R_slice HO267.out; subst eo8)); go_upto_if 24 with (first | (go_at_call 7; (with_reducible refine (marigraphkeep_Samples.calls k _ _ l0 _ _ l1 30 t265 _ ?side1 ?side2 ?side3 ?side4 A4.out).mono ?_); (case side1 => repeat (first | exact HR0.out | (with_reducible refine Kd.C_alloc ?_ _) | (with_reducible refine Kd.C_drewN ?_ _) | (with_reducible refine Kd.C_drew ?_))); (case side2 => exact HC0.out); (case side3 => repeat (first | exact HR1.out | (with_reducible refine Kd.C_alloc ?_ _) | (with_reducible refine Kd.C_drewN ?_ _) | (with_reducible refine Kd.C_drew ?_))); (case side4 => exact HC1.out); rintro e w7 ⟨v266, rfl, ho0, hb⟩; have n0_ := Aside0.mk (Kd.R_lower ho0 (below_size (belN HB.out))); have n1_ := Aside0.mk (below_step (belN HB.out) hb); clear HB; have HO267 := n0_; have HB := n1_; clear n0_ n1_; (try clear hb); (try clear hk); (try clear ho0)) | (go_at_call 11; (with_reducible refine (marigraphbook_Within.calls k a2 1 60 t268 _ A5.out).mono ?_); rintro e w' ⟨rfl, ⟨nd, rfl⟩⟩; (try first | exact ⟨rfl, _, World.drewN_drewN _ _ _⟩ | exact ⟨rfl, _, Eq.trans (World.drewN_drewN _ _ _) (congrArg (World.drewN _) (Nat.add_assoc _ _ _))⟩); obtain ⟨Ao8, co8, eo8⟩ := Kd.R_slice HO267.out; subst eo8)))
 (try simp only [Act.put, List.setIfInBounds_toArray, List.set_cons_zero, List.set_cons_succ])
 go_cut [9] (fun v9 wc => ∃ (kq : Nat) (x9_5 : Int), v9 = .int .i64 x9_5 ∧ Aside0 (marigraphlaw21_DownParts.j0 kq t265 t268 x9_5 = some r) ∧ Aside0 (kq ≤ k) ∧ Aside0 (Kd.R k31 31 wc w.heap.size (fun _ => True) (.slice Ao8 t265.length co8) t265) ∧ Aside0 (Below w.heap.size w wc))
 case first =>
  have H := HC6.out
  clear HC6
  by_cases c9 : (t265.length : Int) > 0
  ·rw [if_pos c9] at H
   have c9b0 : decide (0 < (t265.length : Int)) = true := decide_eq_true c9
   have c9b1 : decide (0 < t265.length) = true := decide_eq_true (by omega)
   clear c9
   (first | rw [c9b0] | rw [c9b1] | (simp only [i64_w, i32_w]; rw [c9b0]) | skip)
   obtain ⟨ji10, hji10⟩ : ∃ j_ : Int, (wrap64 ((t265.length : Int) - 1)) = j_ := ⟨_, rfl⟩
   replace H : (if 0 ≤ (ji10) then (if (ji10) < (t265.length : Int) then (marigraphlaw21_DownParts.j0 k t265 t268 ((rd_T31 t265 (ji10)).f0)) else (none)) else (none)) = some r := by first | (rw [hji10] at H; exact H) | (simp only [hji10] at H ⊢; exact H)
   have hji10w : (IntKind.i64.wrap ((t265.length : Int) - 1)) = ji10 := (i64_w _).trans hji10
   by_cases c11 : 0 ≤ (ji10)
   ·rw [if_pos c11] at H
    have c11b0 : decide (0 ≤ (ji10)) = true := decide_eq_true c11
    clear c11
    by_cases c12 : (ji10) < (t265.length : Int)
    ·rw [if_pos c12] at H
     have c12b0 : decide ((ji10) < (t265.length : Int)) = true := decide_eq_true c12
     clear c12
     have H' := Aside0.mk H
     clear H
     have p269 : 0 ≤ ((ji10) : Int) := of_decide_eq_true (by first | (with_reducible assumption) | assumption)
     have q269 : (ji10) < (t265.length : Int) := of_decide_eq_true (by first | (with_reducible assumption) | assumption)
     obtain ⟨ad269, e269, hx269_0, hx269_1, hx269_2⟩ := at_T31 (Kd.R_reads' HO267.out).2.2 (ji10) p269 q269
     cases e269
     replace p269 := eq_true p269
     replace q269 := eq_true q269
     go_wp2
     repeat (go_quiet (fail); try go_wp2)
     go_meet
     case rel => exact ⟨_, ((rd_T31 t265 (ji10)).f0), (by first | rfl | (simp; done) | (simp only [← hji10] <;> (first | rfl | simp)) | (simp [*]; done)), H', ⟨by first | omega | exact Nat.le_refl _⟩, ⟨(rowN HO267.out)⟩, ⟨(belN HB.out)⟩⟩
    ·rw [if_neg c12] at H
     exact absurd H (by simp)
   ·rw [if_neg c11] at H
    exact absurd H (by simp)
  ·rw [if_neg c9] at H
   have c9b0 : decide (0 < (t265.length : Int)) = false := decide_eq_false c9
   have c9b1 : decide (0 < t265.length) = false := decide_eq_false (by omega)
   clear c9
   (first | rw [c9b0] | rw [c9b1] | (simp only [i64_w, i32_w]; rw [c9b0]) | skip)
   have H' := Aside0.mk H
   clear H
   go_wp2
   repeat (go_quiet (fail); try go_wp2)
   go_meet
   case rel => exact ⟨_, (0), (by first | rfl | (simp; done) | (simp [*]; done)), H', ⟨by first | omega | exact Nat.le_refl _⟩, ⟨(rowN HO267.out)⟩, ⟨(belN HB.out)⟩⟩
 case rest =>
  clear HC6
  try clear c1
  try clear p2
  try clear q2
  try clear hx2
  try clear c5
  try clear p6
  try clear c9
  try clear c9b0
  try clear c9b1
  try clear c11
  try clear c11b0
  try clear c12
  try clear c12b0
  try clear hx269_0
  try clear hx269_1
  try clear hx269_2
  try clear p269
  try clear q269
  obtain ⟨kq, x9_5, rfl, HA, HJ5, HO_7, HB⟩ := hcut
  cases kq with
  | zero => exact absurd HA.out (by simp [marigraphlaw21_DownParts.j0])
  | succ kj5 =>
   have H := HA.out
   clear HA
   simp only [marigraphlaw21_DownParts.j0] at H
   replace H := Option.bind_eq_some_iff.mp H
   obtain ⟨⟨t270, t271⟩, A130, H⟩ := H
   replace H : ((down_Do.f kj5 t265 0 x9_5 t268 5 true).bind fun bt274 => (if t271 = 0 then (if bt274.2 = 0 then (if t268 = 0 then (none) else (marigraphlaw21_DownParts.j1 kj5 t265 t268 t270 bt274.1 ((bt274.1.length : Int) != (wrap64 ((wrap64 (Int.tdiv x9_5 t268)) + 1))))) else (marigraphlaw21_DownParts.j1 kj5 t265 t268 t270 bt274.1 true)) else (marigraphlaw21_DownParts.j1 kj5 t265 t268 t270 bt274.1 true))) = some r := H
   have A13 := Aside0.mk A130
   clear A130
   replace H := Option.bind_eq_some_iff.mp H
   obtain ⟨⟨t274, t275⟩, A140, H⟩ := H
   replace H : (if t271 = 0 then (if t275 = 0 then (if t268 = 0 then (none) else (marigraphlaw21_DownParts.j1 kj5 t265 t268 t270 t274 ((t274.length : Int) != (wrap64 ((wrap64 (Int.tdiv x9_5 t268)) + 1))))) else (marigraphlaw21_DownParts.j1 kj5 t265 t268 t270 t274 true)) else (marigraphlaw21_DownParts.j1 kj5 t265 t268 t270 t274 true)) = some r := H
   have A14 := Aside0.mk A140
   clear A140
   have HC15 := Aside0.mk H
   clear H
   go_upto_region 8 with (first | (go_at_call 12; (with_reducible refine (down_Do.calls kj5 _ _ t265 0 x9_5 t268 5 false t270 t271 _ ?side1 ?side2 A13.out).mono ?_); (case side1 => repeat (first | exact (Kd.R_reads' HO_7.out).2.2 | (with_reducible refine Kd.C_alloc ?_ _) | (with_reducible refine Kd.C_drewN ?_ _) | (with_reducible refine Kd.C_drew ?_))); (case side2 => exact (Kd.R_reads' HO_7.out).2.1); rintro e w16 ⟨v272, rfl, ho0, hb⟩; have n0_ := Aside0.mk (Kd.R_elder' (rowN HO_7.out) (Kd.R_base ho0) hb); have n1_ := Aside0.mk (Kd.R_lower (Kd.R_new' ho0 (Kd.R_lt (rowN HO_7.out))) (below_size (belN HB.out))); have n2_ := Aside0.mk (below_step (belN HB.out) hb); clear HO_7; clear HB; have HO_7 := n0_; have HO273 := n1_; have HB := n2_; clear n0_ n1_ n2_; (try clear hb); (try clear hk); (try clear ho0)) | (go_at_call 12; (with_reducible refine (down_Do.calls kj5 _ _ t265 0 x9_5 t268 5 true t274 t275 _ ?side1 ?side2 A14.out).mono ?_); (case side1 => repeat (first | exact (Kd.R_reads' HO_7.out).2.2 | (with_reducible refine Kd.C_alloc ?_ _) | (with_reducible refine Kd.C_drewN ?_ _) | (with_reducible refine Kd.C_drew ?_))); (case side2 => exact (Kd.R_reads' HO_7.out).2.1); rintro e w17 ⟨v276, rfl, ho0, hb⟩; have n0_ := Aside0.mk (Kd.R_elder' (rowN HO_7.out) (Kd.R_base ho0) hb); have n1_ := Aside0.mk (Kd.R_elder' (rowN HO273.out) (Kd.R_base ho0) hb); have n2_ := Aside0.mk (Kd.R_lower (Kd.R_new' (Kd.R_new' ho0 (Kd.R_lt (rowN HO_7.out))) (Kd.R_lt (rowN HO273.out))) (below_size (belN HB.out))); have n3_ := Aside0.mk (below_step (belN HB.out) hb); clear HO_7; clear HO273; clear HB; have HO_7 := n0_; have HO273 := n1_; have HO277 := n2_; have HB := n3_; clear n0_ n1_ n2_ n3_; (try clear hb); (try clear hk); (try clear ho0)))
   repeat (go_quiet (first | (go_at_call 12; (with_reducible refine (down_Do.calls kj5 _ _ t265 0 x9_5 t268 5 false t270 t271 _ ?side1 ?side2 A13.out).mono ?_); (case side1 => repeat (first | exact (Kd.R_reads' HO_7.out).2.2 | (with_reducible refine Kd.C_alloc ?_ _) | (with_reducible refine Kd.C_drewN ?_ _) | (with_reducible refine Kd.C_drew ?_))); (case side2 => exact (Kd.R_reads' HO_7.out).2.1); rintro e w16 ⟨v272, rfl, ho0, hb⟩; have n0_ := Aside0.mk (Kd.R_elder' (rowN HO_7.out) (Kd.R_base ho0) hb); have n1_ := Aside0.mk (Kd.R_lower (Kd.R_new' ho0 (Kd.R_lt (rowN HO_7.out))) (below_size (belN HB.out))); have n2_ := Aside0.mk (below_step (belN HB.out) hb); clear HO_7; clear HB; have HO_7 := n0_; have HO273 := n1_; have HB := n2_; clear n0_ n1_ n2_; (try clear hb); (try clear hk); (try clear ho0)) | (go_at_call 12; (with_reducible refine (down_Do.calls kj5 _ _ t265 0 x9_5 t268 5 true t274 t275 _ ?side1 ?side2 A14.out).mono ?_); (case side1 => repeat (first | exact (Kd.R_reads' HO_7.out).2.2 | (with_reducible refine Kd.C_alloc ?_ _) | (with_reducible refine Kd.C_drewN ?_ _) | (with_reducible refine Kd.C_drew ?_))); (case side2 => exact (Kd.R_reads' HO_7.out).2.1); rintro e w17 ⟨v276, rfl, ho0, hb⟩; have n0_ := Aside0.mk (Kd.R_elder' (rowN HO_7.out) (Kd.R_base ho0) hb); have n1_ := Aside0.mk (Kd.R_elder' (rowN HO273.out) (Kd.R_base ho0) hb); have n2_ := Aside0.mk (Kd.R_lower (Kd.R_new' (Kd.R_new' ho0 (Kd.R_lt (rowN HO_7.out))) (Kd.R_lt (rowN HO273.out))) (below_size (belN HB.out))); have n3_ := Aside0.mk (below_step (belN HB.out) hb); clear HO_7; clear HO273; clear HB; have HO_7 := n0_; have HO273 := n1_; have HO277 := n2_; have HB := n3_; clear n0_ n1_ n2_ n3_; (try clear hb); (try clear hk); (try clear ho0))); go_upto_region 8 with (first | (go_at_call 12; (with_reducible refine (down_Do.calls kj5 _ _ t265 0 x9_5 t268 5 false t270 t271 _ ?side1 ?side2 A13.out).mono ?_); (case side1 => repeat (first | exact (Kd.R_reads' HO_7.out).2.2 | (with_reducible refine Kd.C_alloc ?_ _) | (with_reducible refine Kd.C_drewN ?_ _) | (with_reducible refine Kd.C_drew ?_))); (case side2 => exact (Kd.R_reads' HO_7.out).2.1); rintro e w16 ⟨v272, rfl, ho0, hb⟩; have n0_ := Aside0.mk (Kd.R_elder' (rowN HO_7.out) (Kd.R_base ho0) hb); have n1_ := Aside0.mk (Kd.R_lower (Kd.R_new' ho0 (Kd.R_lt (rowN HO_7.out))) (below_size (belN HB.out))); have n2_ := Aside0.mk (below_step (belN HB.out) hb); clear HO_7; clear HB; have HO_7 := n0_; have HO273 := n1_; have HB := n2_; clear n0_ n1_ n2_; (try clear hb); (try clear hk); (try clear ho0)) | (go_at_call 12; (with_reducible refine (down_Do.calls kj5 _ _ t265 0 x9_5 t268 5 true t274 t275 _ ?side1 ?side2 A14.out).mono ?_); (case side1 => repeat (first | exact (Kd.R_reads' HO_7.out).2.2 | (with_reducible refine Kd.C_alloc ?_ _) | (with_reducible refine Kd.C_drewN ?_ _) | (with_reducible refine Kd.C_drew ?_))); (case side2 => exact (Kd.R_reads' HO_7.out).2.1); rintro e w17 ⟨v276, rfl, ho0, hb⟩; have n0_ := Aside0.mk (Kd.R_elder' (rowN HO_7.out) (Kd.R_base ho0) hb); have n1_ := Aside0.mk (Kd.R_elder' (rowN HO273.out) (Kd.R_base ho0) hb); have n2_ := Aside0.mk (Kd.R_lower (Kd.R_new' (Kd.R_new' ho0 (Kd.R_lt (rowN HO_7.out))) (Kd.R_lt (rowN HO273.out))) (below_size (belN HB.out))); have n3_ := Aside0.mk (below_step (belN HB.out) hb); clear HO_7; clear HO273; clear HB; have HO_7 := n0_; have HO273 := n1_; have HO277 := n2_; have HB := n3_; clear n0_ n1_ n2_ n3_; (try clear hb); (try clear hk); (try clear ho0))))
   (try simp only [Act.put, List.setIfInBounds_toArray, List.set_cons_zero, List.set_cons_succ])
   go_cut [60] (fun v60 wc => ∃ (kq : Nat) (x60_14 : Bool), v60 = .bool x60_14 ∧ Aside0 (marigraphlaw21_DownParts.j1 kq t265 t268 t270 t274 x60_14 = some r) ∧ Aside0 (kq ≤ kj5) ∧ Aside0 (Kd.R k31 31 wc w.heap.size (fun k_ => some k_ ≠ (v272 : Value).ownBlock ∧ some k_ ≠ (v276 : Value).ownBlock) (.slice Ao8 t265.length co8) t265) ∧ Aside0 (Kd.R k31 31 wc w.heap.size (fun k_ => some k_ ≠ ((.slice Ao8 t265.length co8) : Value).ownBlock ∧ some k_ ≠ (v276 : Value).ownBlock) v272 t270) ∧ Aside0 (Kd.R k31 31 wc w.heap.size (fun k_ => some k_ ≠ ((.slice Ao8 t265.length co8) : Value).ownBlock ∧ some k_ ≠ (v272 : Value).ownBlock) v276 t274) ∧ Aside0 (Below w.heap.size w wc))
   case first =>
    have H := HC15.out
    clear HC15
    by_cases c18 : t271 = 0
    ·rw [if_pos c18] at H
     have c18b0 : (t271 == 0) = true := beq_iff_eq.mpr c18
     have c18b1 : (t271 != 0) = false := bne_eq_false_iff_eq.mpr c18
     clear c18
     (first | rw [c18b0] | rw [c18b1] | (simp only [i64_w, i32_w]; rw [c18b0]) | skip)
     by_cases c19 : t275 = 0
     ·rw [if_pos c19] at H
      have c19b0 : (t275 == 0) = true := beq_iff_eq.mpr c19
      have c19b1 : (t275 != 0) = false := bne_eq_false_iff_eq.mpr c19
      clear c19
      by_cases c20 : t268 = 0
      ·rw [if_pos c20] at H
       exact absurd H (by simp)
      ·rw [if_neg c20] at H
       have c20b0 : (t268 == 0) = false := beq_eq_false_iff_ne.mpr c20
       have c20b1 : (t268 != 0) = true := bne_iff_ne.mpr c20
       have H' := Aside0.mk H
       clear H
       obtain ⟨Ao21, co21, eo21⟩ := Kd.R_slice HO277.out
       subst eo21
       go_wp2
       repeat (go_quiet (fail); try go_wp2)
       go_meet
       case rel => exact ⟨_, (((t274.length : Int) != (wrap64 ((wrap64 (Int.tdiv x9_5 t268)) + 1)))), (by first | rfl | (simp; done) | (simp [*]; done)), H', ⟨by have := HJ5.out; first | omega | exact Nat.le_refl _⟩, ⟨by (with_reducible repeat (first | apply Kd.R_alloc | apply Kd.R_drewN | apply Kd.R_drew)); exact Kd.R_mono HO_7.out (fun _ hk => ⟨hk.1.2, hk.2⟩)⟩, ⟨by (with_reducible repeat (first | apply Kd.R_alloc | apply Kd.R_drewN | apply Kd.R_drew)); exact Kd.R_mono HO273.out (fun _ hk => ⟨hk.1.2, hk.2⟩)⟩, ⟨by (with_reducible repeat (first | apply Kd.R_alloc | apply Kd.R_drewN | apply Kd.R_drew)); exact Kd.R_mono HO277.out (fun _ hk => ⟨hk.1.2, hk.2⟩)⟩, ⟨(belN HB.out)⟩⟩
     ·rw [if_neg c19] at H
      have c19b0 : (t275 == 0) = false := beq_eq_false_iff_ne.mpr c19
      have c19b1 : (t275 != 0) = true := bne_iff_ne.mpr c19
      have H' := Aside0.mk H
      clear H
      go_wp2
      repeat (go_quiet (fail); try go_wp2)
      go_meet
      case rel => exact ⟨_, (true), (by first | rfl | (simp; done) | (simp [*]; done)), H', ⟨by have := HJ5.out; first | omega | exact Nat.le_refl _⟩, ⟨by (with_reducible repeat (first | apply Kd.R_alloc | apply Kd.R_drewN | apply Kd.R_drew)); exact Kd.R_mono HO_7.out (fun _ hk => ⟨hk.1.2, hk.2⟩)⟩, ⟨by (with_reducible repeat (first | apply Kd.R_alloc | apply Kd.R_drewN | apply Kd.R_drew)); exact Kd.R_mono HO273.out (fun _ hk => ⟨hk.1.2, hk.2⟩)⟩, ⟨by (with_reducible repeat (first | apply Kd.R_alloc | apply Kd.R_drewN | apply Kd.R_drew)); exact Kd.R_mono HO277.out (fun _ hk => ⟨hk.1.2, hk.2⟩)⟩, ⟨(belN HB.out)⟩⟩
    ·rw [if_neg c18] at H
     have c18b0 : (t271 == 0) = false := beq_eq_false_iff_ne.mpr c18
     have c18b1 : (t271 != 0) = true := bne_iff_ne.mpr c18
     (first | rw [c18b0] | rw [c18b1] | (simp only [i64_w, i32_w]; rw [c18b0]) | skip)
     have H' := Aside0.mk H
     clear H
     go_wp2
     repeat (go_quiet (fail); try go_wp2)
     go_meet
     case rel => exact ⟨_, (true), (by first | rfl | (simp; done) | (simp [*]; done)), H', ⟨by have := HJ5.out; first | omega | exact Nat.le_refl _⟩, ⟨by (with_reducible repeat (first | apply Kd.R_alloc | apply Kd.R_drewN | apply Kd.R_drew)); exact Kd.R_mono HO_7.out (fun _ hk => ⟨hk.1.2, hk.2⟩)⟩, ⟨by (with_reducible repeat (first | apply Kd.R_alloc | apply Kd.R_drewN | apply Kd.R_drew)); exact Kd.R_mono HO273.out (fun _ hk => ⟨hk.1.2, hk.2⟩)⟩, ⟨by (with_reducible repeat (first | apply Kd.R_alloc | apply Kd.R_drewN | apply Kd.R_drew)); exact Kd.R_mono HO277.out (fun _ hk => ⟨hk.1.2, hk.2⟩)⟩, ⟨(belN HB.out)⟩⟩
   case rest =>
    clear HC15
    try clear c1
    try clear c2
    try clear p2
    try clear q2
    try clear hx2
    try clear c5
    try clear p6
    try clear c9
    try clear c9b0
    try clear c9b1
    try clear c11
    try clear c11b0
    try clear c12
    try clear c12b0
    try clear c18
    try clear c18b0
    try clear c18b1
    try clear c19
    try clear c19b0
    try clear c19b1
    try clear c20
    try clear c20b0
    try clear c20b1
    try clear hx269_0
    try clear hx269_1
    try clear hx269_2
    try clear p2
    try clear p269
    try clear p6
    try clear q2
    try clear q269
    obtain ⟨kq, x60_14, rfl, HA, HJ14, HO_7, HO_10, HO_12, HB⟩ := hcut
    cases kq with
    | zero => exact absurd HA.out (by simp [marigraphlaw21_DownParts.j1])
    | succ kj14 =>
     have H := HA.out
     clear HA
     simp only [marigraphlaw21_DownParts.j1] at H
     by_cases c22 : x60_14 = true
     ·subst c22
      have H1 : (some false) = some r := by rw [if_pos rfl] at H; exact H
      clear H
      have H := H1
      clear H1
      obtain rfl := Option.some.inj H
      go_wp2
      repeat (go_quiet (fail); try go_wp2)
      go_ret
      exact ⟨by first | rfl | (simp [errW_none, errW_some] <;> rfl) | (simp [*, errW_none, errW_some] <;> rfl), (belN HB.out)⟩
     ·replace c22 := Bool.eq_false_iff.mpr c22
      subst c22
      have H1 : (marigraphlaw21_DownParts.l0 kj14 t265 t268 t270 t274 0 0 0) = some r := by rw [if_neg (show ¬ (false = true) by decide)] at H; exact H
      clear H
      have H := H1
      clear H1
      have H' := Aside0.mk H
      clear H
      go_wp2
      repeat (go_quiet (fail); try go_wp2)
      go_loopg [14, 15, 16] kj14 (fun kq v14 v15 v16 w' => ∃ (x14_3 : Int) (x15_3 : Int) (x16_3 : Int), v14 = .int .i64 x14_3 ∧ v15 = .int .i64 x15_3 ∧ v16 = .int .i64 x16_3 ∧ Aside0 (marigraphlaw21_DownParts.l0 kq t265 t268 t270 t274 x14_3 x15_3 x16_3 = some r) ∧ Aside0 (kq ≤ kj14) ∧ Aside0 (Kd.R k31 31 w' w.heap.size (fun k_ => some k_ ≠ (v272 : Value).ownBlock ∧ some k_ ≠ (v276 : Value).ownBlock) (.slice Ao8 t265.length co8) t265) ∧ Aside0 (Kd.R k31 31 w' w.heap.size (fun k_ => some k_ ≠ ((.slice Ao8 t265.length co8) : Value).ownBlock ∧ some k_ ≠ (v276 : Value).ownBlock) v272 t270) ∧ Aside0 (Kd.R k31 31 w' w.heap.size (fun k_ => some k_ ≠ ((.slice Ao8 t265.length co8) : Value).ownBlock ∧ some k_ ≠ (v272 : Value).ownBlock) v276 t274) ∧ Aside0 (Below w.heap.size w w'))
      case atStart => exact ⟨(0), (0), (0), (by first | rfl | (simp; done) | (simp [*]; done)), (by first | rfl | (simp; done) | (simp [*]; done)), (by first | rfl | (simp; done) | (simp [*]; done)), H', ⟨Nat.le_refl _⟩, ⟨(rowN HO_7.out)⟩, ⟨(rowN HO_10.out)⟩, ⟨(rowN HO_12.out)⟩, ⟨(belN HB.out)⟩⟩
      case round =>
       clear H'
       try clear c1
       try clear c2
       try clear p2
       try clear q2
       try clear hx2
       try clear c5
       try clear p6
       try clear c9
       try clear c9b0
       try clear c9b1
       try clear c11
       try clear c11b0
       try clear c12
       try clear c12b0
       try clear c18
       try clear c18b0
       try clear c18b1
       try clear c19
       try clear c19b0
       try clear c19b1
       try clear c20
       try clear c20b0
       try clear c20b1
       try clear c22
       try clear hx269_0
       try clear hx269_1
       try clear hx269_2
       try clear p2
       try clear p269
       try clear p6
       try clear q2
       try clear q269
       obtain ⟨x14_3, x15_3, x16_3, rfl, rfl, rfl, HA, HK3, HO_7, HO_10, HO_12, HB⟩ := hrel
       cases gk with
       | zero => exact absurd HA.out (by simp [marigraphlaw21_DownParts.l0])
       | succ k3 =>
        have H := HA.out
        clear HA
        simp only [marigraphlaw21_DownParts.l0] at H
        by_cases c23 : x16_3 < (t274.length : Int)
        ·rw [if_pos c23] at H
         have c23b0 : decide (x16_3 < (t274.length : Int)) = true := decide_eq_true c23
         clear c23
         by_cases c24 : 0 ≤ x16_3
         ·rw [if_pos c24] at H
          have c24b0 : decide (0 ≤ x16_3) = true := decide_eq_true c24
          clear c24
          by_cases c25 : ((rd_T31 t274 x16_3).f0) = (wrap64 (x16_3 * t268))
          ·rw [if_pos c25] at H
           have c25b0 : (((rd_T31 t274 x16_3).f0) == (wrap64 (x16_3 * t268))) = true := beq_iff_eq.mpr c25
           have c25b1 : (((rd_T31 t274 x16_3).f0) != (wrap64 (x16_3 * t268))) = false := bne_eq_false_iff_eq.mpr c25
           clear c25
           have HC26 := Aside0.mk H
           clear H
           obtain ⟨Ao27, co27, eo27⟩ := Kd.R_slice HO_12.out
           subst eo27
           have p283 : 0 ≤ (x16_3 : Int) := of_decide_eq_true (by first | (with_reducible assumption) | assumption)
           have q283 : x16_3 < (t274.length : Int) := of_decide_eq_true (by first | (with_reducible assumption) | assumption)
           obtain ⟨ad283, e283, hx283_0, hx283_1, hx283_2⟩ := at_T31 (Kd.R_reads' HO_12.out).2.2 x16_3 p283 q283
           cases e283
           replace p283 := eq_true p283
           replace q283 := eq_true q283
           go_upto_region 16 with (fail)
           repeat (go_quiet (fail); go_upto_region 16 with (fail))
           go_cut [92] (fun v92 wc => ∃ (kq : Nat) (x92_25 : Bool), v92 = .bool x92_25 ∧ Aside0 (marigraphlaw21_DownParts.j3 kq t265 t268 t270 t274 x14_3 x15_3 x16_3 x92_25 = some r) ∧ Aside0 (kq ≤ k3) ∧ Aside0 (Kd.R k31 31 wc w.heap.size (fun k_ => some k_ ≠ (v272 : Value).ownBlock ∧ some k_ ≠ ((.slice (some ad283) t274.length co27) : Value).ownBlock) (.slice Ao8 t265.length co8) t265) ∧ Aside0 (Kd.R k31 31 wc w.heap.size (fun k_ => some k_ ≠ ((.slice Ao8 t265.length co8) : Value).ownBlock ∧ some k_ ≠ ((.slice (some ad283) t274.length co27) : Value).ownBlock) v272 t270) ∧ Aside0 (Kd.R k31 31 wc w.heap.size (fun k_ => some k_ ≠ ((.slice Ao8 t265.length co8) : Value).ownBlock ∧ some k_ ≠ (v272 : Value).ownBlock) (.slice (some ad283) t274.length co27) t274) ∧ Aside0 (Below w.heap.size w wc))
           case first =>
            have H := HC26.out
            clear HC26
            by_cases c28 : x15_3 < (t270.length : Int)
            ·rw [if_pos c28] at H
             have c28b0 : decide (x15_3 < (t270.length : Int)) = true := decide_eq_true c28
             clear c28
             (first | rw [c28b0] | rw [c28b1] | (simp only [i64_w, i32_w]; rw [c28b0]) | skip)
             by_cases c29 : 0 ≤ x15_3
             ·rw [if_pos c29] at H
              have c29b0 : decide (0 ≤ x15_3) = true := decide_eq_true c29
              clear c29
              have H' := Aside0.mk H
              clear H
              obtain ⟨Ao30, co30, eo30⟩ := Kd.R_slice HO_10.out
              subst eo30
              have p284 : 0 ≤ (x15_3 : Int) := of_decide_eq_true (by first | (with_reducible assumption) | assumption)
              have q284 : x15_3 < (t270.length : Int) := of_decide_eq_true (by first | (with_reducible assumption) | assumption)
              obtain ⟨ad284, e284, hx284_0, hx284_1, hx284_2⟩ := at_T31 (Kd.R_reads' HO_10.out).2.2 x15_3 p284 q284
              cases e284
              replace p284 := eq_true p284
              replace q284 := eq_true q284
              have p285 : 0 ≤ (x16_3 : Int) := of_decide_eq_true (by first | (with_reducible assumption) | assumption)
              have q285 : x16_3 < (t274.length : Int) := of_decide_eq_true (by first | (with_reducible assumption) | assumption)
              obtain ⟨ad285, e285, hx285_0, hx285_1, hx285_2⟩ := at_T31 (Kd.R_reads' HO_12.out).2.2 x16_3 p285 q285
              obtain rfl : ad283 = ad285 := (by injection e285)
              replace p285 := eq_true p285
              replace q285 := eq_true q285
              go_wp2
              repeat (go_quiet (fail); try go_wp2)
              go_meet
              case rel => exact ⟨_, ((((rd_T31 t270 x15_3).f0) == ((rd_T31 t274 x16_3).f0))), (by first | rfl | (simp; done) | (simp [*]; done)), H', ⟨by have := HJ5.out; have := HJ14.out; have := HK3.out; first | omega | exact Nat.le_refl _⟩, ⟨(rowN HO_7.out)⟩, ⟨(rowN HO_10.out)⟩, ⟨(rowN HO_12.out)⟩, ⟨(belN HB.out)⟩⟩
             ·rw [if_neg c29] at H
              exact absurd H (by simp)
            ·rw [if_neg c28] at H
             have c28b0 : decide (x15_3 < (t270.length : Int)) = false := decide_eq_false c28
             clear c28
             (first | rw [c28b0] | rw [c28b1] | (simp only [i64_w, i32_w]; rw [c28b0]) | skip)
             have H' := Aside0.mk H
             clear H
             obtain ⟨Ao31, co31, eo31⟩ := Kd.R_slice HO_10.out
             subst eo31
             go_wp2
             repeat (go_quiet (fail); try go_wp2)
             go_meet
             case rel => exact ⟨_, (false), (by first | rfl | (simp; done) | (simp [*]; done)), H', ⟨by have := HJ5.out; have := HJ14.out; have := HK3.out; first | omega | exact Nat.le_refl _⟩, ⟨(rowN HO_7.out)⟩, ⟨(rowN HO_10.out)⟩, ⟨(rowN HO_12.out)⟩, ⟨(belN HB.out)⟩⟩
           case rest =>
            clear HC26
            try clear c1
            try clear c2
            try clear p2
            try clear q2
            try clear hx2
            try clear c5
            try clear p6
            try clear c9
            try clear c9b0
            try clear c9b1
            try clear c11
            try clear c11b0
            try clear c12
            try clear c12b0
            try clear c18
            try clear c18b0
            try clear c18b1
            try clear c19
            try clear c19b0
            try clear c19b1
            try clear c20
            try clear c20b0
            try clear c20b1
            try clear c22
            try clear c23
            try clear c23b0
            try clear c24
            try clear c24b0
            try clear c25
            try clear c25b0
            try clear c25b1
            try clear p26
            try clear q26
            try clear hx26
            try clear c28
            try clear c28b0
            try clear p28
            try clear q28
            try clear hx28
            try clear c29
            try clear c29b0
            try clear hx269_0
            try clear hx269_1
            try clear hx269_2
            try clear hx283_0
            try clear hx283_1
            try clear hx283_2
            try clear hx284_0
            try clear hx284_1
            try clear hx284_2
            try clear hx285_0
            try clear hx285_1
            try clear hx285_2
            try clear p2
            try clear p269
            try clear p283
            try clear p284
            try clear p285
            try clear p6
            try clear q2
            try clear q269
            try clear q283
            try clear q284
            try clear q285
            obtain ⟨kq, x92_25, rfl, HA, HJ25, HO_7, HO_10, HO_12, HB⟩ := hcut
            cases kq with
            | zero => exact absurd HA.out (by simp [marigraphlaw21_DownParts.j3])
            | succ kj25 =>
             have H := HA.out
             clear HA
             simp only [marigraphlaw21_DownParts.j3] at H
             by_cases c32 : x92_25 = true
             ·subst c32
              have H1 : (if 0 ≤ x15_3 then (if x15_3 < (t270.length : Int) then (if 0 ≤ x16_3 then (if x16_3 < (t274.length : Int) then (if (!(((rd_T31 t270 x15_3).f1.f0) == ((rd_T31 t274 x16_3).f1.f0)) || (!(((rd_T31 t270 x15_3).f1.f1) == ((rd_T31 t274 x16_3).f1.f1)))) = true then (some false) else (if ((rd_T31 t270 x15_3).f1.f0) < 1 then (some false) else (marigraphlaw21_DownParts.l0 kj25 t265 t268 t270 t274 (wrap64 (x14_3 + ((rd_T31 t274 x16_3).f1.f0))) (wrap64 (x15_3 + 1)) (wrap64 (x16_3 + 1))))) else (none)) else (none)) else (none)) else (none)) = some r := by rw [if_pos rfl] at H; exact H
              clear H
              have H := H1
              clear H1
              by_cases c33 : 0 ≤ x15_3
              ·rw [if_pos c33] at H
               have c33b0 : decide (0 ≤ x15_3) = true := decide_eq_true c33
               clear c33
               by_cases c34 : x15_3 < (t270.length : Int)
               ·rw [if_pos c34] at H
                have c34b0 : decide (x15_3 < (t270.length : Int)) = true := decide_eq_true c34
                clear c34
                by_cases c35 : 0 ≤ x16_3
                ·rw [if_pos c35] at H
                 have c35b0 : decide (0 ≤ x16_3) = true := decide_eq_true c35
                 clear c35
                 by_cases c36 : x16_3 < (t274.length : Int)
                 ·rw [if_pos c36] at H
                  have c36b0 : decide (x16_3 < (t274.length : Int)) = true := decide_eq_true c36
                  clear c36
                  by_cases c37 : (!(((rd_T31 t270 x15_3).f1.f0) == ((rd_T31 t274 x16_3).f1.f0)) || (!(((rd_T31 t270 x15_3).f1.f1) == ((rd_T31 t274 x16_3).f1.f1)))) = true
                  ·rw [if_pos c37] at H
                   have c37b0 : (!(((rd_T31 t270 x15_3).f1.f0) == ((rd_T31 t274 x16_3).f1.f0)) || (!(((rd_T31 t270 x15_3).f1.f1) == ((rd_T31 t274 x16_3).f1.f1)))) = true := c37
                   clear c37
                   obtain rfl := Option.some.inj H
                   obtain ⟨Ao38, co38, eo38⟩ := Kd.R_slice HO_10.out
                   subst eo38
                   have p286 : 0 ≤ (x15_3 : Int) := of_decide_eq_true (by first | (with_reducible assumption) | assumption)
                   have q286 : x15_3 < (t270.length : Int) := of_decide_eq_true (by first | (with_reducible assumption) | assumption)
                   obtain ⟨ad286, e286, hx286_0, hx286_1, hx286_2⟩ := at_T31 (Kd.R_reads' HO_10.out).2.2 x15_3 p286 q286
                   cases e286
                   replace p286 := eq_true p286
                   replace q286 := eq_true q286
                   have p287 : 0 ≤ (x16_3 : Int) := of_decide_eq_true (by first | (with_reducible assumption) | assumption)
                   have q287 : x16_3 < (t274.length : Int) := of_decide_eq_true (by first | (with_reducible assumption) | assumption)
                   obtain ⟨ad287, e287, hx287_0, hx287_1, hx287_2⟩ := at_T31 (Kd.R_reads' HO_12.out).2.2 x16_3 p287 q287
                   obtain rfl : ad283 = ad287 := (by injection e287)
                   replace p287 := eq_true p287
                   replace q287 := eq_true q287
                   go_wp2
                   repeat (go_quiet (fail); try go_wp2)
                   go_ret
                   exact ⟨by first | rfl | (simp [errW_none, errW_some] <;> rfl) | (simp [*, errW_none, errW_some] <;> rfl), (belN HB.out)⟩
                  ·rw [if_neg c37] at H
                   have c37b0 : (!(((rd_T31 t270 x15_3).f1.f0) == ((rd_T31 t274 x16_3).f1.f0)) || (!(((rd_T31 t270 x15_3).f1.f1) == ((rd_T31 t274 x16_3).f1.f1)))) = false := by simpa using c37
                   clear c37
                   by_cases c39 : ((rd_T31 t270 x15_3).f1.f0) < 1
                   ·rw [if_pos c39] at H
                    have c39b0 : decide (((rd_T31 t270 x15_3).f1.f0) < 1) = true := decide_eq_true c39
                    clear c39
                    obtain rfl := Option.some.inj H
                    obtain ⟨Ao40, co40, eo40⟩ := Kd.R_slice HO_10.out
                    subst eo40
                    have p286 : 0 ≤ (x15_3 : Int) := of_decide_eq_true (by first | (with_reducible assumption) | assumption)
                    have q286 : x15_3 < (t270.length : Int) := of_decide_eq_true (by first | (with_reducible assumption) | assumption)
                    obtain ⟨ad286, e286, hx286_0, hx286_1, hx286_2⟩ := at_T31 (Kd.R_reads' HO_10.out).2.2 x15_3 p286 q286
                    cases e286
                    replace p286 := eq_true p286
                    replace q286 := eq_true q286
                    have p287 : 0 ≤ (x16_3 : Int) := of_decide_eq_true (by first | (with_reducible assumption) | assumption)
                    have q287 : x16_3 < (t274.length : Int) := of_decide_eq_true (by first | (with_reducible assumption) | assumption)
                    obtain ⟨ad287, e287, hx287_0, hx287_1, hx287_2⟩ := at_T31 (Kd.R_reads' HO_12.out).2.2 x16_3 p287 q287
                    obtain rfl : ad283 = ad287 := (by injection e287)
                    replace p287 := eq_true p287
                    replace q287 := eq_true q287
                    have p288 : 0 ≤ (x15_3 : Int) := of_decide_eq_true (by first | (with_reducible assumption) | assumption)
                    have q288 : x15_3 < (t270.length : Int) := of_decide_eq_true (by first | (with_reducible assumption) | assumption)
                    obtain ⟨ad288, e288, hx288_0, hx288_1, hx288_2⟩ := at_T31 (Kd.R_reads' HO_10.out).2.2 x15_3 p288 q288
                    obtain rfl : ad286 = ad288 := (by injection e288)
                    replace p288 := eq_true p288
                    replace q288 := eq_true q288
                    go_wp2
                    repeat (go_quiet (fail); try go_wp2)
                    go_ret
                    exact ⟨by first | rfl | (simp [errW_none, errW_some] <;> rfl) | (simp [*, errW_none, errW_some] <;> rfl), (belN HB.out)⟩
                   ·rw [if_neg c39] at H
                    have c39b0 : decide (((rd_T31 t270 x15_3).f1.f0) < 1) = false := decide_eq_false c39
                    clear c39
                    have H' := Aside0.mk H
                    clear H
                    obtain ⟨Ao41, co41, eo41⟩ := Kd.R_slice HO_10.out
                    subst eo41
                    have p286 : 0 ≤ (x15_3 : Int) := of_decide_eq_true (by first | (with_reducible assumption) | assumption)
                    have q286 : x15_3 < (t270.length : Int) := of_decide_eq_true (by first | (with_reducible assumption) | assumption)
                    obtain ⟨ad286, e286, hx286_0, hx286_1, hx286_2⟩ := at_T31 (Kd.R_reads' HO_10.out).2.2 x15_3 p286 q286
                    cases e286
                    replace p286 := eq_true p286
                    replace q286 := eq_true q286
                    have p287 : 0 ≤ (x16_3 : Int) := of_decide_eq_true (by first | (with_reducible assumption) | assumption)
                    have q287 : x16_3 < (t274.length : Int) := of_decide_eq_true (by first | (with_reducible assumption) | assumption)
                    obtain ⟨ad287, e287, hx287_0, hx287_1, hx287_2⟩ := at_T31 (Kd.R_reads' HO_12.out).2.2 x16_3 p287 q287
                    obtain rfl : ad283 = ad287 := (by injection e287)
                    replace p287 := eq_true p287
                    replace q287 := eq_true q287
                    have p288 : 0 ≤ (x15_3 : Int) := of_decide_eq_true (by first | (with_reducible assumption) | assumption)
                    have q288 : x15_3 < (t270.length : Int) := of_decide_eq_true (by first | (with_reducible assumption) | assumption)
                    obtain ⟨ad288, e288, hx288_0, hx288_1, hx288_2⟩ := at_T31 (Kd.R_reads' HO_10.out).2.2 x15_3 p288 q288
                    obtain rfl : ad286 = ad288 := (by injection e288)
                    replace p288 := eq_true p288
                    replace q288 := eq_true q288
                    have p289 : 0 ≤ (x16_3 : Int) := of_decide_eq_true (by first | (with_reducible assumption) | assumption)
                    have q289 : x16_3 < (t274.length : Int) := of_decide_eq_true (by first | (with_reducible assumption) | assumption)
                    obtain ⟨ad289, e289, hx289_0, hx289_1, hx289_2⟩ := at_T31 (Kd.R_reads' HO_12.out).2.2 x16_3 p289 q289
                    obtain rfl : ad283 = ad289 := (by injection e289)
                    replace p289 := eq_true p289
                    replace q289 := eq_true q289
                    go_wp2
                    repeat (go_quiet (fail); try go_wp2)
                    go_roundg kj25
                    case measure => have := HJ5.out; have := HJ14.out; have := HK3.out; have := HJ25.out; omega
                    case rel => exact ⟨(wrap64 (x14_3 + ((rd_T31 t274 x16_3).f1.f0))), (wrap64 (x15_3 + 1)), (wrap64 (x16_3 + 1)), (by first | rfl | (simp; done) | (simp [*]; done)), (by first | rfl | (simp; done) | (simp [*]; done)), (by first | rfl | (simp; done) | (simp [*]; done)), H', ⟨by have := HJ5.out; have := HJ14.out; have := HK3.out; have := HJ25.out; omega⟩, ⟨(rowN HO_7.out)⟩, ⟨(rowN HO_10.out)⟩, ⟨(rowN HO_12.out)⟩, ⟨(belN HB.out)⟩⟩
                 ·rw [if_neg c36] at H
                  exact absurd H (by simp)
                ·rw [if_neg c35] at H
                 exact absurd H (by simp)
               ·rw [if_neg c34] at H
                exact absurd H (by simp)
              ·rw [if_neg c33] at H
               exact absurd H (by simp)
             ·replace c32 := Bool.eq_false_iff.mpr c32
              subst c32
              have H1 : (if 0 ≤ x16_3 then (if x16_3 < (t274.length : Int) then (if (!(((rd_T31 t274 x16_3).f1.f0) == 0) || (!(((rd_T31 t274 x16_3).f1.f1) == 1))) = true then (some false) else (marigraphlaw21_DownParts.l0 kj25 t265 t268 t270 t274 (wrap64 (x14_3 + ((rd_T31 t274 x16_3).f1.f0))) x15_3 (wrap64 (x16_3 + 1)))) else (none)) else (none)) = some r := by rw [if_neg (show ¬ (false = true) by decide)] at H; exact H
              clear H
              have H := H1
              clear H1
              by_cases c42 : 0 ≤ x16_3
              ·rw [if_pos c42] at H
               have c42b0 : decide (0 ≤ x16_3) = true := decide_eq_true c42
               clear c42
               by_cases c43 : x16_3 < (t274.length : Int)
               ·rw [if_pos c43] at H
                have c43b0 : decide (x16_3 < (t274.length : Int)) = true := decide_eq_true c43
                clear c43
                by_cases c44 : (!(((rd_T31 t274 x16_3).f1.f0) == 0) || (!(((rd_T31 t274 x16_3).f1.f1) == 1))) = true
                ·rw [if_pos c44] at H
                 have c44b0 : (!(((rd_T31 t274 x16_3).f1.f0) == 0) || (!(((rd_T31 t274 x16_3).f1.f1) == 1))) = true := c44
                 clear c44
                 obtain rfl := Option.some.inj H
                 have p290 : 0 ≤ (x16_3 : Int) := of_decide_eq_true (by first | (with_reducible assumption) | assumption)
                 have q290 : x16_3 < (t274.length : Int) := of_decide_eq_true (by first | (with_reducible assumption) | assumption)
                 obtain ⟨ad290, e290, hx290_0, hx290_1, hx290_2⟩ := at_T31 (Kd.R_reads' HO_12.out).2.2 x16_3 p290 q290
                 obtain rfl : ad283 = ad290 := (by injection e290)
                 replace p290 := eq_true p290
                 replace q290 := eq_true q290
                 go_wp2
                 repeat (go_quiet (fail); try go_wp2)
                 go_ret
                 exact ⟨by first | rfl | (simp [errW_none, errW_some] <;> rfl) | (simp [*, errW_none, errW_some] <;> rfl), (belN HB.out)⟩
                ·rw [if_neg c44] at H
                 have c44b0 : (!(((rd_T31 t274 x16_3).f1.f0) == 0) || (!(((rd_T31 t274 x16_3).f1.f1) == 1))) = false := by simpa using c44
                 clear c44
                 have H' := Aside0.mk H
                 clear H
                 have p290 : 0 ≤ (x16_3 : Int) := of_decide_eq_true (by first | (with_reducible assumption) | assumption)
                 have q290 : x16_3 < (t274.length : Int) := of_decide_eq_true (by first | (with_reducible assumption) | assumption)
                 obtain ⟨ad290, e290, hx290_0, hx290_1, hx290_2⟩ := at_T31 (Kd.R_reads' HO_12.out).2.2 x16_3 p290 q290
                 obtain rfl : ad283 = ad290 := (by injection e290)
                 replace p290 := eq_true p290
                 replace q290 := eq_true q290
                 have p291 : 0 ≤ (x16_3 : Int) := of_decide_eq_true (by first | (with_reducible assumption) | assumption)
                 have q291 : x16_3 < (t274.length : Int) := of_decide_eq_true (by first | (with_reducible assumption) | assumption)
                 obtain ⟨ad291, e291, hx291_0, hx291_1, hx291_2⟩ := at_T31 (Kd.R_reads' HO_12.out).2.2 x16_3 p291 q291
                 obtain rfl : ad283 = ad291 := (by injection e291)
                 replace p291 := eq_true p291
                 replace q291 := eq_true q291
                 go_wp2
                 repeat (go_quiet (fail); try go_wp2)
                 go_roundg kj25
                 case measure => have := HJ5.out; have := HJ14.out; have := HK3.out; have := HJ25.out; omega
                 case rel => exact ⟨(wrap64 (x14_3 + ((rd_T31 t274 x16_3).f1.f0))), (x15_3), (wrap64 (x16_3 + 1)), (by first | rfl | (simp; done) | (simp [*]; done)), (by first | rfl | (simp; done) | (simp [*]; done)), (by first | rfl | (simp; done) | (simp [*]; done)), H', ⟨by have := HJ5.out; have := HJ14.out; have := HK3.out; have := HJ25.out; omega⟩, ⟨(rowN HO_7.out)⟩, ⟨(rowN HO_10.out)⟩, ⟨(rowN HO_12.out)⟩, ⟨(belN HB.out)⟩⟩
               ·rw [if_neg c43] at H
                exact absurd H (by simp)
              ·rw [if_neg c42] at H
               exact absurd H (by simp)
          ·rw [if_neg c25] at H
           have c25b0 : (((rd_T31 t274 x16_3).f0) == (wrap64 (x16_3 * t268))) = false := beq_eq_false_iff_ne.mpr c25
           have c25b1 : (((rd_T31 t274 x16_3).f0) != (wrap64 (x16_3 * t268))) = true := bne_iff_ne.mpr c25
           obtain rfl := Option.some.inj H
           obtain ⟨Ao45, co45, eo45⟩ := Kd.R_slice HO_12.out
           subst eo45
           have p283 : 0 ≤ (x16_3 : Int) := of_decide_eq_true (by first | (with_reducible assumption) | assumption)
           have q283 : x16_3 < (t274.length : Int) := of_decide_eq_true (by first | (with_reducible assumption) | assumption)
           obtain ⟨ad283, e283, hx283_0, hx283_1, hx283_2⟩ := at_T31 (Kd.R_reads' HO_12.out).2.2 x16_3 p283 q283
           cases e283
           replace p283 := eq_true p283
           replace q283 := eq_true q283
           go_wp2
           repeat (go_quiet (fail); try go_wp2)
           go_ret
           exact ⟨by first | rfl | (simp [errW_none, errW_some] <;> rfl) | (simp [*, errW_none, errW_some] <;> rfl), (belN HB.out)⟩
         ·rw [if_neg c24] at H
          exact absurd H (by simp)
        ·rw [if_neg c23] at H
         have c23b0 : decide (x16_3 < (t274.length : Int)) = false := decide_eq_false c23
         clear c23
         by_cases c46 : x15_3 = (t270.length : Int)
         ·rw [if_pos c46] at H
          have c46b0 : (x15_3 == (t270.length : Int)) = true := beq_iff_eq.mpr c46
          have c46b1 : (x15_3 != (t270.length : Int)) = false := bne_eq_false_iff_eq.mpr c46
          clear c46
          by_cases c47 : x14_3 = (t265.length : Int)
          ·rw [if_pos c47] at H
           have c47b0 : (x14_3 == (t265.length : Int)) = true := beq_iff_eq.mpr c47
           have c47b1 : (x14_3 != (t265.length : Int)) = false := bne_eq_false_iff_eq.mpr c47
           clear c47
           by_cases c48 : (t265.length : Int) = 0
           ·rw [if_pos c48] at H
            have c48b0 : ((t265.length : Int) == 0) = true := beq_iff_eq.mpr c48
            have c48b1 : ((t265.length : Int) != 0) = false := bne_eq_false_iff_eq.mpr c48
            clear c48
            replace H := Option.bind_eq_some_iff.mp H
            obtain ⟨t278, A490, H⟩ := H
            replace H : (some t278) = some r := H
            have A49 := Aside0.mk A490
            clear A490
            obtain rfl := Option.some.inj H
            obtain ⟨Ao50, co50, eo50⟩ := Kd.R_slice HO_12.out
            subst eo50
            obtain ⟨Ao51, co51, eo51⟩ := Kd.R_slice HO_10.out
            subst eo51
            go_wp2_with (first | (go_at_call 10; (with_reducible refine (marigraphlaw21_known.calls k3  t278 _ A49.out).mono ?_); rintro e w52 ⟨rfl, hb⟩; have n0_ := Aside0.mk (Kd.R_below (rowN HO_7.out) hb); have n1_ := Aside0.mk (Kd.R_below (rowN HO_10.out) hb); have n2_ := Aside0.mk (Kd.R_below (rowN HO_12.out) hb); have n3_ := Aside0.mk (below_step (belN HB.out) hb); clear HO_7; clear HO_10; clear HO_12; clear HB; have HO_7 := n0_; have HO_10 := n1_; have HO_12 := n2_; have HB := n3_; clear n0_ n1_ n2_ n3_; (try clear hb); (try clear hk)))
            repeat (go_quiet (first | (go_at_call 10; (with_reducible refine (marigraphlaw21_known.calls k3  t278 _ A49.out).mono ?_); rintro e w52 ⟨rfl, hb⟩; have n0_ := Aside0.mk (Kd.R_below (rowN HO_7.out) hb); have n1_ := Aside0.mk (Kd.R_below (rowN HO_10.out) hb); have n2_ := Aside0.mk (Kd.R_below (rowN HO_12.out) hb); have n3_ := Aside0.mk (below_step (belN HB.out) hb); clear HO_7; clear HO_10; clear HO_12; clear HB; have HO_7 := n0_; have HO_10 := n1_; have HO_12 := n2_; have HB := n3_; clear n0_ n1_ n2_ n3_; (try clear hb); (try clear hk))); try go_wp2_with (first | (go_at_call 10; (with_reducible refine (marigraphlaw21_known.calls k3  t278 _ A49.out).mono ?_); rintro e w52 ⟨rfl, hb⟩; have n0_ := Aside0.mk (Kd.R_below (rowN HO_7.out) hb); have n1_ := Aside0.mk (Kd.R_below (rowN HO_10.out) hb); have n2_ := Aside0.mk (Kd.R_below (rowN HO_12.out) hb); have n3_ := Aside0.mk (below_step (belN HB.out) hb); clear HO_7; clear HO_10; clear HO_12; clear HB; have HO_7 := n0_; have HO_10 := n1_; have HO_12 := n2_; have HB := n3_; clear n0_ n1_ n2_ n3_; (try clear hb); (try clear hk))))
            go_ret
            exact ⟨by first | rfl | (simp [errW_none, errW_some] <;> rfl) | (simp [*, errW_none, errW_some] <;> rfl), (belN HB.out)⟩
           ·rw [if_neg c48] at H
            have c48b0 : ((t265.length : Int) == 0) = false := beq_eq_false_iff_ne.mpr c48
            have c48b1 : ((t265.length : Int) != 0) = true := bne_iff_ne.mpr c48
            have c48b2 : ¬ (t265 = []) := fun h_ => c48 (by rw [h_]; rfl)
            by_cases c53 : 0 < (t265.length : Int)
            ·rw [if_pos c53] at H
             have c53b0 : decide (0 < (t265.length : Int)) = true := decide_eq_true c53
             have c53b1 : decide (0 < t265.length) = true := decide_eq_true (by omega)
             clear c53
             replace H := Option.bind_eq_some_iff.mp H
             obtain ⟨t280, A540, H⟩ := H
             replace H : (if t280 = true then ((marigraphref20_Right.f 1).bind fun t281 => (if t281 = true then ((marigraphlaw21_known.f k3).bind fun t282 => (some t282)) else (some false))) else (some false)) = some r := H
             have A54 := Aside0.mk A540
             clear A540
             by_cases c55 : t280 = true
             ·subst c55
              have H1 : ((marigraphref20_Right.f 1).bind fun t281 => (if t281 = true then ((marigraphlaw21_known.f k3).bind fun t282 => (some t282)) else (some false))) = some r := by rw [if_pos rfl] at H; exact H
              clear H
              have H := H1
              clear H1
              replace H := Option.bind_eq_some_iff.mp H
              obtain ⟨t281, A560, H⟩ := H
              replace H : (if t281 = true then ((marigraphlaw21_known.f k3).bind fun t282 => (some t282)) else (some false)) = some r := H
              have A56 := Aside0.mk A560
              clear A560
              by_cases c57 : t281 = true
              ·subst c57
               have H1 : ((marigraphlaw21_known.f k3).bind fun t282 => (some t282)) = some r := by rw [if_pos rfl] at H; exact H
               clear H
               have H := H1
               clear H1
               replace H := Option.bind_eq_some_iff.mp H
               obtain ⟨t282, A580, H⟩ := H
               replace H : (some t282) = some r := H
               have A58 := Aside0.mk A580
               clear A580
               obtain rfl := Option.some.inj H
               obtain ⟨Ao59, co59, eo59⟩ := Kd.R_slice HO_12.out
               subst eo59
               obtain ⟨Ao60, co60, eo60⟩ := Kd.R_slice HO_10.out
               subst eo60
               have p279 : 0 ≤ (0 : Int) := (by omega)
               have q279 : 0 < (t265.length : Int) := of_decide_eq_true (by first | (with_reducible assumption) | assumption)
               obtain ⟨ad279, e279, hx279_0, hx279_1, hx279_2⟩ := at_T31 (Kd.R_reads' HO_7.out).2.2 0 p279 q279
               cases e279
               have qi279 : (0 < t265.length) = True := eq_true (by omega)
               (try rw [show ((0 : Int)).toNat = 0 from rfl] at hx279_0)
               (try rw [show 0 * 3 = 0 from rfl] at hx279_0)
               (try rw [Addr.add_zero'] at hx279_0)
               (try rw [show ((0 : Int)).toNat = 0 from rfl] at hx279_1)
               (try rw [show 0 * 3 = 0 from rfl] at hx279_1)
               (try rw [Addr.add_zero'] at hx279_1)
               (try rw [show ((0 : Int)).toNat = 0 from rfl] at hx279_2)
               (try rw [show 0 * 3 = 0 from rfl] at hx279_2)
               (try rw [Addr.add_zero'] at hx279_2)
               replace p279 := eq_true p279
               replace q279 := eq_true q279
               go_wp2_with (first | (go_at_call 13; (with_reducible refine (marigraphref1_Right.calls k3 ((rd_T31 t265 0).f1.f0) ((rd_T31 t265 0).f1.f1) true _ A54.out).mono ?_); rintro e w61 ⟨rfl, hb⟩; have n0_ := Aside0.mk (Kd.R_below (rowN HO_7.out) hb); have n1_ := Aside0.mk (Kd.R_below (rowN HO_10.out) hb); have n2_ := Aside0.mk (Kd.R_below (rowN HO_12.out) hb); have n3_ := Aside0.mk (below_step (belN HB.out) hb); clear HO_7; clear HO_10; clear HO_12; clear HB; have HO_7 := n0_; have HO_10 := n1_; have HO_12 := n2_; have HB := n3_; clear n0_ n1_ n2_ n3_; (try clear hb); (try clear hk)) | (go_at_call 14; (with_reducible refine (marigraphref20_Right.calls 1 true _ A56.out).mono ?_); rintro e w' ⟨rfl, ⟨nd, rfl⟩⟩; (try first | exact ⟨rfl, _, World.drewN_drewN _ _ _⟩ | exact ⟨rfl, _, Eq.trans (World.drewN_drewN _ _ _) (congrArg (World.drewN _) (Nat.add_assoc _ _ _))⟩)) | (go_at_call 10; (with_reducible refine (marigraphlaw21_known.calls k3  t282 _ A58.out).mono ?_); rintro e w62 ⟨rfl, hb⟩; have n0_ := Aside0.mk (Kd.R_below (rowN HO_7.out) hb); have n1_ := Aside0.mk (Kd.R_below (rowN HO_10.out) hb); have n2_ := Aside0.mk (Kd.R_below (rowN HO_12.out) hb); have n3_ := Aside0.mk (below_step (belN HB.out) hb); clear HO_7; clear HO_10; clear HO_12; clear HB; have HO_7 := n0_; have HO_10 := n1_; have HO_12 := n2_; have HB := n3_; clear n0_ n1_ n2_ n3_; (try clear hb); (try clear hk)))
               repeat (go_quiet (first | (go_at_call 13; (with_reducible refine (marigraphref1_Right.calls k3 ((rd_T31 t265 0).f1.f0) ((rd_T31 t265 0).f1.f1) true _ A54.out).mono ?_); rintro e w61 ⟨rfl, hb⟩; have n0_ := Aside0.mk (Kd.R_below (rowN HO_7.out) hb); have n1_ := Aside0.mk (Kd.R_below (rowN HO_10.out) hb); have n2_ := Aside0.mk (Kd.R_below (rowN HO_12.out) hb); have n3_ := Aside0.mk (below_step (belN HB.out) hb); clear HO_7; clear HO_10; clear HO_12; clear HB; have HO_7 := n0_; have HO_10 := n1_; have HO_12 := n2_; have HB := n3_; clear n0_ n1_ n2_ n3_; (try clear hb); (try clear hk)) | (go_at_call 14; (with_reducible refine (marigraphref20_Right.calls 1 true _ A56.out).mono ?_); rintro e w' ⟨rfl, ⟨nd, rfl⟩⟩; (try first | exact ⟨rfl, _, World.drewN_drewN _ _ _⟩ | exact ⟨rfl, _, Eq.trans (World.drewN_drewN _ _ _) (congrArg (World.drewN _) (Nat.add_assoc _ _ _))⟩)) | (go_at_call 10; (with_reducible refine (marigraphlaw21_known.calls k3  t282 _ A58.out).mono ?_); rintro e w62 ⟨rfl, hb⟩; have n0_ := Aside0.mk (Kd.R_below (rowN HO_7.out) hb); have n1_ := Aside0.mk (Kd.R_below (rowN HO_10.out) hb); have n2_ := Aside0.mk (Kd.R_below (rowN HO_12.out) hb); have n3_ := Aside0.mk (below_step (belN HB.out) hb); clear HO_7; clear HO_10; clear HO_12; clear HB; have HO_7 := n0_; have HO_10 := n1_; have HO_12 := n2_; have HB := n3_; clear n0_ n1_ n2_ n3_; (try clear hb); (try clear hk))); try go_wp2_with (first | (go_at_call 13; (with_reducible refine (marigraphref1_Right.calls k3 ((rd_T31 t265 0).f1.f0) ((rd_T31 t265 0).f1.f1) true _ A54.out).mono ?_); rintro e w61 ⟨rfl, hb⟩; have n0_ := Aside0.mk (Kd.R_below (rowN HO_7.out) hb); have n1_ := Aside0.mk (Kd.R_below (rowN HO_10.out) hb); have n2_ := Aside0.mk (Kd.R_below (rowN HO_12.out) hb); have n3_ := Aside0.mk (below_step (belN HB.out) hb); clear HO_7; clear HO_10; clear HO_12; clear HB; have HO_7 := n0_; have HO_10 := n1_; have HO_12 := n2_; have HB := n3_; clear n0_ n1_ n2_ n3_; (try clear hb); (try clear hk)) | (go_at_call 14; (with_reducible refine (marigraphref20_Right.calls 1 true _ A56.out).mono ?_); rintro e w' ⟨rfl, ⟨nd, rfl⟩⟩; (try first | exact ⟨rfl, _, World.drewN_drewN _ _ _⟩ | exact ⟨rfl, _, Eq.trans (World.drewN_drewN _ _ _) (congrArg (World.drewN _) (Nat.add_assoc _ _ _))⟩)) | (go_at_call 10; (with_reducible refine (marigraphlaw21_known.calls k3  t282 _ A58.out).mono ?_); rintro e w62 ⟨rfl, hb⟩; have n0_ := Aside0.mk (Kd.R_below (rowN HO_7.out) hb); have n1_ := Aside0.mk (Kd.R_below (rowN HO_10.out) hb); have n2_ := Aside0.mk (Kd.R_below (rowN HO_12.out) hb); have n3_ := Aside0.mk (below_step (belN HB.out) hb); clear HO_7; clear HO_10; clear HO_12; clear HB; have HO_7 := n0_; have HO_10 := n1_; have HO_12 := n2_; have HB := n3_; clear n0_ n1_ n2_ n3_; (try clear hb); (try clear hk))))
               go_ret
               exact ⟨by first | rfl | (simp [errW_none, errW_some] <;> rfl) | (simp [*, errW_none, errW_some] <;> rfl), (belN HB.out)⟩
              ·replace c57 := Bool.eq_false_iff.mpr c57
               subst c57
               have H1 : (some false) = some r := by rw [if_neg (show ¬ (false = true) by decide)] at H; exact H
               clear H
               have H := H1
               clear H1
               obtain rfl := Option.some.inj H
               obtain ⟨Ao63, co63, eo63⟩ := Kd.R_slice HO_12.out
               subst eo63
               obtain ⟨Ao64, co64, eo64⟩ := Kd.R_slice HO_10.out
               subst eo64
               have p279 : 0 ≤ (0 : Int) := (by omega)
               have q279 : 0 < (t265.length : Int) := of_decide_eq_true (by first | (with_reducible assumption) | assumption)
               obtain ⟨ad279, e279, hx279_0, hx279_1, hx279_2⟩ := at_T31 (Kd.R_reads' HO_7.out).2.2 0 p279 q279
               cases e279
               have qi279 : (0 < t265.length) = True := eq_true (by omega)
               (try rw [show ((0 : Int)).toNat = 0 from rfl] at hx279_0)
               (try rw [show 0 * 3 = 0 from rfl] at hx279_0)
               (try rw [Addr.add_zero'] at hx279_0)
               (try rw [show ((0 : Int)).toNat = 0 from rfl] at hx279_1)
               (try rw [show 0 * 3 = 0 from rfl] at hx279_1)
               (try rw [Addr.add_zero'] at hx279_1)
               (try rw [show ((0 : Int)).toNat = 0 from rfl] at hx279_2)
               (try rw [show 0 * 3 = 0 from rfl] at hx279_2)
               (try rw [Addr.add_zero'] at hx279_2)
               replace p279 := eq_true p279
               replace q279 := eq_true q279
               go_wp2_with (first | (go_at_call 13; (with_reducible refine (marigraphref1_Right.calls k3 ((rd_T31 t265 0).f1.f0) ((rd_T31 t265 0).f1.f1) true _ A54.out).mono ?_); rintro e w65 ⟨rfl, hb⟩; have n0_ := Aside0.mk (Kd.R_below (rowN HO_7.out) hb); have n1_ := Aside0.mk (Kd.R_below (rowN HO_10.out) hb); have n2_ := Aside0.mk (Kd.R_below (rowN HO_12.out) hb); have n3_ := Aside0.mk (below_step (belN HB.out) hb); clear HO_7; clear HO_10; clear HO_12; clear HB; have HO_7 := n0_; have HO_10 := n1_; have HO_12 := n2_; have HB := n3_; clear n0_ n1_ n2_ n3_; (try clear hb); (try clear hk)) | (go_at_call 14; (with_reducible refine (marigraphref20_Right.calls 1 false _ A56.out).mono ?_); rintro e w' ⟨rfl, ⟨nd, rfl⟩⟩; (try first | exact ⟨rfl, _, World.drewN_drewN _ _ _⟩ | exact ⟨rfl, _, Eq.trans (World.drewN_drewN _ _ _) (congrArg (World.drewN _) (Nat.add_assoc _ _ _))⟩)))
               repeat (go_quiet (first | (go_at_call 13; (with_reducible refine (marigraphref1_Right.calls k3 ((rd_T31 t265 0).f1.f0) ((rd_T31 t265 0).f1.f1) true _ A54.out).mono ?_); rintro e w65 ⟨rfl, hb⟩; have n0_ := Aside0.mk (Kd.R_below (rowN HO_7.out) hb); have n1_ := Aside0.mk (Kd.R_below (rowN HO_10.out) hb); have n2_ := Aside0.mk (Kd.R_below (rowN HO_12.out) hb); have n3_ := Aside0.mk (below_step (belN HB.out) hb); clear HO_7; clear HO_10; clear HO_12; clear HB; have HO_7 := n0_; have HO_10 := n1_; have HO_12 := n2_; have HB := n3_; clear n0_ n1_ n2_ n3_; (try clear hb); (try clear hk)) | (go_at_call 14; (with_reducible refine (marigraphref20_Right.calls 1 false _ A56.out).mono ?_); rintro e w' ⟨rfl, ⟨nd, rfl⟩⟩; (try first | exact ⟨rfl, _, World.drewN_drewN _ _ _⟩ | exact ⟨rfl, _, Eq.trans (World.drewN_drewN _ _ _) (congrArg (World.drewN _) (Nat.add_assoc _ _ _))⟩))); try go_wp2_with (first | (go_at_call 13; (with_reducible refine (marigraphref1_Right.calls k3 ((rd_T31 t265 0).f1.f0) ((rd_T31 t265 0).f1.f1) true _ A54.out).mono ?_); rintro e w65 ⟨rfl, hb⟩; have n0_ := Aside0.mk (Kd.R_below (rowN HO_7.out) hb); have n1_ := Aside0.mk (Kd.R_below (rowN HO_10.out) hb); have n2_ := Aside0.mk (Kd.R_below (rowN HO_12.out) hb); have n3_ := Aside0.mk (below_step (belN HB.out) hb); clear HO_7; clear HO_10; clear HO_12; clear HB; have HO_7 := n0_; have HO_10 := n1_; have HO_12 := n2_; have HB := n3_; clear n0_ n1_ n2_ n3_; (try clear hb); (try clear hk)) | (go_at_call 14; (with_reducible refine (marigraphref20_Right.calls 1 false _ A56.out).mono ?_); rintro e w' ⟨rfl, ⟨nd, rfl⟩⟩; (try first | exact ⟨rfl, _, World.drewN_drewN _ _ _⟩ | exact ⟨rfl, _, Eq.trans (World.drewN_drewN _ _ _) (congrArg (World.drewN _) (Nat.add_assoc _ _ _))⟩))))
               go_ret
               exact ⟨by first | rfl | (simp [errW_none, errW_some] <;> rfl) | (simp [*, errW_none, errW_some] <;> rfl), (belN HB.out)⟩
             ·replace c55 := Bool.eq_false_iff.mpr c55
              subst c55
              have H1 : (some false) = some r := by rw [if_neg (show ¬ (false = true) by decide)] at H; exact H
              clear H
              have H := H1
              clear H1
              obtain rfl := Option.some.inj H
              obtain ⟨Ao66, co66, eo66⟩ := Kd.R_slice HO_12.out
              subst eo66
              obtain ⟨Ao67, co67, eo67⟩ := Kd.R_slice HO_10.out
              subst eo67
              have p279 : 0 ≤ (0 : Int) := (by omega)
              have q279 : 0 < (t265.length : Int) := of_decide_eq_true (by first | (with_reducible assumption) | assumption)
              obtain ⟨ad279, e279, hx279_0, hx279_1, hx279_2⟩ := at_T31 (Kd.R_reads' HO_7.out).2.2 0 p279 q279
              cases e279
              have qi279 : (0 < t265.length) = True := eq_true (by omega)
              (try rw [show ((0 : Int)).toNat = 0 from rfl] at hx279_0)
              (try rw [show 0 * 3 = 0 from rfl] at hx279_0)
              (try rw [Addr.add_zero'] at hx279_0)
              (try rw [show ((0 : Int)).toNat = 0 from rfl] at hx279_1)
              (try rw [show 0 * 3 = 0 from rfl] at hx279_1)
              (try rw [Addr.add_zero'] at hx279_1)
              (try rw [show ((0 : Int)).toNat = 0 from rfl] at hx279_2)
              (try rw [show 0 * 3 = 0 from rfl] at hx279_2)
              (try rw [Addr.add_zero'] at hx279_2)
              replace p279 := eq_true p279
              replace q279 := eq_true q279
              go_wp2_with (first | (go_at_call 13; (with_reducible refine (marigraphref1_Right.calls k3 ((rd_T31 t265 0).f1.f0) ((rd_T31 t265 0).f1.f1) false _ A54.out).mono ?_); rintro e w68 ⟨rfl, hb⟩; have n0_ := Aside0.mk (Kd.R_below (rowN HO_7.out) hb); have n1_ := Aside0.mk (Kd.R_below (rowN HO_10.out) hb); have n2_ := Aside0.mk (Kd.R_below (rowN HO_12.out) hb); have n3_ := Aside0.mk (below_step (belN HB.out) hb); clear HO_7; clear HO_10; clear HO_12; clear HB; have HO_7 := n0_; have HO_10 := n1_; have HO_12 := n2_; have HB := n3_; clear n0_ n1_ n2_ n3_; (try clear hb); (try clear hk)))
              repeat (go_quiet (first | (go_at_call 13; (with_reducible refine (marigraphref1_Right.calls k3 ((rd_T31 t265 0).f1.f0) ((rd_T31 t265 0).f1.f1) false _ A54.out).mono ?_); rintro e w68 ⟨rfl, hb⟩; have n0_ := Aside0.mk (Kd.R_below (rowN HO_7.out) hb); have n1_ := Aside0.mk (Kd.R_below (rowN HO_10.out) hb); have n2_ := Aside0.mk (Kd.R_below (rowN HO_12.out) hb); have n3_ := Aside0.mk (below_step (belN HB.out) hb); clear HO_7; clear HO_10; clear HO_12; clear HB; have HO_7 := n0_; have HO_10 := n1_; have HO_12 := n2_; have HB := n3_; clear n0_ n1_ n2_ n3_; (try clear hb); (try clear hk))); try go_wp2_with (first | (go_at_call 13; (with_reducible refine (marigraphref1_Right.calls k3 ((rd_T31 t265 0).f1.f0) ((rd_T31 t265 0).f1.f1) false _ A54.out).mono ?_); rintro e w68 ⟨rfl, hb⟩; have n0_ := Aside0.mk (Kd.R_below (rowN HO_7.out) hb); have n1_ := Aside0.mk (Kd.R_below (rowN HO_10.out) hb); have n2_ := Aside0.mk (Kd.R_below (rowN HO_12.out) hb); have n3_ := Aside0.mk (below_step (belN HB.out) hb); clear HO_7; clear HO_10; clear HO_12; clear HB; have HO_7 := n0_; have HO_10 := n1_; have HO_12 := n2_; have HB := n3_; clear n0_ n1_ n2_ n3_; (try clear hb); (try clear hk))))
              go_ret
              exact ⟨by first | rfl | (simp [errW_none, errW_some] <;> rfl) | (simp [*, errW_none, errW_some] <;> rfl), (belN HB.out)⟩
            ·rw [if_neg c53] at H
             exact absurd H (by simp)
          ·rw [if_neg c47] at H
           have c47b0 : (x14_3 == (t265.length : Int)) = false := beq_eq_false_iff_ne.mpr c47
           have c47b1 : (x14_3 != (t265.length : Int)) = true := bne_iff_ne.mpr c47
           obtain rfl := Option.some.inj H
           obtain ⟨Ao69, co69, eo69⟩ := Kd.R_slice HO_12.out
           subst eo69
           obtain ⟨Ao70, co70, eo70⟩ := Kd.R_slice HO_10.out
           subst eo70
           go_wp2
           repeat (go_quiet (fail); try go_wp2)
           go_ret
           exact ⟨by first | rfl | (simp [errW_none, errW_some] <;> rfl) | (simp [*, errW_none, errW_some] <;> rfl), (belN HB.out)⟩
         ·rw [if_neg c46] at H
          have c46b0 : (x15_3 == (t270.length : Int)) = false := beq_eq_false_iff_ne.mpr c46
          have c46b1 : (x15_3 != (t270.length : Int)) = true := bne_iff_ne.mpr c46
          obtain rfl := Option.some.inj H
          obtain ⟨Ao71, co71, eo71⟩ := Kd.R_slice HO_12.out
          subst eo71
          obtain ⟨Ao72, co72, eo72⟩ := Kd.R_slice HO_10.out
          subst eo72
          go_wp2
          repeat (go_quiet (fail); try go_wp2)
          go_ret
          exact ⟨by first | rfl | (simp [errW_none, errW_some] <;> rfl) | (simp [*, errW_none, errW_some] <;> rfl), (belN HB.out)⟩

/-- THE ONE PURE STATEMENT of marigraphlaw21_DownParts: yours. -/
def marigraphlaw21_DownParts.Pure : Prop := ∀ (l0 : List Int) (l1 : List Int) (a2 : Int), l0.length ≤ maxLen → l0.length * 8 ≤ 140737488351232 → (∀ x ∈ l0, (Lit.int .i64 x).wf = true) → l1.length ≤ maxLen → l1.length * 8 ≤ 140737488351232 → (∀ x ∈ l1, (Lit.int .i64 x).wf = true) → (Lit.int .i64 a2).wf = true → ∃ k, marigraphlaw21_DownParts.f k l0 l1 a2 = some true
theorem marigraphlaw21_DownParts.walk (P : marigraphlaw21_DownParts.Pure) (a0 : Option Addr) (len0 cap0 : Nat) (z0 : List Int) (a1 : Option Addr) (len1 cap1 : Nat) (z1 : List Int) (a2 : Int) (w : World) (w0 : (a0 = none ∧ len0 = 0 ∧ cap0 = 0 ∧ z0 = []) ∨ ∃ x, a0 = some x ∧ len0 ≤ cap0 ∧ cap0 ≤ maxLen ∧ z0.length = cap0 ∧ (∀ i, i < z0.length → w.cell? (x.add i) = some (.int .i64 (z0.getD i 0))) ∧ ∀ n ∈ z0, (Lit.int .i64 n).wf = true) (y0 : len0 * 8 ≤ 140737488351232) (w1 : (a1 = none ∧ len1 = 0 ∧ cap1 = 0 ∧ z1 = []) ∨ ∃ x, a1 = some x ∧ len1 ≤ cap1 ∧ cap1 ≤ maxLen ∧ z1.length = cap1 ∧ (∀ i, i < z1.length → w.cell? (x.add i) = some (.int .i64 (z1.getD i 0))) ∧ ∀ n ∈ z1, (Lit.int .i64 n).wf = true) (y1 : len1 * 8 ≤ 140737488351232) (w2 : (Lit.int .i64 a2).wf = true) :
  Calls Try.prog 5 #[.slice a0 len0 cap0, .slice a1 len1 cap1, .int .i64 a2] w fun e w' => e = .returned (.bool true) ∧ Below w.heap.size w w' := by
 obtain ⟨l0, rfl, hr0, hm0, hw0, hc0⟩ := ReadsInt.ofRowC w0
 obtain ⟨l1, rfl, hr1, hm1, hw1, hc1⟩ := ReadsInt.ofRowC w1
 obtain ⟨k, h⟩ := P l0 l1 a2 hm0 y0 hw0 hm1 y1 hw1 w2
 refine (marigraphlaw21_DownParts.calls k _ _ l0 _ _ l1 a2 true w (Kd.C_of_reads (d := (0 : Int)) (h1 := fun _ => rfl) hr0) hc0 (Kd.C_of_reads (d := (0 : Int)) (h1 := fun _ => rfl) hr1) hc1 h).mono ?_
 rintro e w' ⟨rfl, hd⟩
 exact ⟨rfl, hd⟩

end Go.Proofs.Ytlmhgjnlbokceaa.PDownParts

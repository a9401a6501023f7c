/- The walk of the Go functions that a law reaches, told as plain functions; a program of this session has written it. No condition beyond the statement's own. -/
import Derived.Test.YtmimfnangdabmaaPFrameBackx0
import Derived.Test.YtmimfnangdabmaaPFrameBackx1
import Derived.Test.YtmimfnangdabmaaPFrameBackx2
import Derived.Test.YtmimfnangdabmaaPFrameBackx3
import Derived.Test.YtmimfnangdabmaaPFrameBackx4
import Derived.Test.YtmimfnangdabmaaPFrameBackx5
import Derived.Test.YtmimfnangdabmaaPFrameBackx6
namespace Go.Proofs.Ytmimfnangdabmaa.PFrameBack
open Go.RowKit Go.Proofs.YtmimfnangdabmaaW.PrintWords Go.Proofs.YtmimfnangdabmaaW.PrintLast Go.Proofs.YtmimfnangdabmaaW.PrintMore
attribute [local go_sem] max2_int min2_int max_two min_two max_three min_three max_four min_four   -- for this text's walks alone
set_option linter.unusedVariables false
set_option linter.unusedSimpArgs false

/-! ### marigraphlaw4_FrameBack: function 10 -/
mutual
def marigraphlaw4_FrameBack.l0 : Nat → List (List Int) → List (S49) → Int → List Int → Int → Option (Bool)
 | 0, _, _, _, _, _ => none
 | k + 1, x0, x1, x2, x7, x9 => if x9 < (x0.length : Int) then (if 0 ≤ x9 then ((frame_Put.f k x7 (rd_L1 x0 x9)).bind fun bt237 => (if bt237.2 = 0 then (marigraphlaw4_FrameBack.l0 k x0 x1 x2 bt237.1 (wrap64 (x9 + 1))) else (some false))) else (none)) else ((frame_All.f k x7).bind fun bt241 => (if bt241.2.2 = 0 then (if bt241.2.1 = (x7.length : Int) then ((marigraphkeep_Lists.f k bt241.1 x0).bind fun t246 => (marigraphlaw4_FrameBack.j1 k x0 x1 x2 x7 (!t246))) else (marigraphlaw4_FrameBack.j1 k x0 x1 x2 x7 true)) else (marigraphlaw4_FrameBack.j1 k x0 x1 x2 x7 true)))
def marigraphlaw4_FrameBack.j1 : Nat → List (List Int) → List (S49) → Int → List Int → Bool → Option (Bool)
 | 0, _, _, _, _, _ => none
 | k + 1, x0, x1, x2, x7, x59 => if x59 = true then (some false) else ((marigraphbook_Within.f k x2 0 (x7.length : Int)).bind fun t247 => (if 0 ≤ t247 then (if t247 ≤ (x7.length : Int) then ((frame_All.f k (x7.take (t247 : Int).toNat)).bind fun bt253 => (if bt253.2.2 = 0 then (if bt253.2.1 > (x7.length : Int) then (marigraphlaw4_FrameBack.j2 k x1 true) else (if (bt253.1.length : Int) > (x0.length : Int) then (marigraphlaw4_FrameBack.j2 k x1 true) else (if 0 ≤ (bt253.1.length : Int) then (if (bt253.1.length : Int) ≤ (x0.length : Int) then ((marigraphkeep_Lists.f k bt253.1 (x0.take ((bt253.1.length : Int) : Int).toNat)).bind fun t263 => (marigraphlaw4_FrameBack.j2 k x1 (!t263))) else (none)) else (none)))) else (marigraphlaw4_FrameBack.j2 k x1 true))) else (none)) else (none)))
def marigraphlaw4_FrameBack.j2 : Nat → List (S49) → Bool → Option (Bool)
 | 0, _, _ => none
 | k + 1, x1, x94 => if x94 = true then (some false) else ((marigraphkeep_Entries.f k x1 12 60 80).bind fun t264 => ((frame_Batch.f k t264).bind fun bt267 => ((frame_Entries.f k bt267.1).bind fun bt271 => (if bt267.2 = 0 then (if bt271.2 = 0 then ((marigraphref8_Same.f k t264 bt271.1).bind fun t275 => (if t275 = true then ((marigraphlaw4_known.f k).bind fun t276 => (some t276)) else (some false))) else (some false)) else (some false)))))
end
def marigraphlaw4_FrameBack.f (k : Nat) (l0 : List (List Int)) (l1 : List (S49)) (a2 : Int) : Option (Bool) := (marigraphlaw4_few.f k l0 8 60).bind fun t233 => (marigraphlaw4_FrameBack.l0 k t233 l1 a2 ([] : List Int) 0)
theorem marigraphlaw4_FrameBack.mono_l : ∀ k, (∀ y0 y1 y2 y3 y4, LeO (marigraphlaw4_FrameBack.l0 k y0 y1 y2 y3 y4) (marigraphlaw4_FrameBack.l0 (k + 1) y0 y1 y2 y3 y4)) ∧ (∀ y0 y1 y2 y3 y4, LeO (marigraphlaw4_FrameBack.j1 k y0 y1 y2 y3 y4) (marigraphlaw4_FrameBack.j1 (k + 1) y0 y1 y2 y3 y4)) ∧ (∀ y0 y1, LeO (marigraphlaw4_FrameBack.j2 k y0 y1) (marigraphlaw4_FrameBack.j2 (k + 1) y0 y1))
 | 0 => ⟨fun _ _ _ _ _ r h => by simp [marigraphlaw4_FrameBack.l0] at h, fun _ _ _ _ _ r h => by simp [marigraphlaw4_FrameBack.j1] at h, fun _ _ r h => by simp [marigraphlaw4_FrameBack.j2] at h⟩
 | k + 1 => by
  obtain ⟨ih0, ih1, ih2⟩ := marigraphlaw4_FrameBack.mono_l k
  refine ⟨?_, ?_, ?_⟩
  ·intro y0 y1 y2 y3 y4
   unfold marigraphlaw4_FrameBack.l0
   repeat' first
   | (with_reducible exact ih0 _ _ _ _ _)
   | (with_reducible exact ih1 _ _ _ _ _)
   | (with_reducible exact ih2 _ _)
   | (with_reducible exact frame_All.mono _ _)
   | (with_reducible exact frame_Batch.mono _ _)
   | (with_reducible exact frame_Entries.mono _ _)
   | (with_reducible exact frame_Put.mono _ _ _)
   | (with_reducible exact marigraphbook_Within.mono _ _ _ _)
   | (with_reducible exact marigraphkeep_Entries.mono _ _ _ _ _)
   | (with_reducible exact marigraphkeep_Lists.mono _ _ _)
   | (with_reducible exact marigraphlaw4_few.mono _ _ _ _)
   | (with_reducible exact marigraphlaw4_known.mono _)
   | (with_reducible exact marigraphref8_Same.mono _ _ _)
   | (with_reducible exact LeO.refl _)
   | (with_reducible exact LeO.none _)
   | (with_reducible refine LeO.ite ?_ ?_)
   | (with_reducible refine LeO.bind ?_ (fun _ => ?_))
   | exact ih0 _ _ _ _ _
   | exact ih1 _ _ _ _ _
   | exact ih2 _ _
   | exact frame_All.mono _ _
   | exact frame_Batch.mono _ _
   | exact frame_Entries.mono _ _
   | exact frame_Put.mono _ _ _
   | exact marigraphbook_Within.mono _ _ _ _
   | exact marigraphkeep_Entries.mono _ _ _ _ _
   | exact marigraphkeep_Lists.mono _ _ _
   | exact marigraphlaw4_few.mono _ _ _ _
   | exact marigraphlaw4_known.mono _
   | exact marigraphref8_Same.mono _ _ _
   | exact LeO.none _
   | refine LeO.ite ?_ ?_
   | refine LeO.bind ?_ (fun _ => ?_)
  ·intro y0 y1 y2 y3 y4
   unfold marigraphlaw4_FrameBack.j1
   repeat' first
   | (with_reducible exact ih0 _ _ _ _ _)
   | (with_reducible exact ih1 _ _ _ _ _)
   | (with_reducible exact ih2 _ _)
   | (with_reducible exact frame_All.mono _ _)
   | (with_reducible exact frame_Batch.mono _ _)
   | (with_reducible exact frame_Entries.mono _ _)
   | (with_reducible exact frame_Put.mono _ _ _)
   | (with_reducible exact marigraphbook_Within.mono _ _ _ _)
   | (with_reducible exact marigraphkeep_Entries.mono _ _ _ _ _)
   | (with_reducible exact marigraphkeep_Lists.mono _ _ _)
   | (with_reducible exact marigraphlaw4_few.mono _ _ _ _)
   | (with_reducible exact marigraphlaw4_known.mono _)
   | (with_reducible exact marigraphref8_Same.mono _ _ _)
   | (with_reducible exact LeO.refl _)
   | (with_reducible exact LeO.none _)
   | (with_reducible refine LeO.ite ?_ ?_)
   | (with_reducible refine LeO.bind ?_ (fun _ => ?_))
   | exact ih0 _ _ _ _ _
   | exact ih1 _ _ _ _ _
   | exact ih2 _ _
   | exact frame_All.mono _ _
   | exact frame_Batch.mono _ _
   | exact frame_Entries.mono _ _
   | exact frame_Put.mono _ _ _
   | exact marigraphbook_Within.mono _ _ _ _
   | exact marigraphkeep_Entries.mono _ _ _ _ _
   | exact marigraphkeep_Lists.mono _ _ _
   | exact marigraphlaw4_few.mono _ _ _ _
   | exact marigraphlaw4_known.mono _
   | exact marigraphref8_Same.mono _ _ _
   | exact LeO.none _
   | refine LeO.ite ?_ ?_
   | refine LeO.bind ?_ (fun _ => ?_)
  ·intro y0 y1
   unfold marigraphlaw4_FrameBack.j2
   repeat' first
   | (with_reducible exact ih0 _ _ _ _ _)
   | (with_reducible exact ih1 _ _ _ _ _)
   | (with_reducible exact ih2 _ _)
   | (with_reducible exact frame_All.mono _ _)
   | (with_reducible exact frame_Batch.mono _ _)
   | (with_reducible exact frame_Entries.mono _ _)
   | (with_reducible exact frame_Put.mono _ _ _)
   | (with_reducible exact marigraphbook_Within.mono _ _ _ _)
   | (with_reducible exact marigraphkeep_Entries.mono _ _ _ _ _)
   | (with_reducible exact marigraphkeep_Lists.mono _ _ _)
   | (with_reducible exact marigraphlaw4_few.mono _ _ _ _)
   | (with_reducible exact marigraphlaw4_known.mono _)
   | (with_reducible exact marigraphref8_Same.mono _ _ _)
   | (with_reducible exact LeO.refl _)
   | (with_reducible exact LeO.none _)
   | (with_reducible refine LeO.ite ?_ ?_)
   | (with_reducible refine LeO.bind ?_ (fun _ => ?_))
   | exact ih0 _ _ _ _ _
   | exact ih1 _ _ _ _ _
   | exact ih2 _ _
   | exact frame_All.mono _ _
   | exact frame_Batch.mono _ _
   | exact frame_Entries.mono _ _
   | exact frame_Put.mono _ _ _
   | exact marigraphbook_Within.mono _ _ _ _
   | exact marigraphkeep_Entries.mono _ _ _ _ _
   | exact marigraphkeep_Lists.mono _ _ _
   | exact marigraphlaw4_few.mono _ _ _ _
   | exact marigraphlaw4_known.mono _
   | exact marigraphref8_Same.mono _ _ _
   | exact LeO.none _
   | refine LeO.ite ?_ ?_
   | refine LeO.bind ?_ (fun _ => ?_)
theorem marigraphlaw4_FrameBack.mono : ∀ a0 a1 a2 k, LeO (marigraphlaw4_FrameBack.f k a0 a1 a2) (marigraphlaw4_FrameBack.f (k + 1) a0 a1 a2) := by
 intro a0 a1 a2 k
 obtain ⟨ih0, ih1, ih2⟩ := marigraphlaw4_FrameBack.mono_l k
 unfold marigraphlaw4_FrameBack.f
 repeat' first
   | (with_reducible exact ih0 _ _ _ _ _)
   | (with_reducible exact ih1 _ _ _ _ _)
   | (with_reducible exact ih2 _ _)
   | (with_reducible exact frame_All.mono _ _)
   | (with_reducible exact frame_Batch.mono _ _)
   | (with_reducible exact frame_Entries.mono _ _)
   | (with_reducible exact frame_Put.mono _ _ _)
   | (with_reducible exact marigraphbook_Within.mono _ _ _ _)
   | (with_reducible exact marigraphkeep_Entries.mono _ _ _ _ _)
   | (with_reducible exact marigraphkeep_Lists.mono _ _ _)
   | (with_reducible exact marigraphlaw4_few.mono _ _ _ _)
   | (with_reducible exact marigraphlaw4_known.mono _)
   | (with_reducible exact marigraphref8_Same.mono _ _ _)
   | (with_reducible exact LeO.refl _)
   | (with_reducible exact LeO.none _)
   | (with_reducible refine LeO.ite ?_ ?_)
   | (with_reducible refine LeO.bind ?_ (fun _ => ?_))
   | exact ih0 _ _ _ _ _
   | exact ih1 _ _ _ _ _
   | exact ih2 _ _
   | exact frame_All.mono _ _
   | exact frame_Batch.mono _ _
   | exact frame_Entries.mono _ _
   | exact frame_Put.mono _ _ _
   | exact marigraphbook_Within.mono _ _ _ _
   | exact marigraphkeep_Entries.mono _ _ _ _ _
   | exact marigraphkeep_Lists.mono _ _ _
   | exact marigraphlaw4_few.mono _ _ _ _
   | exact marigraphlaw4_known.mono _
   | exact marigraphref8_Same.mono _ _ _
   | exact LeO.none _
   | refine LeO.ite ?_ ?_
   | refine LeO.bind ?_ (fun _ => ?_)
set_option maxHeartbeats 8000000 in
set_option maxRecDepth 100000 in
theorem marigraphlaw4_FrameBack.calls (k : Nat) (A0 : Option Addr) (c0 : Nat) (l0 : List (List Int)) (A1 : Option Addr) (c1 : Nat) (l1 : List (S49)) (a2 : Int) (r : Bool) (w : World) (hr0 : Kd.C (Kd.slice 5 (Kd.int .u8)) w A0 l0.length l0) (hc0 : l0.length ≤ c0) (hr1 : Kd.C k49 w A1 l1.length l1) (hc1 : l1.length ≤ c1) (h : marigraphlaw4_FrameBack.f k l0 l1 a2 = some r) :
  Calls Try.prog 10 #[.slice A0 l0.length c0, .slice A1 l1.length c1, .int .i64 a2] w fun e w' => e = .returned (.bool r) ∧ Below w.heap.size w w' := by
 have HR0 := Aside0.mk hr0
 have HC0 := Aside0.mk hc0
 clear hr0 hc0
 have HR1 := Aside0.mk hr1
 have HC1 := Aside0.mk hc1
 clear hr1 hc1
 have HB := Aside0.mk (Below.refl w.heap.size w)
 have H : ((marigraphlaw4_few.f k l0 8 60).bind fun t233 => (marigraphlaw4_FrameBack.l0 k t233 l1 a2 ([] : List Int) 0)) = some r := h
 clear h
 replace H := Option.bind_eq_some_iff.mp H
 obtain ⟨t233, A40, H⟩ := H
 replace H : (marigraphlaw4_FrameBack.l0 k t233 l1 a2 ([] : List Int) 0) = some r := H
 have A4 := Aside0.mk A40
 clear A40
 have H' := Aside0.mk H
 clear H
 go_enter Try.func10, Try.ntmps10
 go_wp2_with (first | ((with_reducible refine gate_callee (f := 11) rfl ?_); refine goesL_ (some 22) rfl rfl Try.func11 (by kernel_rfl) rfl #[.slice A0 l0.length c0, .int .i64 8, .int .i64 60] rfl argN ?_; (with_reducible refine (marigraphlaw4_few.calls k (fun k_ => k_ < w.heap.size) _ _ l0 8 60 t233 _ ?side1 A4.out).mono ?_); (case side1 => exact Kd.V_mk HC0.out (Kd.F_below (Kd.C_F (Kd.heap_slice 5 (Kd.heap_int .u8)) HR0.out) (belN HB.out))); rintro e w5 ⟨v234, rfl, ho0, hb⟩; refine ⟨_, rfl, ?_⟩; have n0_ := Aside0.mk (Kd.N_lower (Kd.N_mono (ok' := fun k_ => True) ho0 (fun k_ hk_ => trivial)) (below_size (belN HB.out))); have n1_ := Aside0.mk (below_step (belN HB.out) hb); clear HB; have HO235 := n0_; have HB := n1_; clear n0_ n1_; (try clear hb); (try clear hk); (try clear ho0)))
 go_loopg [7, 9] k (fun kq v7 v9 w' => ∃ (x7_1 : List Int) (x9_1 : Int), v9 = .int .i64 x9_1 ∧ Aside0 (marigraphlaw4_FrameBack.l0 kq t233 l1 a2 x7_1 x9_1 = some r) ∧ Aside0 (kq ≤ k) ∧ Aside0 (Kd.N (Kd.slice 5 (Kd.int .u8)) 23 w' w.heap.size (fun k_ => some k_ ≠ (v7 : Value).ownBlock) v234 t233) ∧ Aside0 (Kd.R (Kd.int .u8) 5 w' w.heap.size (fun _ => True) v7 x7_1) ∧ Aside0 (Below w.heap.size w w'))
 case atStart => exact ⟨(([] : List Int)), (0), (by first | rfl | (simp; done) | (simp [*]; done)), H', ⟨Nat.le_refl _⟩, ⟨by (with_reducible repeat (first | apply Kd.N_alloc | apply Kd.N_drewN | apply Kd.N_drew)); exact Kd.N_mono HO235.out (fun _ hk => (by simp [Value.ownBlock]))⟩, ⟨by first | exact Kd.R_nil _ _ _ _ _ | exact Kd.N_nil _ _ _ _ _ | exact Kd.V_nil _ _ _ _ _ | exact Kd.Q_nil _ _ _ _ _ | exact Kd.S_nil _ _ _ _ _⟩, ⟨(belN HB.out)⟩⟩
 case round =>
  clear H'
  try clear c1
  try clear p2
  obtain ⟨x7_1, x9_1, rfl, HA, HK1, HO_0, HO_7, HB⟩ := hrel
  cases gk with
  | zero => exact absurd HA.out (by simp [marigraphlaw4_FrameBack.l0])
  | succ k1 =>
   have H := HA.out
   clear HA
   simp only [marigraphlaw4_FrameBack.l0] at H
   by_cases c6 : x9_1 < (t233.length : Int)
   ·rw [if_pos c6] at H
    have c6b0 : decide (x9_1 < (t233.length : Int)) = true := decide_eq_true c6
    clear c6
    by_cases c7 : 0 ≤ x9_1
    ·rw [if_pos c7] at H
     have c7b0 : decide (0 ≤ x9_1) = true := decide_eq_true c7
     clear c7
     replace H := Option.bind_eq_some_iff.mp H
     obtain ⟨⟨t237, t238⟩, A80, H⟩ := H
     replace H : (if t238 = 0 then (marigraphlaw4_FrameBack.l0 k1 t233 l1 a2 t237 (wrap64 (x9_1 + 1))) else (some false)) = some r := H
     have A8 := Aside0.mk A80
     clear A80
     by_cases c9 : t238 = 0
     ·rw [if_pos c9] at H
      have c9b0 : (t238 == 0) = true := beq_iff_eq.mpr c9
      have c9b1 : (t238 != 0) = false := bne_eq_false_iff_eq.mpr c9
      clear c9
      have H' := Aside0.mk H
      clear H
      obtain ⟨Ao10, co10, eo10⟩ := Kd.N_slice HO_0.out
      subst eo10
      have p236 : 0 ≤ (x9_1 : Int) := of_decide_eq_true (by first | (with_reducible assumption) | assumption)
      have q236 : x9_1 < (t233.length : Int) := of_decide_eq_true (by first | (with_reducible assumption) | assumption)
      obtain ⟨ad236, A236_0, c236_0, e236, hx236_0, hl236_0, hi236_0⟩ := at_L1 (Kd.N_reads' HO_0.out).2.2 x9_1 p236 q236
      cases e236
      obtain ⟨ce236, hce236, hMe236, hcc236⟩ := Kd.N_get HO_0.out [] x9_1 p236 (by first | exact q236 | exact of_decide_eq_true (by first | (with_reducible assumption) | assumption) | (have e_ := (Kd.N_reads' HO_0.out).1; omega))
      obtain ⟨ua236_0, uc236_0, rfl, ul236_0, ge236_0⟩ := Kd.FK_slice_open hMe236
      have hv236_0 := hcc236 0 _ rfl
      rw [Nat.add_zero, show ((Kd.slice 5 (Kd.int .u8))).sz = 1 from rfl, Nat.mul_one] at hv236_0
      replace hv236_0 := Option.some.inj (hv236_0.symm.trans hx236_0)
      injection hv236_0 with hva_ hvn_ hvc_
      rw [hva_] at ge236_0
      rw [hvc_] at ul236_0
      have HL236_0 := Aside0.mk (show Kd.V (Kd.int .u8) 5 _ w.heap.size _ _ (rd_L1 t233 x9_1) from Kd.V_mk ul236_0 ge236_0)
      clear hva_ hvn_ hvc_ ge236_0 ul236_0
      clear hcc236 hce236
      have HR236_0 := Aside0.mk hi236_0
      have HC236_0 := Aside0.mk hl236_0
      clear hi236_0 hl236_0
      replace p236 := eq_true p236
      replace q236 := eq_true q236
      obtain ⟨Ao11, co11, eo11⟩ := Kd.R_slice HO_7.out
      subst eo11
      go_wp2_with (first | ((with_reducible refine gate_callee (f := 16) rfl ?_); refine goesL_ (some 35) rfl rfl Try.func16 (by kernel_rfl) rfl #[.slice Ao11 x7_1.length co11, .slice A236_0 (rd_L1 t233 x9_1).length c236_0] rfl argN ?_; (with_reducible refine (frame_Put.calls k1 _ _ x7_1 _ _ (rd_L1 t233 x9_1) t237 t238 _ ?side1 ?side2 ?side3 ?side4 A8.out).mono ?_); (case side1 => repeat (first | exact (Kd.R_reads' HO_7.out).2.2 | (with_reducible refine Kd.C_alloc ?_ _) | (with_reducible refine Kd.C_drewN ?_ _) | (with_reducible refine Kd.C_drew ?_))); (case side2 => exact (Kd.R_reads' HO_7.out).2.1); (case side3 => repeat (first | exact (by repeat (first | (with_reducible exact HR236_0.out) | (with_reducible refine Kd.C_alloc ?_ _) | (with_reducible refine Kd.C_drewN ?_ _) | (with_reducible refine Kd.C_drew ?_) | exact HR236_0.out)) | (with_reducible refine Kd.C_alloc ?_ _) | (with_reducible refine Kd.C_drewN ?_ _) | (with_reducible refine Kd.C_drew ?_))); (case side4 => exact HC236_0.out); rintro e w12 ⟨v239, rfl, ho0, hb⟩; refine ⟨_, rfl, ?_⟩; have n0_ := Aside0.mk (Kd.N_elder' (by (with_reducible repeat (first | apply Kd.N_alloc | apply Kd.N_drewN | apply Kd.N_drew)); exact HO_0.out) (Kd.R_base ho0) hb); have n1_ := Aside0.mk (Kd.R_elder' (rowN HO_7.out) (Kd.R_base ho0) hb); have n2_ := Aside0.mk (Kd.V_elder' (by (with_reducible repeat (first | apply Kd.V_alloc | apply Kd.V_drewN | apply Kd.V_drew)); exact HL236_0.out) (Kd.R_base ho0) hb); have n3_ := Aside0.mk (Kd.R_lower (Kd.R_new' ho0 (Kd.R_lt (rowN HO_7.out))) (below_size (belN HB.out))); have n4_ := Aside0.mk (cbN HR236_0.out hb); have n5_ := Aside0.mk (below_step (belN HB.out) hb); clear HO_0; clear HO_7; clear HL236_0; clear HR236_0; clear HB; have HO_0 := n0_; have HO_7 := n1_; have HL236_0 := n2_; have HO240 := n3_; have HR236_0 := n4_; have HB := n5_; clear n0_ n1_ n2_ n3_ n4_ n5_; (try clear hb); (try clear hk); (try clear ho0)))
      go_roundg k1
      case measure => have := HK1.out; omega
      case rel => exact ⟨(t237), (wrap64 (x9_1 + 1)), (by first | rfl | (simp; done) | (simp [*]; done)), H', ⟨by have := HK1.out; omega⟩, ⟨by (with_reducible repeat (first | apply Kd.N_alloc | apply Kd.N_drewN | apply Kd.N_drew)); exact Kd.N_mono HO_0.out (fun _ hk => hk.2)⟩, ⟨by (with_reducible repeat (first | apply Kd.R_alloc | apply Kd.R_drewN | apply Kd.R_drew)); exact Kd.R_mono HO240.out (fun _ hk => trivial)⟩, ⟨(belN HB.out)⟩⟩
     ·rw [if_neg c9] at H
      have c9b0 : (t238 == 0) = false := beq_eq_false_iff_ne.mpr c9
      have c9b1 : (t238 != 0) = true := bne_iff_ne.mpr c9
      obtain rfl := Option.some.inj H
      obtain ⟨Ao13, co13, eo13⟩ := Kd.N_slice HO_0.out
      subst eo13
      have p236 : 0 ≤ (x9_1 : Int) := of_decide_eq_true (by first | (with_reducible assumption) | assumption)
      have q236 : x9_1 < (t233.length : Int) := of_decide_eq_true (by first | (with_reducible assumption) | assumption)
      obtain ⟨ad236, A236_0, c236_0, e236, hx236_0, hl236_0, hi236_0⟩ := at_L1 (Kd.N_reads' HO_0.out).2.2 x9_1 p236 q236
      cases e236
      obtain ⟨ce236, hce236, hMe236, hcc236⟩ := Kd.N_get HO_0.out [] x9_1 p236 (by first | exact q236 | exact of_decide_eq_true (by first | (with_reducible assumption) | assumption) | (have e_ := (Kd.N_reads' HO_0.out).1; omega))
      obtain ⟨ua236_0, uc236_0, rfl, ul236_0, ge236_0⟩ := Kd.FK_slice_open hMe236
      have hv236_0 := hcc236 0 _ rfl
      rw [Nat.add_zero, show ((Kd.slice 5 (Kd.int .u8))).sz = 1 from rfl, Nat.mul_one] at hv236_0
      replace hv236_0 := Option.some.inj (hv236_0.symm.trans hx236_0)
      injection hv236_0 with hva_ hvn_ hvc_
      rw [hva_] at ge236_0
      rw [hvc_] at ul236_0
      have HL236_0 := Aside0.mk (show Kd.V (Kd.int .u8) 5 _ w.heap.size _ _ (rd_L1 t233 x9_1) from Kd.V_mk ul236_0 ge236_0)
      clear hva_ hvn_ hvc_ ge236_0 ul236_0
      clear hcc236 hce236
      have HR236_0 := Aside0.mk hi236_0
      have HC236_0 := Aside0.mk hl236_0
      clear hi236_0 hl236_0
      replace p236 := eq_true p236
      replace q236 := eq_true q236
      obtain ⟨Ao14, co14, eo14⟩ := Kd.R_slice HO_7.out
      subst eo14
      go_wp2_with (first | ((with_reducible refine gate_callee (f := 16) rfl ?_); refine goesL_ (some 35) rfl rfl Try.func16 (by kernel_rfl) rfl #[.slice Ao14 x7_1.length co14, .slice A236_0 (rd_L1 t233 x9_1).length c236_0] rfl argN ?_; (with_reducible refine (frame_Put.calls k1 _ _ x7_1 _ _ (rd_L1 t233 x9_1) t237 t238 _ ?side1 ?side2 ?side3 ?side4 A8.out).mono ?_); (case side1 => repeat (first | exact (Kd.R_reads' HO_7.out).2.2 | (with_reducible refine Kd.C_alloc ?_ _) | (with_reducible refine Kd.C_drewN ?_ _) | (with_reducible refine Kd.C_drew ?_))); (case side2 => exact (Kd.R_reads' HO_7.out).2.1); (case side3 => repeat (first | exact (by repeat (first | (with_reducible exact HR236_0.out) | (with_reducible refine Kd.C_alloc ?_ _) | (with_reducible refine Kd.C_drewN ?_ _) | (with_reducible refine Kd.C_drew ?_) | exact HR236_0.out)) | (with_reducible refine Kd.C_alloc ?_ _) | (with_reducible refine Kd.C_drewN ?_ _) | (with_reducible refine Kd.C_drew ?_))); (case side4 => exact HC236_0.out); rintro e w15 ⟨v239, rfl, ho0, hb⟩; refine ⟨_, rfl, ?_⟩; have n0_ := Aside0.mk (Kd.N_elder' (by (with_reducible repeat (first | apply Kd.N_alloc | apply Kd.N_drewN | apply Kd.N_drew)); exact HO_0.out) (Kd.R_base ho0) hb); have n1_ := Aside0.mk (Kd.R_elder' (rowN HO_7.out) (Kd.R_base ho0) hb); have n2_ := Aside0.mk (Kd.V_elder' (by (with_reducible repeat (first | apply Kd.V_alloc | apply Kd.V_drewN | apply Kd.V_drew)); exact HL236_0.out) (Kd.R_base ho0) hb); have n3_ := Aside0.mk (Kd.R_lower (Kd.R_new' ho0 (Kd.R_lt (rowN HO_7.out))) (below_size (belN HB.out))); have n4_ := Aside0.mk (cbN HR236_0.out hb); have n5_ := Aside0.mk (below_step (belN HB.out) hb); clear HO_0; clear HO_7; clear HL236_0; clear HR236_0; clear HB; have HO_0 := n0_; have HO_7 := n1_; have HL236_0 := n2_; have HO240 := n3_; have HR236_0 := n4_; have HB := n5_; clear n0_ n1_ n2_ n3_ n4_ n5_; (try clear hb); (try clear hk); (try clear ho0)))
      go_ret
      exact ⟨by first | rfl | (simp [errW_none, errW_some] <;> rfl) | (simp [*, errW_none, errW_some] <;> rfl), (belN HB.out)⟩
    ·rw [if_neg c7] at H
     exact absurd H (by simp)
   ·rw [if_neg c6] at H
    have c6b0 : decide (x9_1 < (t233.length : Int)) = false := decide_eq_false c6
    clear c6
    replace H := Option.bind_eq_some_iff.mp H
    obtain ⟨⟨t241, t242, t243⟩, A160, H⟩ := H
    replace H : (if t243 = 0 then (if t242 = (x7_1.length : Int) then ((marigraphkeep_Lists.f k1 t241 t233).bind fun t246 => (marigraphlaw4_FrameBack.j1 k1 t233 l1 a2 x7_1 (!t246))) else (marigraphlaw4_FrameBack.j1 k1 t233 l1 a2 x7_1 true)) else (marigraphlaw4_FrameBack.j1 k1 t233 l1 a2 x7_1 true)) = some r := H
    have A16 := Aside0.mk A160
    clear A160
    have HC17 := Aside0.mk H
    clear H
    obtain ⟨Ao18, co18, eo18⟩ := Kd.N_slice HO_0.out
    subst eo18
    obtain ⟨Ao19, co19, eo19⟩ := Kd.R_slice HO_7.out
    subst eo19
    go_upto_region 11 with (first | ((with_reducible refine gate_callee (f := 24) rfl ?_); refine goesL_ (some 42) rfl rfl Try.func24 (by kernel_rfl) rfl #[.slice Ao19 x7_1.length co19] rfl argN ?_; (with_reducible refine (frame_All.calls k1 _ _ x7_1 t241 t242 t243 _ ?side1 ?side2 A16.out).mono ?_); (case side1 => repeat (first | exact (Kd.R_reads' HO_7.out).2.2 | (with_reducible refine Kd.C_alloc ?_ _) | (with_reducible refine Kd.C_drewN ?_ _) | (with_reducible refine Kd.C_drew ?_))); (case side2 => exact (Kd.R_reads' HO_7.out).2.1); rintro e w20 ⟨v244, rfl, ho0, hb⟩; refine ⟨_, rfl, ?_⟩; have n0_ := Aside0.mk (Kd.N_elder' (by (with_reducible repeat (first | apply Kd.N_alloc | apply Kd.N_drewN | apply Kd.N_drew)); exact HO_0.out) (by first | exact Kd.N_base ho0 | exact Kd.S_base ho0) hb); have n1_ := Aside0.mk (Kd.R_below (rowN HO_7.out) hb); have n2_ := Aside0.mk (Kd.N_lower (Kd.N_mono (ok' := fun k_ => some k_ ≠ (.slice Ao18 t233.length co18 : Value).ownBlock ∧ some k_ ≠ (.slice Ao19 x7_1.length co19 : Value).ownBlock) (Kd.S_N (Kd.S_bound ho0)) (fun k_ hk_ => ⟨(Kd.fresh' (Kd.N_lt (by (with_reducible repeat (first | apply Kd.N_alloc | apply Kd.N_drewN | apply Kd.N_drew)); exact HO_0.out)) k_ hk_.2.1), (Kd.fresh' (Kd.R_lt (rowN HO_7.out)) k_ hk_.2.1)⟩)) (below_size (belN HB.out))); have n3_ := Aside0.mk (below_step (belN HB.out) hb); clear HO_0; clear HO_7; clear HB; have HO_0 := n0_; have HO_7 := n1_; have HO245 := n2_; have HB := n3_; clear n0_ n1_ n2_ n3_; (try clear hb); (try clear hk); (try clear ho0)))
    (try simp only [Act.put, List.setIfInBounds_toArray, List.set_cons_zero, List.set_cons_succ])
    go_cut [59] (fun v59 wc => ∃ (kq : Nat) (x59_16 : Bool), v59 = .bool x59_16 ∧ Aside0 (marigraphlaw4_FrameBack.j1 kq t233 l1 a2 x7_1 x59_16 = some r) ∧ Aside0 (kq ≤ k1) ∧ Aside0 (Kd.N (Kd.slice 5 (Kd.int .u8)) 23 wc w.heap.size (fun k_ => some k_ ≠ ((.slice Ao19 x7_1.length co19) : Value).ownBlock) (.slice Ao18 t233.length co18) t233) ∧ Aside0 (Kd.R (Kd.int .u8) 5 wc w.heap.size (fun _ => True) (.slice Ao19 x7_1.length co19) x7_1) ∧ Aside0 (Below w.heap.size w wc))
    case first =>
     have H := HC17.out
     clear HC17
     by_cases c21 : t243 = 0
     ·rw [if_pos c21] at H
      have c21b0 : (t243 == 0) = true := beq_iff_eq.mpr c21
      have c21b1 : (t243 != 0) = false := bne_eq_false_iff_eq.mpr c21
      clear c21
      (first | rw [c21b0] | rw [c21b1] | (simp only [i64_w, i32_w]; rw [c21b0]) | skip)
      by_cases c22 : t242 = (x7_1.length : Int)
      ·rw [if_pos c22] at H
       have c22b0 : (t242 == (x7_1.length : Int)) = true := beq_iff_eq.mpr c22
       have c22b1 : (t242 != (x7_1.length : Int)) = false := bne_eq_false_iff_eq.mpr c22
       clear c22
       replace H := Option.bind_eq_some_iff.mp H
       obtain ⟨t246, A230, H⟩ := H
       replace H : (marigraphlaw4_FrameBack.j1 k1 t233 l1 a2 x7_1 (!t246)) = some r := H
       have A23 := Aside0.mk A230
       clear A230
       have H' := Aside0.mk H
       clear H
       obtain ⟨Ao24, co24, eo24⟩ := Kd.N_slice HO245.out
       subst eo24
       go_wp2_with (first | (go_at_call 37; (with_reducible refine (marigraphkeep_Lists.calls k1 _ _ t241 _ _ t233 t246 _ ?side1 ?side2 ?side3 ?side4 A23.out).mono ?_); (case side1 => repeat (first | exact (Kd.N_reads' HO245.out).2.2 | (with_reducible refine Kd.C_alloc ?_ _) | (with_reducible refine Kd.C_drewN ?_ _) | (with_reducible refine Kd.C_drew ?_))); (case side2 => exact (Kd.N_reads' HO245.out).2.1); (case side3 => repeat (first | exact (Kd.N_reads' HO_0.out).2.2 | (with_reducible refine Kd.C_alloc ?_ _) | (with_reducible refine Kd.C_drewN ?_ _) | (with_reducible refine Kd.C_drew ?_))); (case side4 => exact (Kd.N_reads' HO_0.out).2.1); rintro e w' ⟨rfl, ⟨nd, rfl⟩⟩))
       go_meet
       case rel => exact ⟨_, (!t246), (by first | rfl | (simp; done) | (simp [*]; done)), H', ⟨by have := HK1.out; first | omega | exact Nat.le_refl _⟩, ⟨by (with_reducible repeat (first | apply Kd.N_alloc | apply Kd.N_drewN | apply Kd.N_drew)); exact Kd.N_mono HO_0.out (fun _ hk => hk.1)⟩, ⟨(rowN HO_7.out)⟩, ⟨(belN HB.out)⟩⟩
      ·rw [if_neg c22] at H
       have c22b0 : (t242 == (x7_1.length : Int)) = false := beq_eq_false_iff_ne.mpr c22
       have c22b1 : (t242 != (x7_1.length : Int)) = true := bne_iff_ne.mpr c22
       have H' := Aside0.mk H
       clear H
       go_wp2
       go_meet
       case rel => exact ⟨_, (true), (by first | rfl | (simp; done) | (simp [*]; done)), H', ⟨by have := HK1.out; first | omega | exact Nat.le_refl _⟩, ⟨by (with_reducible repeat (first | apply Kd.N_alloc | apply Kd.N_drewN | apply Kd.N_drew)); exact Kd.N_mono HO_0.out (fun _ hk => hk.1)⟩, ⟨(rowN HO_7.out)⟩, ⟨(belN HB.out)⟩⟩
     ·rw [if_neg c21] at H
      have c21b0 : (t243 == 0) = false := beq_eq_false_iff_ne.mpr c21
      have c21b1 : (t243 != 0) = true := bne_iff_ne.mpr c21
      (first | rw [c21b0] | rw [c21b1] | (simp only [i64_w, i32_w]; rw [c21b0]) | skip)
      have H' := Aside0.mk H
      clear H
      go_wp2
      go_meet
      case rel => exact ⟨_, (true), (by first | rfl | (simp; done) | (simp [*]; done)), H', ⟨by have := HK1.out; first | omega | exact Nat.le_refl _⟩, ⟨by (with_reducible repeat (first | apply Kd.N_alloc | apply Kd.N_drewN | apply Kd.N_drew)); exact Kd.N_mono HO_0.out (fun _ hk => hk.1)⟩, ⟨(rowN HO_7.out)⟩, ⟨(belN HB.out)⟩⟩
    case rest =>
     clear HC17
     try clear c1
     try clear c2
     try clear p2
     try clear q2
     try clear hx2
     try clear c6
     try clear c6b0
     try clear p6
     try clear c7
     try clear c7b0
     try clear c9
     try clear c9b0
     try clear c9b1
     try clear c10
     try clear c11
     try clear c16
     try clear c21
     try clear c21b0
     try clear c21b1
     try clear c22
     try clear c22b0
     try clear c22b1
     try clear c23
     try clear p23
     try clear q23
     try clear hx23
     try clear c24
     try clear hx236_0
     try clear p2
     try clear p236
     try clear q236
     obtain ⟨kq, x59_16, rfl, HA, HJ16, HO_0, HO_7, HB⟩ := hcut
     cases kq with
     | zero => exact absurd HA.out (by simp [marigraphlaw4_FrameBack.j1])
     | succ kj16 =>
      have H := HA.out
      clear HA
      simp only [marigraphlaw4_FrameBack.j1] at H
      by_cases c25 : x59_16 = true
      ·subst c25
       have H1 : (some false) = some r := by rw [if_pos rfl] at H; exact H
       clear H
       have H := H1
       clear H1
       obtain rfl := Option.some.inj H
       go_wp2
       go_ret
       exact ⟨by first | rfl | (simp [errW_none, errW_some] <;> rfl) | (simp [*, errW_none, errW_some] <;> rfl), (belN HB.out)⟩
      ·replace c25 := Bool.eq_false_iff.mpr c25
       subst c25
       have H1 : ((marigraphbook_Within.f kj16 a2 0 (x7_1.length : Int)).bind fun t247 => (if 0 ≤ t247 then (if t247 ≤ (x7_1.length : Int) then ((frame_All.f kj16 (x7_1.take (t247 : Int).toNat)).bind fun bt253 => (if bt253.2.2 = 0 then (if bt253.2.1 > (x7_1.length : Int) then (marigraphlaw4_FrameBack.j2 kj16 l1 true) else (if (bt253.1.length : Int) > (t233.length : Int) then (marigraphlaw4_FrameBack.j2 kj16 l1 true) else (if 0 ≤ (bt253.1.length : Int) then (if (bt253.1.length : Int) ≤ (t233.length : Int) then ((marigraphkeep_Lists.f kj16 bt253.1 (t233.take ((bt253.1.length : Int) : Int).toNat)).bind fun t263 => (marigraphlaw4_FrameBack.j2 kj16 l1 (!t263))) else (none)) else (none)))) else (marigraphlaw4_FrameBack.j2 kj16 l1 true))) else (none)) else (none))) = some r := by rw [if_neg (show ¬ (false = true) by decide)] at H; exact H
       clear H
       have H := H1
       clear H1
       replace H := Option.bind_eq_some_iff.mp H
       obtain ⟨t247, A260, H⟩ := H
       replace H : (if 0 ≤ t247 then (if t247 ≤ (x7_1.length : Int) then ((frame_All.f kj16 (x7_1.take (t247 : Int).toNat)).bind fun bt253 => (if bt253.2.2 = 0 then (if bt253.2.1 > (x7_1.length : Int) then (marigraphlaw4_FrameBack.j2 kj16 l1 true) else (if (bt253.1.length : Int) > (t233.length : Int) then (marigraphlaw4_FrameBack.j2 kj16 l1 true) else (if 0 ≤ (bt253.1.length : Int) then (if (bt253.1.length : Int) ≤ (t233.length : Int) then ((marigraphkeep_Lists.f kj16 bt253.1 (t233.take ((bt253.1.length : Int) : Int).toNat)).bind fun t263 => (marigraphlaw4_FrameBack.j2 kj16 l1 (!t263))) else (none)) else (none)))) else (marigraphlaw4_FrameBack.j2 kj16 l1 true))) else (none)) else (none)) = some r := H
       have A26 := Aside0.mk A260
       clear A260
       by_cases c27 : 0 ≤ t247
       ·rw [if_pos c27] at H
        have c27b0 := eq_true c27
        have c27b1 : decide (0 ≤ t247) = true := decide_eq_true c27
        clear c27
        by_cases c28 : t247 ≤ (x7_1.length : Int)
        ·rw [if_pos c28] at H
         have c28b0 := eq_true c28
         have c28b1 : decide (t247 ≤ (x7_1.length : Int)) = true := decide_eq_true c28
         clear c28
         obtain ⟨y248, hy248⟩ : ∃ y_ : List Int, y_ = (x7_1.take (t247 : Int).toNat) := ⟨_, rfl⟩
         replace H : ((frame_All.f kj16 y248).bind fun bt253 => (if bt253.2.2 = 0 then (if bt253.2.1 > (x7_1.length : Int) then (marigraphlaw4_FrameBack.j2 kj16 l1 true) else (if (bt253.1.length : Int) > (t233.length : Int) then (marigraphlaw4_FrameBack.j2 kj16 l1 true) else (if 0 ≤ (bt253.1.length : Int) then (if (bt253.1.length : Int) ≤ (t233.length : Int) then ((marigraphkeep_Lists.f kj16 bt253.1 (t233.take ((bt253.1.length : Int) : Int).toNat)).bind fun t263 => (marigraphlaw4_FrameBack.j2 kj16 l1 (!t263))) else (none)) else (none)))) else (marigraphlaw4_FrameBack.j2 kj16 l1 true))) = some r := by first | (rw [hy248]; with_reducible exact H) | (have H2_ := (Option.bind_some _ _).symm.trans H; rw [hy248]; with_reducible exact H2_) | (have H2_ := (Option.bind_some _ _).symm.trans H; with_reducible exact H2_) | with_reducible exact H | (rw [hy248]; exact H) | exact H
         have Ny248 := Aside0.mk hy248
         clear hy248
         replace H := Option.bind_eq_some_iff.mp H
         obtain ⟨⟨t253, t254, t255⟩, A290, H⟩ := H
         replace H : (if t255 = 0 then (if t254 > (x7_1.length : Int) then (marigraphlaw4_FrameBack.j2 kj16 l1 true) else (if (t253.length : Int) > (t233.length : Int) then (marigraphlaw4_FrameBack.j2 kj16 l1 true) else (if 0 ≤ (t253.length : Int) then (if (t253.length : Int) ≤ (t233.length : Int) then ((marigraphkeep_Lists.f kj16 t253 (t233.take ((t253.length : Int) : Int).toNat)).bind fun t263 => (marigraphlaw4_FrameBack.j2 kj16 l1 (!t263))) else (none)) else (none)))) else (marigraphlaw4_FrameBack.j2 kj16 l1 true)) = some r := H
         have A29 := Aside0.mk A290
         clear A290
         have HC30 := Aside0.mk H
         clear H
         go_upto_region 14 with (first | ((with_reducible refine gate_callee (f := 13) rfl ?_); refine goesL_ (some 65) rfl rfl Try.func13 (by kernel_rfl) rfl #[.int .i64 a2, .int .i64 0, .int .i64 (x7_1.length : Int)] rfl argN ?_; (with_reducible refine (marigraphbook_Within.calls kj16 a2 0 (x7_1.length : Int) t247 _ A26.out).mono ?_); rintro e w' ⟨rfl, ⟨nd, rfl⟩⟩; refine ⟨_, rfl, ?_⟩; have q31 : (t247 : Int) ≤ ((x7_1.length : Int) : Int) := of_decide_eq_true (by first | (with_reducible assumption) | assumption); obtain ⟨i031, hi031, _, hsz31, _⟩ := info_parts info5; have hroom31 : x7_1.length ≤ co19 := (Kd.R_reads' HO_7.out).2.1; have hC31 : Kd.F (Kd.int .u8) _ _ Ao19 x7_1.length x7_1 := (Kd.V_at (base := w.heap.size) (Kd.R_V (Kd.R_apart' (HO_7.out) (Kd.N_typed HO_0.out) (by decide)))).2.2; have hcut31 := cut_to (P := Try.prog) 23 5 .i64 Try.underlying23 hi031 Ao19 x7_1.length co19 t247 (of_decide_eq_true (by first | (with_reducible assumption) | assumption)) q31 hroom31; have hr31 := Kd.F_take (m := (t247 : Int).toNat) hC31 (by omega); have hy31 : y248.length = (t247 : Int).toNat := (by rw [Ny248.out, List.length_take]; omega); rw [← Ny248.out] at hr31; rw [← hy31] at hcut31; have HO252 := Aside0.mk (show Kd.V (Kd.int .u8) 5 _ w.heap.size _ (.slice Ao19 y248.length co19) y248 from Kd.V_mk (by omega) hr31); have HC252 := Aside0.mk (show y248.length ≤ co19 from by omega); clear hr31 hC31 hroom31 hi031 hsz31; have KY31 := Aside0.mk hy31; clear hy31; replace q31 := eq_true q31) | ((with_reducible refine gate_callee (f := 24) rfl ?_); refine goesL_ (some 67) rfl rfl Try.func24 (by kernel_rfl) rfl #[.slice Ao19 y248.length co19] rfl argN ?_; (with_reducible refine (frame_All.calls kj16 _ _ y248 t253 t254 t255 _ ?side1 ?side2 A29.out).mono ?_); (case side1 => repeat (first | exact (Kd.V_reads' HO252.out).2.2 | (with_reducible refine Kd.C_alloc ?_ _) | (with_reducible refine Kd.C_drewN ?_ _) | (with_reducible refine Kd.C_drew ?_))); (case side2 => exact (Kd.V_reads' HO252.out).2.1); rintro e w32 ⟨v256, rfl, ho0, hb⟩; refine ⟨_, rfl, ?_⟩; have n0_ := Aside0.mk (Kd.N_elder' (by (with_reducible repeat (first | apply Kd.N_alloc | apply Kd.N_drewN | apply Kd.N_drew)); exact HO_0.out) (by first | exact Kd.N_base ho0 | exact Kd.S_base ho0) hb); have n1_ := Aside0.mk (Kd.R_below (rowN HO_7.out) hb); have n2_ := Aside0.mk (Kd.V_elder' (by (with_reducible repeat (first | apply Kd.V_alloc | apply Kd.V_drewN | apply Kd.V_drew)); exact HO252.out) (by first | exact Kd.N_base ho0 | exact Kd.S_base ho0) hb); have n3_ := Aside0.mk (Kd.N_lower (Kd.N_mono (ok' := fun k_ => some k_ ≠ (.slice Ao18 t233.length co18 : Value).ownBlock ∧ some k_ ≠ (.slice Ao19 x7_1.length co19 : Value).ownBlock) (Kd.S_N (Kd.S_bound ho0)) (fun k_ hk_ => ⟨(Kd.fresh' (Kd.N_lt (by (with_reducible repeat (first | apply Kd.N_alloc | apply Kd.N_drewN | apply Kd.N_drew)); exact HO_0.out)) k_ hk_.2.1), (Kd.fresh' (Kd.R_lt (rowN HO_7.out)) k_ hk_.2.1)⟩)) (below_size (belN HB.out))); have n4_ := Aside0.mk (below_step (belN HB.out) hb); clear HO_0; clear HO_7; clear HO252; clear HB; have HO_0 := n0_; have HO_7 := n1_; have HO252 := n2_; have HO257 := n3_; have HB := n4_; clear n0_ n1_ n2_ n3_ n4_; (try clear hb); (try clear hk); (try clear ho0)))
         (try simp only [Act.put, List.setIfInBounds_toArray, List.set_cons_zero, List.set_cons_succ])
         go_cut [94] (fun v94 wc => ∃ (kq : Nat) (x94_29 : Bool), v94 = .bool x94_29 ∧ Aside0 (marigraphlaw4_FrameBack.j2 kq l1 x94_29 = some r) ∧ Aside0 (kq ≤ kj16) ∧ Aside0 (Below w.heap.size w wc))
         case first =>
          have H := HC30.out
          clear HC30
          by_cases c33 : t255 = 0
          ·rw [if_pos c33] at H
           have c33b0 : (t255 == 0) = true := beq_iff_eq.mpr c33
           have c33b1 : (t255 != 0) = false := bne_eq_false_iff_eq.mpr c33
           clear c33
           (first | rw [c33b0] | rw [c33b1] | (simp only [i64_w, i32_w]; rw [c33b0]) | skip)
           by_cases c34 : t254 > (x7_1.length : Int)
           ·rw [if_pos c34] at H
            have c34b0 : decide ((x7_1.length : Int) < t254) = true := decide_eq_true c34
            clear c34
            have H' := Aside0.mk H
            clear H
            go_wp2
            go_meet
            case rel => exact ⟨_, (true), (by first | rfl | (simp; done) | (simp [*]; done)), H', ⟨by have := HK1.out; have := HJ16.out; first | omega | exact Nat.le_refl _⟩, ⟨(belN HB.out)⟩⟩
           ·rw [if_neg c34] at H
            have c34b0 : decide ((x7_1.length : Int) < t254) = false := decide_eq_false c34
            clear c34
            by_cases c35 : (t253.length : Int) > (t233.length : Int)
            ·rw [if_pos c35] at H
             have c35b0 : decide ((t233.length : Int) < (t253.length : Int)) = true := decide_eq_true c35
             have c35b1 : decide (t233.length < t253.length) = true := decide_eq_true (Int.ofNat_lt.mp c35)
             clear c35
             have H' := Aside0.mk H
             clear H
             obtain ⟨Ao36, co36, eo36⟩ := Kd.N_slice HO257.out
             subst eo36
             go_wp2
             go_meet
             case rel => exact ⟨_, (true), (by first | rfl | (simp; done) | (simp [*]; done)), H', ⟨by have := HK1.out; have := HJ16.out; first | omega | exact Nat.le_refl _⟩, ⟨(belN HB.out)⟩⟩
            ·rw [if_neg c35] at H
             have c35b0 : decide ((t233.length : Int) < (t253.length : Int)) = false := decide_eq_false c35
             have c35b1 : decide (t233.length < t253.length) = false := decide_eq_false (fun h => c35 (Int.ofNat_lt.mpr h))
             clear c35
             by_cases c37 : 0 ≤ (t253.length : Int)
             ·rw [if_pos c37] at H
              have c37b0 := eq_true c37
              have c37b1 : decide (0 ≤ (t253.length : Int)) = true := decide_eq_true c37
              clear c37
              by_cases c38 : (t253.length : Int) ≤ (t233.length : Int)
              ·rw [if_pos c38] at H
               have c38b0 := eq_true c38
               have c38b1 : decide ((t253.length : Int) ≤ (t233.length : Int)) = true := decide_eq_true c38
               clear c38
               obtain ⟨y258, hy258⟩ : ∃ y_ : List (List Int), y_ = (t233.take ((t253.length : Int) : Int).toNat) := ⟨_, rfl⟩
               replace H : ((marigraphkeep_Lists.f kj16 t253 y258).bind fun t263 => (marigraphlaw4_FrameBack.j2 kj16 l1 (!t263))) = some r := by first | (rw [hy258]; with_reducible exact H) | (have H2_ := (Option.bind_some _ _).symm.trans H; rw [hy258]; with_reducible exact H2_) | (have H2_ := (Option.bind_some _ _).symm.trans H; with_reducible exact H2_) | with_reducible exact H | (rw [hy258]; exact H) | exact H
               have Ny258 := Aside0.mk hy258
               clear hy258
               replace H := Option.bind_eq_some_iff.mp H
               obtain ⟨t263, A390, H⟩ := H
               replace H : (marigraphlaw4_FrameBack.j2 kj16 l1 (!t263)) = some r := H
               have A39 := Aside0.mk A390
               clear A390
               have H' := Aside0.mk H
               clear H
               obtain ⟨Ao40, co40, eo40⟩ := Kd.N_slice HO257.out
               subst eo40
               have q41 : ((t253.length : Int) : Int) ≤ ((t233.length : Int) : Int) := of_decide_eq_true (by first | (with_reducible assumption) | assumption)
               obtain ⟨i041, hi041, _, hsz41, _⟩ := info_parts info23
               have hroom41 : t233.length ≤ co18 := (Kd.N_reads' HO_0.out).2.1
               have hC41 : Kd.F (Kd.slice 5 (Kd.int .u8)) _ _ Ao18 t233.length t233 := (Kd.V_at (base := w.heap.size) (Kd.N_V HO_0.out)).2.2
               have hcut41 := cut_to (P := Try.prog) 22 23 .i64 Try.underlying22 hi041 Ao18 t233.length co18 (t253.length : Int) (of_decide_eq_true (by first | (with_reducible assumption) | assumption)) q41 hroom41
               have hr41 := Kd.F_take (m := ((t253.length : Int) : Int).toNat) hC41 (by omega)
               have hy41 : y258.length = ((t253.length : Int) : Int).toNat := (by rw [Ny258.out, List.length_take]; omega)
               rw [← Ny258.out] at hr41
               rw [← hy41] at hcut41
               have HO262 := Aside0.mk (show Kd.V (Kd.slice 5 (Kd.int .u8)) 23 _ w.heap.size _ (.slice Ao18 y258.length co18) y258 from Kd.V_mk (by omega) hr41)
               have HC262 := Aside0.mk (show y258.length ≤ co18 from by omega)
               clear hr41 hC41 hroom41 hi041 hsz41
               have KY41 := Aside0.mk hy41
               clear hy41
               replace q41 := eq_true q41
               go_wp2_with (first | (go_at_call 37; (with_reducible refine (marigraphkeep_Lists.calls kj16 _ _ t253 _ _ y258 t263 _ ?side1 ?side2 ?side3 ?side4 A39.out).mono ?_); (case side1 => repeat (first | exact (Kd.N_reads' HO257.out).2.2 | (with_reducible refine Kd.C_alloc ?_ _) | (with_reducible refine Kd.C_drewN ?_ _) | (with_reducible refine Kd.C_drew ?_))); (case side2 => exact (Kd.N_reads' HO257.out).2.1); (case side3 => repeat (first | exact (Kd.V_reads' HO262.out).2.2 | (with_reducible refine Kd.C_alloc ?_ _) | (with_reducible refine Kd.C_drewN ?_ _) | (with_reducible refine Kd.C_drew ?_))); (case side4 => exact (Kd.V_reads' HO262.out).2.1); rintro e w' ⟨rfl, ⟨nd, rfl⟩⟩))
               go_meet
               case rel => exact ⟨_, (!t263), (by first | rfl | (simp; done) | (simp [*]; done)), H', ⟨by have := HK1.out; have := HJ16.out; first | omega | exact Nat.le_refl _⟩, ⟨(belN HB.out)⟩⟩
              ·rw [if_neg c38] at H
               exact absurd H (by simp)
             ·rw [if_neg c37] at H
              exact absurd H (by simp)
          ·rw [if_neg c33] at H
           have c33b0 : (t255 == 0) = false := beq_eq_false_iff_ne.mpr c33
           have c33b1 : (t255 != 0) = true := bne_iff_ne.mpr c33
           (first | rw [c33b0] | rw [c33b1] | (simp only [i64_w, i32_w]; rw [c33b0]) | skip)
           have H' := Aside0.mk H
           clear H
           go_wp2
           go_meet
           case rel => exact ⟨_, (true), (by first | rfl | (simp; done) | (simp [*]; done)), H', ⟨by have := HK1.out; have := HJ16.out; first | omega | exact Nat.le_refl _⟩, ⟨(belN HB.out)⟩⟩
         case rest =>
          clear HC30
          try clear c1
          try clear c2
          try clear p2
          try clear q2
          try clear hx2
          try clear c3
          try clear q3
          try clear q4
          try clear c6
          try clear c6b0
          try clear p6
          try clear c7
          try clear c7b0
          try clear c9
          try clear c9b0
          try clear c9b1
          try clear c10
          try clear c11
          try clear c13
          try clear c16
          try clear c21
          try clear c21b0
          try clear c21b1
          try clear c22
          try clear c22b0
          try clear c22b1
          try clear c23
          try clear p23
          try clear q23
          try clear hx23
          try clear c24
          try clear c25
          try clear c27
          try clear c27b0
          try clear c27b1
          try clear c28
          try clear c28b0
          try clear c28b1
          try clear q31
          try clear c33
          try clear c33b0
          try clear c33b1
          try clear c34
          try clear c34b0
          try clear c35
          try clear c35b0
          try clear c35b1
          try clear c37
          try clear c37b0
          try clear c37b1
          try clear c38
          try clear c38b0
          try clear c38b1
          try clear q41
          try clear hx236_0
          try clear p2
          try clear p23
          try clear p236
          try clear p6
          try clear q2
          try clear q23
          try clear q236
          try clear q31
          try clear q41
          obtain ⟨kq, x94_29, rfl, HA, HJ29, HB⟩ := hcut
          cases kq with
          | zero => exact absurd HA.out (by simp [marigraphlaw4_FrameBack.j2])
          | succ kj29 =>
           have H := HA.out
           clear HA
           simp only [marigraphlaw4_FrameBack.j2] at H
           by_cases c42 : x94_29 = true
           ·subst c42
            have H1 : (some false) = some r := by rw [if_pos rfl] at H; exact H
            clear H
            have H := H1
            clear H1
            obtain rfl := Option.some.inj H
            go_wp2
            go_ret
            exact ⟨by first | rfl | (simp [errW_none, errW_some] <;> rfl) | (simp [*, errW_none, errW_some] <;> rfl), (belN HB.out)⟩
           ·replace c42 := Bool.eq_false_iff.mpr c42
            subst c42
            have H1 : ((marigraphkeep_Entries.f kj29 l1 12 60 80).bind fun t264 => ((frame_Batch.f kj29 t264).bind fun bt267 => ((frame_Entries.f kj29 bt267.1).bind fun bt271 => (if bt267.2 = 0 then (if bt271.2 = 0 then ((marigraphref8_Same.f kj29 t264 bt271.1).bind fun t275 => (if t275 = true then ((marigraphlaw4_known.f kj29).bind fun t276 => (some t276)) else (some false))) else (some false)) else (some false))))) = some r := by rw [if_neg (show ¬ (false = true) by decide)] at H; exact H
            clear H
            have H := H1
            clear H1
            replace H := Option.bind_eq_some_iff.mp H
            obtain ⟨t264, A430, H⟩ := H
            replace H : ((frame_Batch.f kj29 t264).bind fun bt267 => ((frame_Entries.f kj29 bt267.1).bind fun bt271 => (if bt267.2 = 0 then (if bt271.2 = 0 then ((marigraphref8_Same.f kj29 t264 bt271.1).bind fun t275 => (if t275 = true then ((marigraphlaw4_known.f kj29).bind fun t276 => (some t276)) else (some false))) else (some false)) else (some false)))) = some r := H
            have A43 := Aside0.mk A430
            clear A430
            replace H := Option.bind_eq_some_iff.mp H
            obtain ⟨⟨t267, t268⟩, A440, H⟩ := H
            replace H : ((frame_Entries.f kj29 t267).bind fun bt271 => (if t268 = 0 then (if bt271.2 = 0 then ((marigraphref8_Same.f kj29 t264 bt271.1).bind fun t275 => (if t275 = true then ((marigraphlaw4_known.f kj29).bind fun t276 => (some t276)) else (some false))) else (some false)) else (some false))) = some r := H
            have A44 := Aside0.mk A440
            clear A440
            replace H := Option.bind_eq_some_iff.mp H
            obtain ⟨⟨t271, t272⟩, A450, H⟩ := H
            replace H : (if t268 = 0 then (if t272 = 0 then ((marigraphref8_Same.f kj29 t264 t271).bind fun t275 => (if t275 = true then ((marigraphlaw4_known.f kj29).bind fun t276 => (some t276)) else (some false))) else (some false)) else (some false)) = some r := H
            have A45 := Aside0.mk A450
            clear A450
            by_cases c46 : t268 = 0
            ·rw [if_pos c46] at H
             have c46b0 : (t268 == 0) = true := beq_iff_eq.mpr c46
             have c46b1 : (t268 != 0) = false := bne_eq_false_iff_eq.mpr c46
             clear c46
             by_cases c47 : t272 = 0
             ·rw [if_pos c47] at H
              have c47b0 : (t272 == 0) = true := beq_iff_eq.mpr c47
              have c47b1 : (t272 != 0) = false := bne_eq_false_iff_eq.mpr c47
              clear c47
              replace H := Option.bind_eq_some_iff.mp H
              obtain ⟨t275, A480, H⟩ := H
              replace H : (if t275 = true then ((marigraphlaw4_known.f kj29).bind fun t276 => (some t276)) else (some false)) = some r := H
              have A48 := Aside0.mk A480
              clear A480
              by_cases c49 : t275 = true
              ·subst c49
               have H1 : ((marigraphlaw4_known.f kj29).bind fun t276 => (some t276)) = some r := by rw [if_pos rfl] at H; exact H
               clear H
               have H := H1
               clear H1
               replace H := Option.bind_eq_some_iff.mp H
               obtain ⟨t276, A500, H⟩ := H
               replace H : (some t276) = some r := H
               have A50 := Aside0.mk A500
               clear A500
               obtain rfl := Option.some.inj H
               go_wp2_with (first | ((with_reducible refine gate_callee (f := 21) rfl ?_); refine goesL_ (some 96) rfl rfl Try.func21 (by kernel_rfl) rfl #[.slice A1 l1.length c1, .int .i64 12, .int .i64 60, .int .i64 80] rfl argN ?_; (with_reducible refine (marigraphkeep_Entries.calls kj29 (fun k_ => k_ < w.heap.size) _ _ l1 12 60 80 t264 _ ?side1 A43.out).mono ?_); (case side1 => exact Kd.V_mk HC1.out (Kd.F_below (Kd.C_F k49_heap HR1.out) (belN HB.out))); rintro e w51 ⟨v265, rfl, ho0, hb⟩; refine ⟨_, rfl, ?_⟩; have n0_ := Aside0.mk (Kd.N_lower (Kd.N_mono (ok' := fun k_ => True) ho0 (fun k_ hk_ => trivial)) (below_size (belN HB.out))); have n1_ := Aside0.mk (below_step (belN HB.out) hb); clear HB; have HO266 := n0_; have HB := n1_; clear n0_ n1_; (try clear hb); (try clear hk); (try clear ho0); obtain ⟨Ao52, co52, eo52⟩ := Kd.N_slice HO266.out; subst eo52) | ((with_reducible refine gate_callee (f := 22) rfl ?_); refine goesL_ (some 99) rfl rfl Try.func22 (by kernel_rfl) rfl #[.slice Ao52 t264.length co52] rfl argN ?_; (with_reducible refine (frame_Batch.calls kj29 _ _ t264 t267 t268 _ ?side1 ?side2 A44.out).mono ?_); (case side1 => repeat (first | exact (Kd.N_reads' HO266.out).2.2 | (with_reducible refine Kd.C_alloc ?_ _) | (with_reducible refine Kd.C_drewN ?_ _) | (with_reducible refine Kd.C_drew ?_))); (case side2 => exact (Kd.N_reads' HO266.out).2.1); rintro e w53 ⟨v269, rfl, ho0, hb⟩; refine ⟨_, rfl, ?_⟩; have n0_ := Aside0.mk (Kd.N_elder' (by (with_reducible repeat (first | apply Kd.N_alloc | apply Kd.N_drewN | apply Kd.N_drew)); exact HO266.out) (Kd.R_base ho0) hb); have n1_ := Aside0.mk (Kd.R_lower ho0 (below_size (belN HB.out))); have n2_ := Aside0.mk (below_step (belN HB.out) hb); clear HO266; clear HB; have HO266 := n0_; have HO270 := n1_; have HB := n2_; clear n0_ n1_ n2_; (try clear hb); (try clear hk); (try clear ho0); obtain ⟨Ao54, co54, eo54⟩ := Kd.R_slice HO270.out; subst eo54) | ((with_reducible refine gate_callee (f := 38) rfl ?_); refine goesL_ (some 104) rfl rfl Try.func38 (by kernel_rfl) rfl #[.slice Ao54 t267.length co54] rfl argN ?_; (with_reducible refine (frame_Entries.calls kj29 _ _ t267 t271 t272 _ ?side1 ?side2 A45.out).mono ?_); (case side1 => repeat (first | exact (Kd.R_reads' HO270.out).2.2 | (with_reducible refine Kd.C_alloc ?_ _) | (with_reducible refine Kd.C_drewN ?_ _) | (with_reducible refine Kd.C_drew ?_))); (case side2 => exact (Kd.R_reads' HO270.out).2.1); rintro e w55 ⟨v273, rfl, ho0, hb⟩; refine ⟨_, rfl, ?_⟩; have n0_ := Aside0.mk (Kd.N_elder' (by (with_reducible repeat (first | apply Kd.N_alloc | apply Kd.N_drewN | apply Kd.N_drew)); exact HO266.out) (by first | exact Kd.N_base ho0 | exact Kd.S_base ho0) hb); have n1_ := Aside0.mk (Kd.R_below (rowN HO270.out) hb); have n2_ := Aside0.mk (Kd.N_lower (Kd.N_mono (ok' := fun k_ => some k_ ≠ (.slice Ao52 t264.length co52 : Value).ownBlock ∧ some k_ ≠ (.slice Ao54 t267.length co54 : Value).ownBlock) (Kd.S_N (Kd.S_bound ho0)) (fun k_ hk_ => ⟨(Kd.fresh' (Kd.N_lt (by (with_reducible repeat (first | apply Kd.N_alloc | apply Kd.N_drewN | apply Kd.N_drew)); exact HO266.out)) k_ hk_.2.1), (Kd.fresh' (Kd.R_lt (rowN HO270.out)) k_ hk_.2.1)⟩)) (below_size (belN HB.out))); have n3_ := Aside0.mk (below_step (belN HB.out) hb); clear HO266; clear HO270; clear HB; have HO266 := n0_; have HO270 := n1_; have HO274 := n2_; have HB := n3_; clear n0_ n1_ n2_ n3_; (try clear hb); (try clear hk); (try clear ho0); obtain ⟨Ao56, co56, eo56⟩ := Kd.N_slice HO274.out; subst eo56) | (go_at_call 23; (with_reducible refine (marigraphref8_Same.calls kj29 _ _ t264 _ _ t271 true _ ?side1 ?side2 ?side3 ?side4 A48.out).mono ?_); (case side1 => repeat (first | exact (Kd.N_reads' HO266.out).2.2 | (with_reducible refine Kd.C_alloc ?_ _) | (with_reducible refine Kd.C_drewN ?_ _) | (with_reducible refine Kd.C_drew ?_))); (case side2 => exact (Kd.N_reads' HO266.out).2.1); (case side3 => repeat (first | exact (Kd.N_reads' HO274.out).2.2 | (with_reducible refine Kd.C_alloc ?_ _) | (with_reducible refine Kd.C_drewN ?_ _) | (with_reducible refine Kd.C_drew ?_))); (case side4 => exact (Kd.N_reads' HO274.out).2.1); rintro e w' ⟨rfl, ⟨nd, rfl⟩⟩) | (go_at_call 20; (with_reducible refine (marigraphlaw4_known.calls kj29  t276 _ A50.out).mono ?_); rintro e w57 ⟨rfl, hb⟩; have n0_ := Aside0.mk (Kd.N_below (by (with_reducible repeat (first | apply Kd.N_alloc | apply Kd.N_drewN | apply Kd.N_drew)); exact HO266.out) hb); have n1_ := Aside0.mk (Kd.R_below (rowN HO270.out) hb); have n2_ := Aside0.mk (Kd.N_below (by (with_reducible repeat (first | apply Kd.N_alloc | apply Kd.N_drewN | apply Kd.N_drew)); exact HO274.out) hb); have n3_ := Aside0.mk (below_step (belN HB.out) hb); clear HO266; clear HO270; clear HO274; clear HB; have HO266 := n0_; have HO270 := n1_; have HO274 := n2_; have HB := n3_; clear n0_ n1_ n2_ n3_; (try clear hb); (try clear hk)))
               go_ret
               exact ⟨by first | rfl | (simp [errW_none, errW_some] <;> rfl) | (simp [*, errW_none, errW_some] <;> rfl), (belN HB.out)⟩
              ·replace c49 := Bool.eq_false_iff.mpr c49
               subst c49
               have H1 : (some false) = some r := by rw [if_neg (show ¬ (false = true) by decide)] at H; exact H
               clear H
               have H := H1
               clear H1
               obtain rfl := Option.some.inj H
               go_wp2_with (first | ((with_reducible refine gate_callee (f := 21) rfl ?_); refine goesL_ (some 96) rfl rfl Try.func21 (by kernel_rfl) rfl #[.slice A1 l1.length c1, .int .i64 12, .int .i64 60, .int .i64 80] rfl argN ?_; (with_reducible refine (marigraphkeep_Entries.calls kj29 (fun k_ => k_ < w.heap.size) _ _ l1 12 60 80 t264 _ ?side1 A43.out).mono ?_); (case side1 => exact Kd.V_mk HC1.out (Kd.F_below (Kd.C_F k49_heap HR1.out) (belN HB.out))); rintro e w58 ⟨v265, rfl, ho0, hb⟩; refine ⟨_, rfl, ?_⟩; have n0_ := Aside0.mk (Kd.N_lower (Kd.N_mono (ok' := fun k_ => True) ho0 (fun k_ hk_ => trivial)) (below_size (belN HB.out))); have n1_ := Aside0.mk (below_step (belN HB.out) hb); clear HB; have HO266 := n0_; have HB := n1_; clear n0_ n1_; (try clear hb); (try clear hk); (try clear ho0); obtain ⟨Ao59, co59, eo59⟩ := Kd.N_slice HO266.out; subst eo59) | ((with_reducible refine gate_callee (f := 22) rfl ?_); refine goesL_ (some 99) rfl rfl Try.func22 (by kernel_rfl) rfl #[.slice Ao59 t264.length co59] rfl argN ?_; (with_reducible refine (frame_Batch.calls kj29 _ _ t264 t267 t268 _ ?side1 ?side2 A44.out).mono ?_); (case side1 => repeat (first | exact (Kd.N_reads' HO266.out).2.2 | (with_reducible refine Kd.C_alloc ?_ _) | (with_reducible refine Kd.C_drewN ?_ _) | (with_reducible refine Kd.C_drew ?_))); (case side2 => exact (Kd.N_reads' HO266.out).2.1); rintro e w60 ⟨v269, rfl, ho0, hb⟩; refine ⟨_, rfl, ?_⟩; have n0_ := Aside0.mk (Kd.N_elder' (by (with_reducible repeat (first | apply Kd.N_alloc | apply Kd.N_drewN | apply Kd.N_drew)); exact HO266.out) (Kd.R_base ho0) hb); have n1_ := Aside0.mk (Kd.R_lower ho0 (below_size (belN HB.out))); have n2_ := Aside0.mk (below_step (belN HB.out) hb); clear HO266; clear HB; have HO266 := n0_; have HO270 := n1_; have HB := n2_; clear n0_ n1_ n2_; (try clear hb); (try clear hk); (try clear ho0); obtain ⟨Ao61, co61, eo61⟩ := Kd.R_slice HO270.out; subst eo61) | ((with_reducible refine gate_callee (f := 38) rfl ?_); refine goesL_ (some 104) rfl rfl Try.func38 (by kernel_rfl) rfl #[.slice Ao61 t267.length co61] rfl argN ?_; (with_reducible refine (frame_Entries.calls kj29 _ _ t267 t271 t272 _ ?side1 ?side2 A45.out).mono ?_); (case side1 => repeat (first | exact (Kd.R_reads' HO270.out).2.2 | (with_reducible refine Kd.C_alloc ?_ _) | (with_reducible refine Kd.C_drewN ?_ _) | (with_reducible refine Kd.C_drew ?_))); (case side2 => exact (Kd.R_reads' HO270.out).2.1); rintro e w62 ⟨v273, rfl, ho0, hb⟩; refine ⟨_, rfl, ?_⟩; have n0_ := Aside0.mk (Kd.N_elder' (by (with_reducible repeat (first | apply Kd.N_alloc | apply Kd.N_drewN | apply Kd.N_drew)); exact HO266.out) (by first | exact Kd.N_base ho0 | exact Kd.S_base ho0) hb); have n1_ := Aside0.mk (Kd.R_below (rowN HO270.out) hb); have n2_ := Aside0.mk (Kd.N_lower (Kd.N_mono (ok' := fun k_ => some k_ ≠ (.slice Ao59 t264.length co59 : Value).ownBlock ∧ some k_ ≠ (.slice Ao61 t267.length co61 : Value).ownBlock) (Kd.S_N (Kd.S_bound ho0)) (fun k_ hk_ => ⟨(Kd.fresh' (Kd.N_lt (by (with_reducible repeat (first | apply Kd.N_alloc | apply Kd.N_drewN | apply Kd.N_drew)); exact HO266.out)) k_ hk_.2.1), (Kd.fresh' (Kd.R_lt (rowN HO270.out)) k_ hk_.2.1)⟩)) (below_size (belN HB.out))); have n3_ := Aside0.mk (below_step (belN HB.out) hb); clear HO266; clear HO270; clear HB; have HO266 := n0_; have HO270 := n1_; have HO274 := n2_; have HB := n3_; clear n0_ n1_ n2_ n3_; (try clear hb); (try clear hk); (try clear ho0); obtain ⟨Ao63, co63, eo63⟩ := Kd.N_slice HO274.out; subst eo63) | (go_at_call 23; (with_reducible refine (marigraphref8_Same.calls kj29 _ _ t264 _ _ t271 false _ ?side1 ?side2 ?side3 ?side4 A48.out).mono ?_); (case side1 => repeat (first | exact (Kd.N_reads' HO266.out).2.2 | (with_reducible refine Kd.C_alloc ?_ _) | (with_reducible refine Kd.C_drewN ?_ _) | (with_reducible refine Kd.C_drew ?_))); (case side2 => exact (Kd.N_reads' HO266.out).2.1); (case side3 => repeat (first | exact (Kd.N_reads' HO274.out).2.2 | (with_reducible refine Kd.C_alloc ?_ _) | (with_reducible refine Kd.C_drewN ?_ _) | (with_reducible refine Kd.C_drew ?_))); (case side4 => exact (Kd.N_reads' HO274.out).2.1); rintro e w' ⟨rfl, ⟨nd, rfl⟩⟩))
               go_ret
               exact ⟨by first | rfl | (simp [errW_none, errW_some] <;> rfl) | (simp [*, errW_none, errW_some] <;> rfl), (belN HB.out)⟩
             ·rw [if_neg c47] at H
              have c47b0 : (t272 == 0) = false := beq_eq_false_iff_ne.mpr c47
              have c47b1 : (t272 != 0) = true := bne_iff_ne.mpr c47
              obtain rfl := Option.some.inj H
              go_wp2_with (first | ((with_reducible refine gate_callee (f := 21) rfl ?_); refine goesL_ (some 96) rfl rfl Try.func21 (by kernel_rfl) rfl #[.slice A1 l1.length c1, .int .i64 12, .int .i64 60, .int .i64 80] rfl argN ?_; (with_reducible refine (marigraphkeep_Entries.calls kj29 (fun k_ => k_ < w.heap.size) _ _ l1 12 60 80 t264 _ ?side1 A43.out).mono ?_); (case side1 => exact Kd.V_mk HC1.out (Kd.F_below (Kd.C_F k49_heap HR1.out) (belN HB.out))); rintro e w64 ⟨v265, rfl, ho0, hb⟩; refine ⟨_, rfl, ?_⟩; have n0_ := Aside0.mk (Kd.N_lower (Kd.N_mono (ok' := fun k_ => True) ho0 (fun k_ hk_ => trivial)) (below_size (belN HB.out))); have n1_ := Aside0.mk (below_step (belN HB.out) hb); clear HB; have HO266 := n0_; have HB := n1_; clear n0_ n1_; (try clear hb); (try clear hk); (try clear ho0); obtain ⟨Ao65, co65, eo65⟩ := Kd.N_slice HO266.out; subst eo65) | ((with_reducible refine gate_callee (f := 22) rfl ?_); refine goesL_ (some 99) rfl rfl Try.func22 (by kernel_rfl) rfl #[.slice Ao65 t264.length co65] rfl argN ?_; (with_reducible refine (frame_Batch.calls kj29 _ _ t264 t267 t268 _ ?side1 ?side2 A44.out).mono ?_); (case side1 => repeat (first | exact (Kd.N_reads' HO266.out).2.2 | (with_reducible refine Kd.C_alloc ?_ _) | (with_reducible refine Kd.C_drewN ?_ _) | (with_reducible refine Kd.C_drew ?_))); (case side2 => exact (Kd.N_reads' HO266.out).2.1); rintro e w66 ⟨v269, rfl, ho0, hb⟩; refine ⟨_, rfl, ?_⟩; have n0_ := Aside0.mk (Kd.N_elder' (by (with_reducible repeat (first | apply Kd.N_alloc | apply Kd.N_drewN | apply Kd.N_drew)); exact HO266.out) (Kd.R_base ho0) hb); have n1_ := Aside0.mk (Kd.R_lower ho0 (below_size (belN HB.out))); have n2_ := Aside0.mk (below_step (belN HB.out) hb); clear HO266; clear HB; have HO266 := n0_; have HO270 := n1_; have HB := n2_; clear n0_ n1_ n2_; (try clear hb); (try clear hk); (try clear ho0); obtain ⟨Ao67, co67, eo67⟩ := Kd.R_slice HO270.out; subst eo67) | ((with_reducible refine gate_callee (f := 38) rfl ?_); refine goesL_ (some 104) rfl rfl Try.func38 (by kernel_rfl) rfl #[.slice Ao67 t267.length co67] rfl argN ?_; (with_reducible refine (frame_Entries.calls kj29 _ _ t267 t271 t272 _ ?side1 ?side2 A45.out).mono ?_); (case side1 => repeat (first | exact (Kd.R_reads' HO270.out).2.2 | (with_reducible refine Kd.C_alloc ?_ _) | (with_reducible refine Kd.C_drewN ?_ _) | (with_reducible refine Kd.C_drew ?_))); (case side2 => exact (Kd.R_reads' HO270.out).2.1); rintro e w68 ⟨v273, rfl, ho0, hb⟩; refine ⟨_, rfl, ?_⟩; have n0_ := Aside0.mk (Kd.N_elder' (by (with_reducible repeat (first | apply Kd.N_alloc | apply Kd.N_drewN | apply Kd.N_drew)); exact HO266.out) (by first | exact Kd.N_base ho0 | exact Kd.S_base ho0) hb); have n1_ := Aside0.mk (Kd.R_below (rowN HO270.out) hb); have n2_ := Aside0.mk (Kd.N_lower (Kd.N_mono (ok' := fun k_ => some k_ ≠ (.slice Ao65 t264.length co65 : Value).ownBlock ∧ some k_ ≠ (.slice Ao67 t267.length co67 : Value).ownBlock) (Kd.S_N (Kd.S_bound ho0)) (fun k_ hk_ => ⟨(Kd.fresh' (Kd.N_lt (by (with_reducible repeat (first | apply Kd.N_alloc | apply Kd.N_drewN | apply Kd.N_drew)); exact HO266.out)) k_ hk_.2.1), (Kd.fresh' (Kd.R_lt (rowN HO270.out)) k_ hk_.2.1)⟩)) (below_size (belN HB.out))); have n3_ := Aside0.mk (below_step (belN HB.out) hb); clear HO266; clear HO270; clear HB; have HO266 := n0_; have HO270 := n1_; have HO274 := n2_; have HB := n3_; clear n0_ n1_ n2_ n3_; (try clear hb); (try clear hk); (try clear ho0)))
              go_ret
              exact ⟨by first | rfl | (simp [errW_none, errW_some] <;> rfl) | (simp [*, errW_none, errW_some] <;> rfl), (belN HB.out)⟩
            ·rw [if_neg c46] at H
             have c46b0 : (t268 == 0) = false := beq_eq_false_iff_ne.mpr c46
             have c46b1 : (t268 != 0) = true := bne_iff_ne.mpr c46
             obtain rfl := Option.some.inj H
             go_wp2_with (first | ((with_reducible refine gate_callee (f := 21) rfl ?_); refine goesL_ (some 96) rfl rfl Try.func21 (by kernel_rfl) rfl #[.slice A1 l1.length c1, .int .i64 12, .int .i64 60, .int .i64 80] rfl argN ?_; (with_reducible refine (marigraphkeep_Entries.calls kj29 (fun k_ => k_ < w.heap.size) _ _ l1 12 60 80 t264 _ ?side1 A43.out).mono ?_); (case side1 => exact Kd.V_mk HC1.out (Kd.F_below (Kd.C_F k49_heap HR1.out) (belN HB.out))); rintro e w69 ⟨v265, rfl, ho0, hb⟩; refine ⟨_, rfl, ?_⟩; have n0_ := Aside0.mk (Kd.N_lower (Kd.N_mono (ok' := fun k_ => True) ho0 (fun k_ hk_ => trivial)) (below_size (belN HB.out))); have n1_ := Aside0.mk (below_step (belN HB.out) hb); clear HB; have HO266 := n0_; have HB := n1_; clear n0_ n1_; (try clear hb); (try clear hk); (try clear ho0); obtain ⟨Ao70, co70, eo70⟩ := Kd.N_slice HO266.out; subst eo70) | ((with_reducible refine gate_callee (f := 22) rfl ?_); refine goesL_ (some 99) rfl rfl Try.func22 (by kernel_rfl) rfl #[.slice Ao70 t264.length co70] rfl argN ?_; (with_reducible refine (frame_Batch.calls kj29 _ _ t264 t267 t268 _ ?side1 ?side2 A44.out).mono ?_); (case side1 => repeat (first | exact (Kd.N_reads' HO266.out).2.2 | (with_reducible refine Kd.C_alloc ?_ _) | (with_reducible refine Kd.C_drewN ?_ _) | (with_reducible refine Kd.C_drew ?_))); (case side2 => exact (Kd.N_reads' HO266.out).2.1); rintro e w71 ⟨v269, rfl, ho0, hb⟩; refine ⟨_, rfl, ?_⟩; have n0_ := Aside0.mk (Kd.N_elder' (by (with_reducible repeat (first | apply Kd.N_alloc | apply Kd.N_drewN | apply Kd.N_drew)); exact HO266.out) (Kd.R_base ho0) hb); have n1_ := Aside0.mk (Kd.R_lower ho0 (below_size (belN HB.out))); have n2_ := Aside0.mk (below_step (belN HB.out) hb); clear HO266; clear HB; have HO266 := n0_; have HO270 := n1_; have HB := n2_; clear n0_ n1_ n2_; (try clear hb); (try clear hk); (try clear ho0); obtain ⟨Ao72, co72, eo72⟩ := Kd.R_slice HO270.out; subst eo72) | ((with_reducible refine gate_callee (f := 38) rfl ?_); refine goesL_ (some 104) rfl rfl Try.func38 (by kernel_rfl) rfl #[.slice Ao72 t267.length co72] rfl argN ?_; (with_reducible refine (frame_Entries.calls kj29 _ _ t267 t271 t272 _ ?side1 ?side2 A45.out).mono ?_); (case side1 => repeat (first | exact (Kd.R_reads' HO270.out).2.2 | (with_reducible refine Kd.C_alloc ?_ _) | (with_reducible refine Kd.C_drewN ?_ _) | (with_reducible refine Kd.C_drew ?_))); (case side2 => exact (Kd.R_reads' HO270.out).2.1); rintro e w73 ⟨v273, rfl, ho0, hb⟩; refine ⟨_, rfl, ?_⟩; have n0_ := Aside0.mk (Kd.N_elder' (by (with_reducible repeat (first | apply Kd.N_alloc | apply Kd.N_drewN | apply Kd.N_drew)); exact HO266.out) (by first | exact Kd.N_base ho0 | exact Kd.S_base ho0) hb); have n1_ := Aside0.mk (Kd.R_below (rowN HO270.out) hb); have n2_ := Aside0.mk (Kd.N_lower (Kd.N_mono (ok' := fun k_ => some k_ ≠ (.slice Ao70 t264.length co70 : Value).ownBlock ∧ some k_ ≠ (.slice Ao72 t267.length co72 : Value).ownBlock) (Kd.S_N (Kd.S_bound ho0)) (fun k_ hk_ => ⟨(Kd.fresh' (Kd.N_lt (by (with_reducible repeat (first | apply Kd.N_alloc | apply Kd.N_drewN | apply Kd.N_drew)); exact HO266.out)) k_ hk_.2.1), (Kd.fresh' (Kd.R_lt (rowN HO270.out)) k_ hk_.2.1)⟩)) (below_size (belN HB.out))); have n3_ := Aside0.mk (below_step (belN HB.out) hb); clear HO266; clear HO270; clear HB; have HO266 := n0_; have HO270 := n1_; have HO274 := n2_; have HB := n3_; clear n0_ n1_ n2_ n3_; (try clear hb); (try clear hk); (try clear ho0)))
             go_ret
             exact ⟨by first | rfl | (simp [errW_none, errW_some] <;> rfl) | (simp [*, errW_none, errW_some] <;> rfl), (belN HB.out)⟩
        ·rw [if_neg c28] at H
         exact absurd H (by simp)
       ·rw [if_neg c27] at H
        exact absurd H (by simp)

end Go.Proofs.Ytmimfnangdabmaa.PFrameBack

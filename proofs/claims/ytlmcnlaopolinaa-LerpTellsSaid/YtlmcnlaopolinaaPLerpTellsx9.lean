/- The walk of the Go functions that a law reaches, told as plain functions; a program of this session has written it. No condition beyond the statement's own. -/
import Derived.Test.YtlmcnlaopolinaaPLerpTellsx0
import Derived.Test.YtlmcnlaopolinaaPLerpTellsx2
import Derived.Test.YtlmcnlaopolinaaPLerpTellsx5
import Derived.Test.YtlmcnlaopolinaaPLerpTellsx8
namespace Go.Proofs.Ytlmcnlaopolinaa.PLerpTells
open Go.RowKit Go.Proofs.YtlmcnlaopolinaaW.PrintWords Go.Proofs.YtlmcnlaopolinaaW.PrintLast Go.Proofs.YtlmcnlaopolinaaW.PrintMore
attribute [local go_sem] max2_int min2_int max_two min_two max_three min_three max_four min_four   -- for this text's walks alone
set_option linter.unusedVariables false
set_option linter.unusedSimpArgs false

/-! ### lerp_At: function 17 -/
def lerp_At.j0 : Nat → List (S26) → Int → Int → Bool → Option (Int × Int × Bool × Int)
 | 0, _, _, _, _ => none
 | k + 1, x0, x1, x7, x17 => if x17 = true then (if 0 ≤ x7 then (if x7 < (x0.length : Int) then (some ((rd_T26 x0 x7).f1.f0, (rd_T26 x0 x7).f1.f1, true, 0)) else (none)) else (none)) else (if x7 = 0 then (some (0, 0, false, 0)) else (if x7 = (x0.length : Int) then (some (0, 0, false, 0)) else (if 0 ≤ (wrap64 (x7 - 1)) then (if (wrap64 (x7 - 1)) < (x0.length : Int) then (if 0 ≤ x7 then (if x7 < (x0.length : Int) then ((lerp_Between.f k ((rd_T26 x0 (wrap64 (x7 - 1))).f0) ((rd_T26 x0 (wrap64 (x7 - 1))).f1.f0) ((rd_T26 x0 (wrap64 (x7 - 1))).f1.f1) ((rd_T26 x0 x7).f0) ((rd_T26 x0 x7).f1.f0) ((rd_T26 x0 x7).f1.f1) x1).bind fun bt271 => (some (bt271.1, bt271.2.1, (bt271.2.2 == 0), bt271.2.2))) else (none)) else (none)) else (none)) else (none))))
def lerp_At.f (k : Nat) (l0 : List (S26)) (a1 : Int) : Option (Int × Int × Bool × Int) := (down_Right.f k l0).bind fun t265 => (if t265 = true then ((lerp_place.f k l0 a1).bind fun t266 => (if t266 < (l0.length : Int) then (if 0 ≤ t266 then (lerp_At.j0 k l0 a1 t266 (((rd_T26 l0 t266).f0) == a1)) else (none)) else (lerp_At.j0 k l0 a1 t266 false))) else (some (0, 0, false, 1)))
theorem lerp_At.mono_l : ∀ k, (∀ y0 y1 y2 y3, LeO (lerp_At.j0 k y0 y1 y2 y3) (lerp_At.j0 (k + 1) y0 y1 y2 y3))
 | 0 => fun _ _ _ _ r h => by simp [lerp_At.j0] at h
 | k + 1 => by
  have ih0 := lerp_At.mono_l k
  ·intro y0 y1 y2 y3
   unfold lerp_At.j0
   repeat' first
   | (with_reducible exact ih0 _ _ _ _)
   | (with_reducible exact down_Right.mono _ _)
   | (with_reducible exact lerp_Between.mono _ _ _ _ _ _ _ _)
   | (with_reducible exact lerp_place.mono _ _ _)
   | (with_reducible exact LeO.refl _)
   | (with_reducible exact LeO.none _)
   | (with_reducible refine LeO.ite ?_ ?_)
   | (with_reducible refine LeO.bind ?_ (fun _ => ?_))
   | exact ih0 _ _ _ _
   | exact down_Right.mono _ _
   | exact lerp_Between.mono _ _ _ _ _ _ _ _
   | exact lerp_place.mono _ _ _
   | exact LeO.none _
   | refine LeO.ite ?_ ?_
   | refine LeO.bind ?_ (fun _ => ?_)
theorem lerp_At.mono : ∀ a0 a1 k, LeO (lerp_At.f k a0 a1) (lerp_At.f (k + 1) a0 a1) := by
 intro a0 a1 k
 have ih0 := lerp_At.mono_l k
 unfold lerp_At.f
 repeat' first
   | (with_reducible exact ih0 _ _ _ _)
   | (with_reducible exact down_Right.mono _ _)
   | (with_reducible exact lerp_Between.mono _ _ _ _ _ _ _ _)
   | (with_reducible exact lerp_place.mono _ _ _)
   | (with_reducible exact LeO.refl _)
   | (with_reducible exact LeO.none _)
   | (with_reducible refine LeO.ite ?_ ?_)
   | (with_reducible refine LeO.bind ?_ (fun _ => ?_))
   | exact ih0 _ _ _ _
   | exact down_Right.mono _ _
   | exact lerp_Between.mono _ _ _ _ _ _ _ _
   | exact lerp_place.mono _ _ _
   | exact LeO.none _
   | refine LeO.ite ?_ ?_
   | refine LeO.bind ?_ (fun _ => ?_)
def lerp_At.T8 : Bool × List (List Nat × List Nat) := (true, [([], []), ([], []), ([1], [1]), ([0, 2], [0, 2]), ([3], [3]), ([], []), ([], []), ([5, 6], [5, 6]), ([7], [7]), ([], []), ([4, 8, 9], [4, 8, 9]), ([10], [10]), ([11], [11]), ([11], [11]), ([], []), ([14, 12, 10, 0, 1, 2, 3, 4, 5, 6, 7, 8, 9, 10, 11, 12, 14], [12, 14]), ([13, 15, 0, 1, 2, 3, 4, 5, 6, 7, 8, 9, 10, 11, 12, 13, 14, 15], [13])])
def lerp_At.B8 : List Nat := [0, 0, 2, 7, 15, 0, 0, 96, 224, 0, 1023, 2047, 4095, 4095, 0, 24575, 65535]
theorem lerp_At.tab8 : rtab .any (opsOf Try.f17 8) = lerp_At.T8 := by kernel_rfl
theorem lerp_At.bits8 : waitsOk lerp_At.T8.2 lerp_At.B8 = true := by kernel_rfl
set_option maxHeartbeats 8000000 in
set_option maxRecDepth 100000 in
theorem lerp_At.calls (k : Nat) (A0 : Option Addr) (c0 : Nat) (l0 : List (S26)) (a1 : Int) (r1 : Int) (r2 : Int) (r3 : Bool) (r4 : Int) (w : World) (hr0 : Kd.C k26 w A0 l0.length l0) (hc0 : l0.length ≤ c0) (h : lerp_At.f k l0 a1 = some (r1, r2, r3, r4)) :
  Calls Try.prog 17 #[.slice A0 l0.length c0, .int .i64 a1] w fun e w' => e = .returned (.tuple #[.agg #[.int .i64 r1, .int .i64 r2], .bool r3, .int .i64 r4]) ∧ Below w.heap.size w w' := by
 have hu24 := Try.underlying24
 have hu26 := Try.underlying26
 have HR0 := Aside0.mk hr0
 have HC0 := Aside0.mk hc0
 clear hr0 hc0
 have HB := Aside0.mk (Below.refl w.heap.size w)
 have H : ((down_Right.f k l0).bind fun t265 => (if t265 = true then ((lerp_place.f k l0 a1).bind fun t266 => (if t266 < (l0.length : Int) then (if 0 ≤ t266 then (lerp_At.j0 k l0 a1 t266 (((rd_T26 l0 t266).f0) == a1)) else (none)) else (lerp_At.j0 k l0 a1 t266 false))) else (some (0, 0, false, 1)))) = some (r1, r2, r3, r4) := h
 clear h
 replace H := Option.bind_eq_some_iff.mp H
 obtain ⟨t265, A30, H⟩ := H
 replace H : (if t265 = true then ((lerp_place.f k l0 a1).bind fun t266 => (if t266 < (l0.length : Int) then (if 0 ≤ t266 then (lerp_At.j0 k l0 a1 t266 (((rd_T26 l0 t266).f0) == a1)) else (none)) else (lerp_At.j0 k l0 a1 t266 false))) else (some (0, 0, false, 1))) = some (r1, r2, r3, r4) := H
 have A3 := Aside0.mk A30
 clear A30
 by_cases c4 : t265 = true
 ·subst c4
  have H1 : ((lerp_place.f k l0 a1).bind fun t266 => (if t266 < (l0.length : Int) then (if 0 ≤ t266 then (lerp_At.j0 k l0 a1 t266 (((rd_T26 l0 t266).f0) == a1)) else (none)) else (lerp_At.j0 k l0 a1 t266 false))) = some (r1, r2, r3, r4) := by rw [if_pos rfl] at H; exact H
  clear H
  have H := H1
  clear H1
  replace H := Option.bind_eq_some_iff.mp H
  obtain ⟨t266, A50, H⟩ := H
  replace H : (if t266 < (l0.length : Int) then (if 0 ≤ t266 then (lerp_At.j0 k l0 a1 t266 (((rd_T26 l0 t266).f0) == a1)) else (none)) else (lerp_At.j0 k l0 a1 t266 false)) = some (r1, r2, r3, r4) := H
  have A5 := Aside0.mk A50
  clear A50
  have HC6 := Aside0.mk H
  clear H
  go_enter Try.func17, Try.ntmps17
  go_upto_region 4 with (first | ((with_reducible refine gate_dst (N := 4) rfl ?_); (try (refine gate_guard (by rfl) ?_; dsimp only)); refine box_event ?hg (N := 4) ?hd (cs := #[.int .i64 0, .int .i64 0]) (t := 24) ?hr ?_; (case hd => rfl); (case hg => rfl); (case hr => first | (go_simp; done) | (go_simp; rfl)); intro gb264 hg w7 hbox hb; have n0_ := Aside0.mk (below_step (belN HB.out) hb); have n1_ := Aside0.mk (hbox); have n2_ := Aside0.mk (szB hg HB.out); have n3_ := Aside0.mk (szB hg HB.out); clear HB; have HB := n0_; have BK264 := n1_; have GW264 := n2_; have GE264 := n3_; clear n0_ n1_ n2_ n3_; clear hb hbox hg) | ((with_reducible refine gate_callee (f := 21) rfl ?_); refine goesL_ (some 11) rfl rfl Try.func21 (by kernel_rfl) rfl #[.slice A0 l0.length c0] rfl argN ?_; (with_reducible refine (down_Right.calls k _ _ l0 true _ ?side1 ?side2 A3.out).mono ?_); (case side1 => repeat (first | exact (Kd.C_below HR0.out HB.out) | (with_reducible refine Kd.C_alloc ?_ _) | (with_reducible refine Kd.C_drewN ?_ _) | (with_reducible refine Kd.C_drew ?_))); (case side2 => exact HC0.out); rintro e w8 ⟨rfl, hb⟩; refine ⟨_, rfl, ?_⟩; have n0_ := Aside0.mk (bkB BK264.out hb); have n1_ := Aside0.mk (below_step (belS HB.out) hb); clear BK264; clear HB; have BK264 := n0_; have HB := n1_; clear n0_ n1_; (try clear hb)) | ((with_reducible refine gate_callee (f := 33) rfl ?_); refine goesL_ (some 16) rfl rfl Try.func33 (by kernel_rfl) rfl #[.slice A0 l0.length c0, .int .i64 a1] rfl argN ?_; (with_reducible refine (lerp_place.calls k _ _ l0 a1 t266 _ ?side1 ?side2 A5.out).mono ?_); (case side1 => repeat (first | exact (Kd.C_below HR0.out HB.out) | (with_reducible refine Kd.C_alloc ?_ _) | (with_reducible refine Kd.C_drewN ?_ _) | (with_reducible refine Kd.C_drew ?_))); (case side2 => exact HC0.out); rintro e w' ⟨rfl, ⟨nd, rfl⟩⟩; refine ⟨_, rfl, ?_⟩))
  (try simp only [Act.put, List.setIfInBounds_toArray, List.set_cons_zero, List.set_cons_succ])
  go_cut [17] (fun v17 wc => ∃ (kq : Nat) (x17_5 : Bool), v17 = .bool x17_5 ∧ Aside0 (lerp_At.j0 kq l0 a1 t266 x17_5 = some (r1, r2, r3, r4)) ∧ Aside0 (kq ≤ k) ∧ Aside0 (wc.heap[gb264]? = some (.cells #[.int .i64 0, .int .i64 0] 24 (0, 0))) ∧ Aside0 (Below w.heap.size w wc))
  case first =>
   have H := HC6.out
   clear HC6
   by_cases c9 : t266 < (l0.length : Int)
   ·rw [if_pos c9] at H
    have c9b0 : decide (t266 < (l0.length : Int)) = true := decide_eq_true c9
    clear c9
    (first | rw [c9b0] | rw [c9b1] | (simp only [i64_w, i32_w]; rw [c9b0]) | skip)
    by_cases c10 : 0 ≤ t266
    ·rw [if_pos c10] at H
     have c10b0 : decide (0 ≤ t266) = true := decide_eq_true c10
     clear c10
     have H' := Aside0.mk H
     clear H
     have p267 : 0 ≤ (t266 : Int) := of_decide_eq_true (by first | (with_reducible assumption) | assumption)
     have q267 : t266 < (l0.length : Int) := of_decide_eq_true (by first | (with_reducible assumption) | assumption)
     obtain ⟨ad267, e267, hx267_0, hx267_1, hx267_2⟩ := at_T26 HR0.out t266 p267 q267
     cases e267
     replace hx267_0 := cellB HB.out hx267_0
     replace hx267_1 := cellB HB.out hx267_1
     replace hx267_2 := cellB HB.out hx267_2
     replace p267 := eq_true p267
     replace q267 := eq_true q267
     go_wp2
     go_meet
     case rel => exact ⟨_, ((((rd_T26 l0 t266).f0) == a1)), (by first | rfl | (simp; done) | (simp [*]; done)), H', ⟨by first | omega | exact Nat.le_refl _⟩, ⟨blkN BK264.out⟩, ⟨(belS HB.out)⟩⟩
    ·rw [if_neg c10] at H
     exact absurd H (by simp)
   ·rw [if_neg c9] at H
    have c9b0 : decide (t266 < (l0.length : Int)) = false := decide_eq_false c9
    clear c9
    (first | rw [c9b0] | rw [c9b1] | (simp only [i64_w, i32_w]; rw [c9b0]) | skip)
    have H' := Aside0.mk H
    clear H
    go_wp2
    go_meet
    case rel => exact ⟨_, (false), (by first | rfl | (simp; done) | (simp [*]; done)), H', ⟨by first | omega | exact Nat.le_refl _⟩, ⟨blkN BK264.out⟩, ⟨(belS HB.out)⟩⟩
  case rest =>
   clear HC6
   try clear c1
   try clear c2
   try clear p2
   try clear q2
   try clear hx2
   try clear c3
   try clear c4
   try clear c9
   try clear c9b0
   try clear c10
   try clear c10b0
   try clear hx267_0
   try clear hx267_1
   try clear hx267_2
   try clear p267
   try clear q267
   obtain ⟨kq, x17_5, rfl, HA, HJ5, BK264, HB⟩ := hcut
   cases kq with
   | zero => exact absurd HA.out (by simp [lerp_At.j0])
   | succ kj5 =>
    have H := HA.out
    clear HA
    simp only [lerp_At.j0] at H
    by_cases c11 : x17_5 = true
    ·subst c11
     have H1 : (if 0 ≤ t266 then (if t266 < (l0.length : Int) then (some ((rd_T26 l0 t266).f1.f0, (rd_T26 l0 t266).f1.f1, true, 0)) else (none)) else (none)) = some (r1, r2, r3, r4) := by rw [if_pos rfl] at H; exact H
     clear H
     have H := H1
     clear H1
     by_cases c12 : 0 ≤ t266
     ·rw [if_pos c12] at H
      have c12b0 : decide (0 ≤ t266) = true := decide_eq_true c12
      clear c12
      by_cases c13 : t266 < (l0.length : Int)
      ·rw [if_pos c13] at H
       have c13b0 : decide (t266 < (l0.length : Int)) = true := decide_eq_true c13
       clear c13
       simp only [Option.some.injEq, Prod.mk.injEq] at H
       obtain ⟨rfl, rfl, rfl, rfl⟩ := H
       have p268 : 0 ≤ (t266 : Int) := of_decide_eq_true (by first | (with_reducible assumption) | assumption)
       have q268 : t266 < (l0.length : Int) := of_decide_eq_true (by first | (with_reducible assumption) | assumption)
       obtain ⟨ad268, e268, hx268_0, hx268_1, hx268_2⟩ := at_T26 HR0.out t266 p268 q268
       cases e268
       replace hx268_0 := cellB HB.out hx268_0
       replace hx268_1 := cellB HB.out hx268_1
       replace hx268_2 := cellB HB.out hx268_2
       replace p268 := eq_true p268
       replace q268 := eq_true q268
       have hcz14_0 : wc.cell? ⟨gb264, 0, none⟩ = some (.int .i64 0) := (blk_cell BK264.out 0).trans rfl
       have hcz14_1 : wc.cell? ⟨gb264, 1, none⟩ = some (.int .i64 0) := (blk_cell BK264.out 1).trans rfl
       have hfz14_0 := blk_frozen BK264.out 0
       have hfz14_1 := blk_frozen BK264.out 1
       go_wp2
       refine bodyPost_ret (results_ctt rfl _ _ gb264 24 #[.int .i64 ((rd_T26 l0 t266).f1.f0), .int .i64 ((rd_T26 l0 t266).f1.f1)] (0, 0) _ rfl (by (with_reducible repeat (first | refine blk_drewN ?_ _ | refine blk_drew ?_ | refine blk_alloc ?_ _)); refine blk_put (cs := #[.int .i64 ((rd_T26 l0 t266).f1.f0), .int .i64 0]) ?_ 1 _ rfl; (with_reducible repeat (first | refine blk_drewN ?_ _ | refine blk_drew ?_ | refine blk_alloc ?_ _)); refine blk_put (cs := #[.int .i64 0, .int .i64 0]) ?_ 0 _ rfl; (with_reducible repeat (first | refine blk_drewN ?_ _ | refine blk_drew ?_ | refine blk_alloc ?_ _)); exact BK264.out) Try.underlying24 rfl (by kernel_rfl)) rfl ?_
       exact ⟨by first | rfl | (simp [errW_none, errW_some] <;> rfl) | (simp [*, errW_none, errW_some] <;> rfl), (belS HB.out)⟩
      ·rw [if_neg c13] at H
       exact absurd H (by simp)
     ·rw [if_neg c12] at H
      exact absurd H (by simp)
    ·replace c11 := Bool.eq_false_iff.mpr c11
     subst c11
     have H1 : (if t266 = 0 then (some (0, 0, false, 0)) else (if t266 = (l0.length : Int) then (some (0, 0, false, 0)) else (if 0 ≤ (wrap64 (t266 - 1)) then (if (wrap64 (t266 - 1)) < (l0.length : Int) then (if 0 ≤ t266 then (if t266 < (l0.length : Int) then ((lerp_Between.f kj5 ((rd_T26 l0 (wrap64 (t266 - 1))).f0) ((rd_T26 l0 (wrap64 (t266 - 1))).f1.f0) ((rd_T26 l0 (wrap64 (t266 - 1))).f1.f1) ((rd_T26 l0 t266).f0) ((rd_T26 l0 t266).f1.f0) ((rd_T26 l0 t266).f1.f1) a1).bind fun bt271 => (some (bt271.1, bt271.2.1, (bt271.2.2 == 0), bt271.2.2))) else (none)) else (none)) else (none)) else (none)))) = some (r1, r2, r3, r4) := by rw [if_neg (show ¬ (false = true) by decide)] at H; exact H
     clear H
     have H := H1
     clear H1
     by_cases c15 : t266 = 0
     ·rw [if_pos c15] at H
      have c15b0 : (t266 == 0) = true := beq_iff_eq.mpr c15
      have c15b1 : (t266 != 0) = false := bne_eq_false_iff_eq.mpr c15
      clear c15
      simp only [Option.some.injEq, Prod.mk.injEq] at H
      obtain ⟨rfl, rfl, rfl, rfl⟩ := H
      have hcz16_0 : wc.cell? ⟨gb264, 0, none⟩ = some (.int .i64 0) := (blk_cell BK264.out 0).trans rfl
      have hcz16_1 : wc.cell? ⟨gb264, 1, none⟩ = some (.int .i64 0) := (blk_cell BK264.out 1).trans rfl
      have hfz16_0 := blk_frozen BK264.out 0
      have hfz16_1 := blk_frozen BK264.out 1
      go_wp2
      refine bodyPost_ret (results_ctt rfl _ _ gb264 24 #[.int .i64 0, .int .i64 0] (0, 0) _ rfl (by (with_reducible repeat (first | refine blk_drewN ?_ _ | refine blk_drew ?_ | refine blk_alloc ?_ _)); refine blk_put (cs := #[.int .i64 0, .int .i64 0]) ?_ 1 _ rfl; (with_reducible repeat (first | refine blk_drewN ?_ _ | refine blk_drew ?_ | refine blk_alloc ?_ _)); refine blk_put (cs := #[.int .i64 0, .int .i64 0]) ?_ 0 _ rfl; (with_reducible repeat (first | refine blk_drewN ?_ _ | refine blk_drew ?_ | refine blk_alloc ?_ _)); exact BK264.out) Try.underlying24 rfl (by kernel_rfl)) rfl ?_
      exact ⟨by first | rfl | (simp [errW_none, errW_some] <;> rfl) | (simp [*, errW_none, errW_some] <;> rfl), (belS HB.out)⟩
     ·rw [if_neg c15] at H
      have c15b0 : (t266 == 0) = false := beq_eq_false_iff_ne.mpr c15
      have c15b1 : (t266 != 0) = true := bne_iff_ne.mpr c15
      by_cases c17 : t266 = (l0.length : Int)
      ·rw [if_pos c17] at H
       have c17b0 : (t266 == (l0.length : Int)) = true := beq_iff_eq.mpr c17
       have c17b1 : (t266 != (l0.length : Int)) = false := bne_eq_false_iff_eq.mpr c17
       clear c17
       simp only [Option.some.injEq, Prod.mk.injEq] at H
       obtain ⟨rfl, rfl, rfl, rfl⟩ := H
       have hcz18_0 : wc.cell? ⟨gb264, 0, none⟩ = some (.int .i64 0) := (blk_cell BK264.out 0).trans rfl
       have hcz18_1 : wc.cell? ⟨gb264, 1, none⟩ = some (.int .i64 0) := (blk_cell BK264.out 1).trans rfl
       have hfz18_0 := blk_frozen BK264.out 0
       have hfz18_1 := blk_frozen BK264.out 1
       go_wp2
       refine bodyPost_ret (results_ctt rfl _ _ gb264 24 #[.int .i64 0, .int .i64 0] (0, 0) _ rfl (by (with_reducible repeat (first | refine blk_drewN ?_ _ | refine blk_drew ?_ | refine blk_alloc ?_ _)); refine blk_put (cs := #[.int .i64 0, .int .i64 0]) ?_ 1 _ rfl; (with_reducible repeat (first | refine blk_drewN ?_ _ | refine blk_drew ?_ | refine blk_alloc ?_ _)); refine blk_put (cs := #[.int .i64 0, .int .i64 0]) ?_ 0 _ rfl; (with_reducible repeat (first | refine blk_drewN ?_ _ | refine blk_drew ?_ | refine blk_alloc ?_ _)); exact BK264.out) Try.underlying24 rfl (by kernel_rfl)) rfl ?_
       exact ⟨by first | rfl | (simp [errW_none, errW_some] <;> rfl) | (simp [*, errW_none, errW_some] <;> rfl), (belS HB.out)⟩
      ·rw [if_neg c17] at H
       have c17b0 : (t266 == (l0.length : Int)) = false := beq_eq_false_iff_ne.mpr c17
       have c17b1 : (t266 != (l0.length : Int)) = true := bne_iff_ne.mpr c17
       obtain ⟨ji19, hji19⟩ : ∃ j_ : Int, (wrap64 (t266 - 1)) = j_ := ⟨_, rfl⟩
       replace H : (if 0 ≤ (ji19) then (if (ji19) < (l0.length : Int) then (if 0 ≤ t266 then (if t266 < (l0.length : Int) then ((lerp_Between.f kj5 ((rd_T26 l0 (ji19)).f0) ((rd_T26 l0 (ji19)).f1.f0) ((rd_T26 l0 (ji19)).f1.f1) ((rd_T26 l0 t266).f0) ((rd_T26 l0 t266).f1.f0) ((rd_T26 l0 t266).f1.f1) a1).bind fun bt271 => (some (bt271.1, bt271.2.1, (bt271.2.2 == 0), bt271.2.2))) else (none)) else (none)) else (none)) else (none)) = some (r1, r2, r3, r4) := by first | (rw [hji19] at H; exact H) | (simp only [hji19] at H ⊢; exact H)
       have hji19w : (IntKind.i64.wrap (t266 - 1)) = ji19 := (i64_w _).trans hji19
       by_cases c20 : 0 ≤ (ji19)
       ·rw [if_pos c20] at H
        have c20b0 : decide (0 ≤ (ji19)) = true := decide_eq_true c20
        clear c20
        by_cases c21 : (ji19) < (l0.length : Int)
        ·rw [if_pos c21] at H
         have c21b0 : decide ((ji19) < (l0.length : Int)) = true := decide_eq_true c21
         clear c21
         by_cases c22 : 0 ≤ t266
         ·rw [if_pos c22] at H
          have c22b0 : decide (0 ≤ t266) = true := decide_eq_true c22
          clear c22
          by_cases c23 : t266 < (l0.length : Int)
          ·rw [if_pos c23] at H
           have c23b0 : decide (t266 < (l0.length : Int)) = true := decide_eq_true c23
           clear c23
           replace H := Option.bind_eq_some_iff.mp H
           obtain ⟨⟨t271, t272, t273⟩, A240, H⟩ := H
           replace H : (some (t271, t272, (t273 == 0), t273)) = some (r1, r2, r3, r4) := H
           have A24 := Aside0.mk A240
           clear A240
           simp only [Option.some.injEq, Prod.mk.injEq] at H
           obtain ⟨rfl, rfl, rfl, rfl⟩ := H
           try go_wp2
           have n0_ := Aside0.mk (blk_drew BK264.out)
           have n1_ := Aside0.mk (below_drew1 HB.out)
           clear BK264
           clear HB
           have BK264 := n0_
           have HB := n1_
           clear n0_ n1_
           have p269 : 0 ≤ ((ji19) : Int) := of_decide_eq_true (by first | (with_reducible assumption) | assumption)
           have q269 : (ji19) < (l0.length : Int) := of_decide_eq_true (by first | (with_reducible assumption) | assumption)
           obtain ⟨ad269, e269, hx269_0, hx269_1, hx269_2⟩ := at_T26 HR0.out (ji19) p269 q269
           have hw269_2 := hx269_2
           have hw269_1 := hx269_1
           have hw269_0 := hx269_0
           cases e269
           replace hx269_0 := cellB HB.out hx269_0
           replace hx269_1 := cellB HB.out hx269_1
           replace hx269_2 := cellB HB.out hx269_2
           replace p269 := eq_true p269
           replace q269 := eq_true q269
           have p270 : 0 ≤ (t266 : Int) := of_decide_eq_true (by first | (with_reducible assumption) | assumption)
           have q270 : t266 < (l0.length : Int) := of_decide_eq_true (by first | (with_reducible assumption) | assumption)
           obtain ⟨ad270, e270, hx270_0, hx270_1, hx270_2⟩ := at_T26 HR0.out t266 p270 q270
           have hw270_2 := hx270_2
           have hw270_1 := hx270_1
           have hw270_0 := hx270_0
           obtain rfl : ad269 = ad270 := (by injection e270)
           replace hx270_0 := cellB HB.out hx270_0
           replace hx270_1 := cellB HB.out hx270_1
           replace hx270_2 := cellB HB.out hx270_2
           replace p270 := eq_true p270
           replace q270 := eq_true q270
           refine start_ (n := 17) (S := fun w' => w'.cell? (ad269.add (((ji19)).toNat * 3)) = some (.int .i64 ((rd_T26 l0 (ji19)).f0)) ∧ w'.cell? ⟨(ad269.add (((ji19)).toNat * 3)).block, (ad269.add (((ji19)).toNat * 3)).off + 1, none⟩ = some (.int .i64 ((rd_T26 l0 (ji19)).f1.f0)) ∧ w'.cell? ⟨(ad269.add (((ji19)).toNat * 3)).block, (ad269.add (((ji19)).toNat * 3)).off + 2, none⟩ = some (.int .i64 ((rd_T26 l0 (ji19)).f1.f1)) ∧ w'.cell? (ad269.add ((t266).toNat * 3)) = some (.int .i64 ((rd_T26 l0 t266).f0)) ∧ w'.cell? ⟨(ad269.add ((t266).toNat * 3)).block, (ad269.add ((t266).toNat * 3)).off + 1, none⟩ = some (.int .i64 ((rd_T26 l0 t266).f1.f0)) ∧ w'.cell? ⟨(ad269.add ((t266).toNat * 3)).block, (ad269.add ((t266).toNat * 3)).off + 2, none⟩ = some (.int .i64 ((rd_T26 l0 t266).f1.f1))) (ds := []) #[false, false, false, false, false, false, false, false, false, false, false, false, false, false, false, false, false] (by kernel_rfl) rfl rfl ⟨(cellB HB.out hw269_0), (cellB HB.out hw269_1), (cellB HB.out hw269_2), (cellB HB.out hw270_0), (cellB HB.out hw270_1), (cellB HB.out hw270_2)⟩ (fun hHeld => ?_); refine with_tabW lerp_At.tab8 lerp_At.bits8 (fun HT_ HW_ => ?_)
           generalize wc.drew = w25 at BK264 HB hx269_0 hx269_1 hx269_2 hx270_0 hx270_1 hx270_2 hHeld ⊢
           refine pA 0 (some 47) (bA 17 1) HT_.out ?_
           refine pA 1 (some 48) (bA 17 3) HT_.out ?_
           refine pA 2 (some 49) (bA 17 7) HT_.out ?_
           refine pA 3 (some 50) (bA 17 15) HT_.out ?_
           refine pA 5 (some 52) (bA 17 47) HT_.out ?_
           refine pA 6 (some 53) (bA 17 111) HT_.out ?_
           refine pA 7 (some 54) (bA 17 239) HT_.out ?_
           refine pA 9 (some 56) (bA 17 751) HT_.out ?_
           refine take_ (i := 4) (N := some 51) (v := ?_) (a' := ?_) (bA 17 767) rfl rfl (take_ofW HT_.out HW_.out (by kernel_rfl)) (fun _ _ _ h => h) (Or.inl ⟨by rfl, ?_⟩) hHeld ?_ ?_
           rotate_left
           ·rintro w' ⟨s0, s1, s2, s3, s4, s5⟩
            go_simp
            with_reducible rfl
           rotate_left
           ·simp only [Act.put, List.setIfInBounds_toArray, List.set_cons_zero, List.set_cons_succ, i64_w, i32_w]
            rfl
           refine take_ (i := 8) (N := some 55) (v := ?_) (a' := ?_) (bA 17 1023) rfl rfl (take_ofW HT_.out HW_.out (by kernel_rfl)) (fun _ _ _ h => h) (Or.inl ⟨by rfl, ?_⟩) hHeld ?_ ?_
           rotate_left
           ·rintro w' ⟨s0, s1, s2, s3, s4, s5⟩
            go_simp
            with_reducible rfl
           rotate_left
           ·simp only [Act.put, List.setIfInBounds_toArray, List.set_cons_zero, List.set_cons_succ, i64_w, i32_w]
            rfl
           refine join_ (σ := Nat) 2 (bA 17 32767) (fun s_ => [(57, .tuple #[.agg #[.int .i64 t271, .int .i64 t272], .int .i64 t273]), (8, .pointer (some ⟨s_, 0, none⟩)), (46, .tuple #[.agg #[.int .i64 t271, .int .i64 t272], .int .i64 t273]), (58, .agg #[.int .i64 t271, .int .i64 t272]), (59, .int .i64 t273)]) (fun s_ w' => (w'.cell? (ad269.add (((ji19)).toNat * 3)) = some (.int .i64 ((rd_T26 l0 (ji19)).f0)) ∧ w'.cell? ⟨(ad269.add (((ji19)).toNat * 3)).block, (ad269.add (((ji19)).toNat * 3)).off + 1, none⟩ = some (.int .i64 ((rd_T26 l0 (ji19)).f1.f0)) ∧ w'.cell? ⟨(ad269.add (((ji19)).toNat * 3)).block, (ad269.add (((ji19)).toNat * 3)).off + 2, none⟩ = some (.int .i64 ((rd_T26 l0 (ji19)).f1.f1)) ∧ w'.cell? (ad269.add ((t266).toNat * 3)) = some (.int .i64 ((rd_T26 l0 t266).f0)) ∧ w'.cell? ⟨(ad269.add ((t266).toNat * 3)).block, (ad269.add ((t266).toNat * 3)).off + 1, none⟩ = some (.int .i64 ((rd_T26 l0 t266).f1.f0)) ∧ w'.cell? ⟨(ad269.add ((t266).toNat * 3)).block, (ad269.add ((t266).toNat * 3)).off + 2, none⟩ = some (.int .i64 ((rd_T26 l0 t266).f1.f1))) ∧ (w'.heap[gb264]? = some (.cells #[.int .i64 0, .int .i64 0] 24 (0, 0))) ∧ (w'.heap[s_]? = some (.cells #[.int .i64 0, .int .i64 0] 24 (0, 0))) ∧ (w.heap.size ≤ s_) ∧ (w.heap.size ≤ s_) ∧ (gb264 ≠ s_) ∧ (s_ ≠ gb264) ∧ (Below w.heap.size w w')) ?_ ?_
           rotate_left
           ·intro hCont
            refine two_ (i := 10) (j := 14) (Ni := some 57) (Nj := some 8) (bA 17 2047) (bA 17 17407) rfl rfl rfl rfl (two_of HT_.out (by kernel_rfl)) (by decide) (by decide) (fun K hK => ?_) (fun K hK => ?_)
            ·skip
             refine goes_ Try.func15 (by kernel_rfl) rfl #[.agg #[.int .i64 ((rd_T26 l0 (ji19)).f0), .int .i64 ((rd_T26 l0 (ji19)).f1.f0), .int .i64 ((rd_T26 l0 (ji19)).f1.f1)], .agg #[.int .i64 ((rd_T26 l0 t266).f0), .int .i64 ((rd_T26 l0 t266).f1.f0), .int .i64 ((rd_T26 l0 t266).f1.f1)], .int .i64 a1] (by rfl) rfl rfl (by (try simp only [List.map_toArray, List.map_cons, List.map_nil]); first | done | (simp only [hji19]; rfl) | rfl | (simp only [List.length_drop, List.length_take]; rfl)) ?_
             with_reducible refine (lerp_Between.calls kj5 ((rd_T26 l0 (ji19)).f0) ((rd_T26 l0 (ji19)).f1.f0) ((rd_T26 l0 (ji19)).f1.f1) ((rd_T26 l0 t266).f0) ((rd_T26 l0 t266).f1.f0) ((rd_T26 l0 t266).f1.f1) a1 t271 t272 t273 _ A24.out).mono ?_
             rintro e w26 ⟨rfl, hb⟩
             refine ⟨_, rfl, ?_⟩
             have n0_ := Aside0.mk (bkB BK264.out hb)
             have n1_ := Aside0.mk (below_step (belS HB.out) hb)
             clear BK264
             clear HB
             have BK264 := n0_
             have HB := n1_
             clear n0_ n1_
             (try clear hb)
             refine hK.out _ _ ⟨(cellB HB.out hw269_0), (cellB HB.out hw269_1), (cellB HB.out hw269_2), (cellB HB.out hw270_0), (cellB HB.out hw270_1), (cellB HB.out hw270_2)⟩ (fun hHeld => ?_)
             clear hK K
             refine norm_ (a' := ?_) ?_ ?_
             rotate_left
             ·show Act.put _ (some 57) _ = _
              simp only [Act.put, List.setIfInBounds_toArray, List.set_cons_zero, List.set_cons_succ, i64_w, i32_w]
              rfl
             refine pA 11 (some 46) (bA 17 4095) HT_.out ?_
             refine pA 12 (some 58) (bA 17 8191) HT_.out ?_
             refine pA 13 (some 59) (bA 17 16383) HT_.out ?_
             refine one_ (i := 14) (N := some 8) (bA 17 32767) rfl rfl (one_of HT_.out (by kernel_rfl)) (by decide) (fun K hK => ?_)
             refine box_step ?hg (N := 8) ?hd (cs := #[.int .i64 0, .int .i64 0]) (t := 24) ?hr ?_; (case hd => rfl); (case hg => rfl); (case hr => first | (go_simp; done) | (go_simp; rfl))
             intro gb274 hg w27 hbox hb
             have n0_ := Aside0.mk (bkB BK264.out hb)
             have n1_ := Aside0.mk (below_step (belS HB.out) hb)
             have n2_ := Aside0.mk (hbox)
             have n3_ := Aside0.mk (szB hg HB.out)
             have n4_ := Aside0.mk (szB hg HB.out)
             have n5_ := Aside0.mk ((bk1 hg BK264.out))
             have n6_ := Aside0.mk ((bk2 hg BK264.out))
             clear BK264
             clear HB
             have BK264 := n0_
             have HB := n1_
             have BK274 := n2_
             have GW274 := n3_
             have GE274 := n4_
             have NB264_274 := n5_
             have NB274_264 := n6_
             clear n0_ n1_ n2_ n3_ n4_ n5_ n6_
             clear hb hbox hg
             refine hK.out _ _ ⟨(cellB HB.out hw269_0), (cellB HB.out hw269_1), (cellB HB.out hw269_2), (cellB HB.out hw270_0), (cellB HB.out hw270_1), (cellB HB.out hw270_2)⟩ (fun hHeld => ?_)
             clear hK K
             refine norm_ (a' := ?_) ?_ ?_
             rotate_left
             ·show Act.put _ (some 8) _ = _
              simp only [Act.put, List.setIfInBounds_toArray, List.set_cons_zero, List.set_cons_succ, i64_w, i32_w]
              rfl
             exact norm_ (by simp only [putAll, Act.put, List.setIfInBounds_toArray, List.set_cons_zero, List.set_cons_succ]) (hCont (gb274) _ ⟨hHeld, (blkN BK264.out), (blkN BK274.out), GW274.out, GE274.out, NB264_274.out, NB274_264.out, (belS HB.out)⟩)
            ·skip
             refine box_step ?hg (N := 8) ?hd (cs := #[.int .i64 0, .int .i64 0]) (t := 24) ?hr ?_; (case hd => rfl); (case hg => rfl); (case hr => first | (go_simp; done) | (go_simp; rfl))
             intro gb274 hg w26 hbox hb
             have n0_ := Aside0.mk (bkB BK264.out hb)
             have n1_ := Aside0.mk (below_step (belS HB.out) hb)
             have n2_ := Aside0.mk (hbox)
             have n3_ := Aside0.mk (szB hg HB.out)
             have n4_ := Aside0.mk (szB hg HB.out)
             have n5_ := Aside0.mk ((bk1 hg BK264.out))
             have n6_ := Aside0.mk ((bk2 hg BK264.out))
             clear BK264
             clear HB
             have BK264 := n0_
             have HB := n1_
             have BK274 := n2_
             have GW274 := n3_
             have GE274 := n4_
             have NB264_274 := n5_
             have NB274_264 := n6_
             clear n0_ n1_ n2_ n3_ n4_ n5_ n6_
             clear hb hbox hg
             refine hK.out _ _ ⟨(cellB HB.out hw269_0), (cellB HB.out hw269_1), (cellB HB.out hw269_2), (cellB HB.out hw270_0), (cellB HB.out hw270_1), (cellB HB.out hw270_2)⟩ (fun hHeld => ?_)
             clear hK K
             refine norm_ (a' := ?_) ?_ ?_
             rotate_left
             ·show Act.put _ (some 8) _ = _
              simp only [Act.put, List.setIfInBounds_toArray, List.set_cons_zero, List.set_cons_succ, i64_w, i32_w]
              rfl
             refine one_ (i := 10) (N := some 57) (bA 17 18431) rfl rfl (one_of HT_.out (by kernel_rfl)) (by decide) (fun K hK => ?_)
             refine goes_ Try.func15 (by kernel_rfl) rfl #[.agg #[.int .i64 ((rd_T26 l0 (ji19)).f0), .int .i64 ((rd_T26 l0 (ji19)).f1.f0), .int .i64 ((rd_T26 l0 (ji19)).f1.f1)], .agg #[.int .i64 ((rd_T26 l0 t266).f0), .int .i64 ((rd_T26 l0 t266).f1.f0), .int .i64 ((rd_T26 l0 t266).f1.f1)], .int .i64 a1] (by rfl) rfl rfl (by (try simp only [List.map_toArray, List.map_cons, List.map_nil]); first | done | (simp only [hji19]; rfl) | rfl | (simp only [List.length_drop, List.length_take]; rfl)) ?_
             with_reducible refine (lerp_Between.calls kj5 ((rd_T26 l0 (ji19)).f0) ((rd_T26 l0 (ji19)).f1.f0) ((rd_T26 l0 (ji19)).f1.f1) ((rd_T26 l0 t266).f0) ((rd_T26 l0 t266).f1.f0) ((rd_T26 l0 t266).f1.f1) a1 t271 t272 t273 _ A24.out).mono ?_
             rintro e w27 ⟨rfl, hb⟩
             refine ⟨_, rfl, ?_⟩
             have n0_ := Aside0.mk (bkB BK264.out hb)
             have n1_ := Aside0.mk (bkB BK274.out hb)
             have n2_ := Aside0.mk (below_step (belS HB.out) hb)
             clear BK264
             clear BK274
             clear HB
             have BK264 := n0_
             have BK274 := n1_
             have HB := n2_
             clear n0_ n1_ n2_
             (try clear hb)
             refine hK.out _ _ ⟨(cellB HB.out hw269_0), (cellB HB.out hw269_1), (cellB HB.out hw269_2), (cellB HB.out hw270_0), (cellB HB.out hw270_1), (cellB HB.out hw270_2)⟩ (fun hHeld => ?_)
             clear hK K
             refine norm_ (a' := ?_) ?_ ?_
             rotate_left
             ·show Act.put _ (some 57) _ = _
              simp only [Act.put, List.setIfInBounds_toArray, List.set_cons_zero, List.set_cons_succ, i64_w, i32_w]
              rfl
             refine pA 11 (some 46) (bA 17 20479) HT_.out ?_
             refine pA 12 (some 58) (bA 17 24575) HT_.out ?_
             refine pA 13 (some 59) (bA 17 32767) HT_.out ?_
             exact norm_ (by simp only [putAll, Act.put, List.setIfInBounds_toArray, List.set_cons_zero, List.set_cons_succ]) (hCont (gb274) _ ⟨hHeld, (blkN BK264.out), (blkN BK274.out), GW274.out, GE274.out, NB264_274.out, NB274_264.out, (belS HB.out)⟩)
           rintro gb274 w28 ⟨hS_, h0_, h1_, h2_, h3_, h4_, h5_, h6_⟩
           have n0_ : Aside0 (w28.heap[gb264]? = some (.cells #[.int .i64 0, .int .i64 0] 24 (0, 0))) := ⟨h0_⟩
           have n1_ : Aside0 (w28.heap[gb274]? = some (.cells #[.int .i64 0, .int .i64 0] 24 (0, 0))) := ⟨h1_⟩
           have n2_ : Aside0 (w.heap.size ≤ gb274) := ⟨h2_⟩
           have n3_ : Aside0 (w.heap.size ≤ gb274) := ⟨h3_⟩
           have n4_ : Aside0 (gb264 ≠ gb274) := ⟨h4_⟩
           have n5_ : Aside0 (gb274 ≠ gb264) := ⟨h5_⟩
           have n6_ : Aside0 (Below w.heap.size w w28) := ⟨h6_⟩
           clear BK264
           clear HB
           clear h0_ h1_ h2_ h3_ h4_ h5_ h6_
           have BK264 := n0_
           have BK274 := n1_
           have GW274 := n2_
           have GE274 := n3_
           have NB264_274 := n4_
           have NB274_264 := n5_
           have HB := n6_
           clear n0_ n1_ n2_ n3_ n4_ n5_ n6_
           have hHeld : w28.cell? (ad269.add (((ji19)).toNat * 3)) = some (.int .i64 ((rd_T26 l0 (ji19)).f0)) ∧ w28.cell? ⟨(ad269.add (((ji19)).toNat * 3)).block, (ad269.add (((ji19)).toNat * 3)).off + 1, none⟩ = some (.int .i64 ((rd_T26 l0 (ji19)).f1.f0)) ∧ w28.cell? ⟨(ad269.add (((ji19)).toNat * 3)).block, (ad269.add (((ji19)).toNat * 3)).off + 2, none⟩ = some (.int .i64 ((rd_T26 l0 (ji19)).f1.f1)) ∧ w28.cell? (ad269.add ((t266).toNat * 3)) = some (.int .i64 ((rd_T26 l0 t266).f0)) ∧ w28.cell? ⟨(ad269.add ((t266).toNat * 3)).block, (ad269.add ((t266).toNat * 3)).off + 1, none⟩ = some (.int .i64 ((rd_T26 l0 t266).f1.f0)) ∧ w28.cell? ⟨(ad269.add ((t266).toNat * 3)).block, (ad269.add ((t266).toNat * 3)).off + 2, none⟩ = some (.int .i64 ((rd_T26 l0 t266).f1.f1)) := hS_
           refine norm_ (a' := ?_) ?_ ?_
           rotate_left
           ·simp only [putAll, Act.put, List.setIfInBounds_toArray, List.set_cons_zero, List.set_cons_succ]
            rfl
           refine one_ (i := 15) (N := none) (bA 17 65535) rfl rfl (one_of HT_.out (by kernel_rfl)) (by decide) (fun K hK => ?_)
           have hs29 : w28.cell? ⟨gb274, 0, none⟩ = some (.int .i64 0) := (blk_cell BK274.out 0).trans rfl
           have hfs29 := blk_frozen BK274.out 0
           have hns29_0 := NB264_274.out
           have hms29_0 := NB274_264.out
           have hs30 : w28.cell? ⟨gb274, 1, none⟩ = some (.int .i64 0) := (blk_cell BK274.out 1).trans rfl
           have hfs30 := blk_frozen BK274.out 1
           have hns30_0 := NB264_274.out
           have hms30_0 := NB274_264.out
           refine skip_ (w1 := ?_) (by rfl) rfl ?_ ?_
           rotate_left
           ·go_simp
            rfl
           refine hK.out _ _ ⟨((cell_far (p := ⟨gb274, _, none⟩) (by first | exact cellNe hw269_0 GW274.out | (rw [add_block]; exact cellNe hw269_0 GW274.out) | (show (Addr.add _ _).block ≠ _; rw [add_block]; exact cellNe hw269_0 GW274.out) | (dsimp only; exact cellNe hw269_0 GW274.out)) _).trans (((cell_far (p := ⟨gb274, _, none⟩) (by first | exact cellNe hw269_0 GW274.out | (rw [add_block]; exact cellNe hw269_0 GW274.out) | (show (Addr.add _ _).block ≠ _; rw [add_block]; exact cellNe hw269_0 GW274.out) | (dsimp only; exact cellNe hw269_0 GW274.out)) _).trans (hHeld.1)))), ((cell_far (p := ⟨gb274, _, none⟩) (by first | exact cellNe hw269_1 GW274.out | (rw [add_block]; exact cellNe hw269_1 GW274.out) | (show (Addr.add _ _).block ≠ _; rw [add_block]; exact cellNe hw269_1 GW274.out) | (dsimp only; exact cellNe hw269_1 GW274.out)) _).trans (((cell_far (p := ⟨gb274, _, none⟩) (by first | exact cellNe hw269_1 GW274.out | (rw [add_block]; exact cellNe hw269_1 GW274.out) | (show (Addr.add _ _).block ≠ _; rw [add_block]; exact cellNe hw269_1 GW274.out) | (dsimp only; exact cellNe hw269_1 GW274.out)) _).trans (hHeld.2.1)))), ((cell_far (p := ⟨gb274, _, none⟩) (by first | exact cellNe hw269_2 GW274.out | (rw [add_block]; exact cellNe hw269_2 GW274.out) | (show (Addr.add _ _).block ≠ _; rw [add_block]; exact cellNe hw269_2 GW274.out) | (dsimp only; exact cellNe hw269_2 GW274.out)) _).trans (((cell_far (p := ⟨gb274, _, none⟩) (by first | exact cellNe hw269_2 GW274.out | (rw [add_block]; exact cellNe hw269_2 GW274.out) | (show (Addr.add _ _).block ≠ _; rw [add_block]; exact cellNe hw269_2 GW274.out) | (dsimp only; exact cellNe hw269_2 GW274.out)) _).trans (hHeld.2.2.1)))), ((cell_far (p := ⟨gb274, _, none⟩) (by first | exact cellNe hw270_0 GW274.out | (rw [add_block]; exact cellNe hw270_0 GW274.out) | (show (Addr.add _ _).block ≠ _; rw [add_block]; exact cellNe hw270_0 GW274.out) | (dsimp only; exact cellNe hw270_0 GW274.out)) _).trans (((cell_far (p := ⟨gb274, _, none⟩) (by first | exact cellNe hw270_0 GW274.out | (rw [add_block]; exact cellNe hw270_0 GW274.out) | (show (Addr.add _ _).block ≠ _; rw [add_block]; exact cellNe hw270_0 GW274.out) | (dsimp only; exact cellNe hw270_0 GW274.out)) _).trans (hHeld.2.2.2.1)))), ((cell_far (p := ⟨gb274, _, none⟩) (by first | exact cellNe hw270_1 GW274.out | (rw [add_block]; exact cellNe hw270_1 GW274.out) | (show (Addr.add _ _).block ≠ _; rw [add_block]; exact cellNe hw270_1 GW274.out) | (dsimp only; exact cellNe hw270_1 GW274.out)) _).trans (((cell_far (p := ⟨gb274, _, none⟩) (by first | exact cellNe hw270_1 GW274.out | (rw [add_block]; exact cellNe hw270_1 GW274.out) | (show (Addr.add _ _).block ≠ _; rw [add_block]; exact cellNe hw270_1 GW274.out) | (dsimp only; exact cellNe hw270_1 GW274.out)) _).trans (hHeld.2.2.2.2.1)))), ((cell_far (p := ⟨gb274, _, none⟩) (by first | exact cellNe hw270_2 GW274.out | (rw [add_block]; exact cellNe hw270_2 GW274.out) | (show (Addr.add _ _).block ≠ _; rw [add_block]; exact cellNe hw270_2 GW274.out) | (dsimp only; exact cellNe hw270_2 GW274.out)) _).trans (((cell_far (p := ⟨gb274, _, none⟩) (by first | exact cellNe hw270_2 GW274.out | (rw [add_block]; exact cellNe hw270_2 GW274.out) | (show (Addr.add _ _).block ≠ _; rw [add_block]; exact cellNe hw270_2 GW274.out) | (dsimp only; exact cellNe hw270_2 GW274.out)) _).trans (hHeld.2.2.2.2.2))))⟩ (fun hHeld => ?_)
           clear hK K
           refine pA 16 (some 9) (bA 17 131071) HT_.out ?_
           refine done_ (done_of HT_.out (by kernel_rfl)) ?_
           have hnb31 := NB274_264.out
           have hnc31 := NB264_274.out
           have hcz32_0 : w28.cell? ⟨gb274, 0, none⟩ = some (.int .i64 0) := (blk_cell BK274.out 0).trans rfl
           have hcz32_1 : w28.cell? ⟨gb274, 1, none⟩ = some (.int .i64 0) := (blk_cell BK274.out 1).trans rfl
           have hfz32_0 := blk_frozen BK274.out 0
           have hfz32_1 := blk_frozen BK274.out 1
           have hcz33_0 : w28.cell? ⟨gb264, 0, none⟩ = some (.int .i64 0) := (blk_cell BK264.out 0).trans rfl
           have hcz33_1 : w28.cell? ⟨gb264, 1, none⟩ = some (.int .i64 0) := (blk_cell BK264.out 1).trans rfl
           have hfz33_0 := blk_frozen BK264.out 0
           have hfz33_1 := blk_frozen BK264.out 1
           try go_wp2
           refine bodyPost_ret (results_ctt rfl _ _ gb264 24 #[.int .i64 t271, .int .i64 t272] (0, 0) _ rfl (by (with_reducible repeat (first | refine blk_drewN ?_ _ | refine blk_drew ?_ | refine blk_alloc ?_ _)); refine blk_put (cs := #[.int .i64 t271, .int .i64 0]) ?_ 1 _ rfl; (with_reducible repeat (first | refine blk_drewN ?_ _ | refine blk_drew ?_ | refine blk_alloc ?_ _)); refine blk_put (cs := #[.int .i64 0, .int .i64 0]) ?_ 0 _ rfl; (with_reducible repeat (first | refine blk_drewN ?_ _ | refine blk_drew ?_ | refine blk_alloc ?_ _)); refine blk_far ?_ NB264_274.out _; (with_reducible repeat (first | refine blk_drewN ?_ _ | refine blk_drew ?_ | refine blk_alloc ?_ _)); refine blk_far ?_ NB264_274.out _; (with_reducible repeat (first | refine blk_drewN ?_ _ | refine blk_drew ?_ | refine blk_alloc ?_ _)); exact BK264.out) Try.underlying24 rfl (by kernel_rfl)) rfl ?_
           exact ⟨by first | rfl | (simp [errW_none, errW_some] <;> rfl) | (simp only [← hji19]; first | rfl | (simp [errW_none, errW_some] <;> rfl)) | (simp [*, errW_none, errW_some] <;> rfl), (belS HB.out)⟩
          ·rw [if_neg c23] at H
           exact absurd H (by simp)
         ·rw [if_neg c22] at H
          exact absurd H (by simp)
        ·rw [if_neg c21] at H
         exact absurd H (by simp)
       ·rw [if_neg c20] at H
        exact absurd H (by simp)
 ·replace c4 := Bool.eq_false_iff.mpr c4
  subst c4
  have H1 : (some (0, 0, false, 1)) = some (r1, r2, r3, r4) := by rw [if_neg (show ¬ (false = true) by decide)] at H; exact H
  clear H
  have H := H1
  clear H1
  simp only [Option.some.injEq, Prod.mk.injEq] at H
  obtain ⟨rfl, rfl, rfl, rfl⟩ := H
  go_enter Try.func17, Try.ntmps17
  go_wp2_with (first | ((with_reducible refine gate_dst (N := 4) rfl ?_); (try (refine gate_guard (by rfl) ?_; dsimp only)); refine box_event ?hg (N := 4) ?hd (cs := #[.int .i64 0, .int .i64 0]) (t := 24) ?hr ?_; (case hd => rfl); (case hg => rfl); (case hr => first | (go_simp; done) | (go_simp; rfl)); intro gb264 hg w34 hbox hb; have n0_ := Aside0.mk (below_step (belN HB.out) hb); have n1_ := Aside0.mk (hbox); have n2_ := Aside0.mk (szB hg HB.out); have n3_ := Aside0.mk (szB hg HB.out); clear HB; have HB := n0_; have BK264 := n1_; have GW264 := n2_; have GE264 := n3_; clear n0_ n1_ n2_ n3_; clear hb hbox hg) | ((with_reducible refine gate_callee (f := 21) rfl ?_); refine goesL_ (some 11) rfl rfl Try.func21 (by kernel_rfl) rfl #[.slice A0 l0.length c0] rfl argN ?_; (with_reducible refine (down_Right.calls k _ _ l0 false _ ?side1 ?side2 A3.out).mono ?_); (case side1 => repeat (first | exact (Kd.C_below HR0.out HB.out) | (with_reducible refine Kd.C_alloc ?_ _) | (with_reducible refine Kd.C_drewN ?_ _) | (with_reducible refine Kd.C_drew ?_))); (case side2 => exact HC0.out); rintro e w35 ⟨rfl, hb⟩; refine ⟨_, rfl, ?_⟩; have n0_ := Aside0.mk (bkB BK264.out hb); have n1_ := Aside0.mk (below_step (belS HB.out) hb); clear BK264; clear HB; have BK264 := n0_; have HB := n1_; clear n0_ n1_; (try clear hb); have hcz36_0 : w35.cell? ⟨gb264, 0, none⟩ = some (.int .i64 0) := (blk_cell BK264.out 0).trans rfl; have hcz36_1 : w35.cell? ⟨gb264, 1, none⟩ = some (.int .i64 0) := (blk_cell BK264.out 1).trans rfl; have hfz36_0 := blk_frozen BK264.out 0; have hfz36_1 := blk_frozen BK264.out 1))
  refine bodyPost_ret (results_ctt rfl _ _ gb264 24 #[.int .i64 0, .int .i64 0] (0, 0) _ rfl (by (with_reducible repeat (first | refine blk_drewN ?_ _ | refine blk_drew ?_ | refine blk_alloc ?_ _)); refine blk_put (cs := #[.int .i64 0, .int .i64 0]) ?_ 1 _ rfl; (with_reducible repeat (first | refine blk_drewN ?_ _ | refine blk_drew ?_ | refine blk_alloc ?_ _)); refine blk_put (cs := #[.int .i64 0, .int .i64 0]) ?_ 0 _ rfl; (with_reducible repeat (first | refine blk_drewN ?_ _ | refine blk_drew ?_ | refine blk_alloc ?_ _)); exact BK264.out) Try.underlying24 rfl (by kernel_rfl)) rfl ?_
  exact ⟨by first | rfl | (simp [errW_none, errW_some] <;> rfl) | (simp [*, errW_none, errW_some] <;> rfl), (belS HB.out)⟩

end Go.Proofs.Ytlmcnlaopolinaa.PLerpTells

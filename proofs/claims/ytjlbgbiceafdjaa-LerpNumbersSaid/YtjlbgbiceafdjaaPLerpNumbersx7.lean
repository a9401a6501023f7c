/- The walk of the Go functions that a law reaches, told as plain functions; a program of this session has written it. No condition beyond the statement's own. -/
import Derived.Test.YtjlbgbiceafdjaaPLerpNumbersx0
import Derived.Test.YtjlbgbiceafdjaaPLerpNumbersx2
import Derived.Test.YtjlbgbiceafdjaaPLerpNumbersx5
import Derived.Test.YtjlbgbiceafdjaaPLerpNumbersx6
namespace Go.Proofs.Ytjlbgbiceafdjaa.PLerpNumbers
open Go.RowKit Go.Proofs.YtjlbgbiceafdjaaW.PrintWords Go.Proofs.YtjlbgbiceafdjaaW.PrintLast Go.Proofs.YtjlbgbiceafdjaaW.PrintMore
attribute [local go_sem] max2_int min2_int max_two min_two max_three min_three max_four min_four   -- for this text's walks alone
set_option linter.unusedVariables false
set_option linter.unusedSimpArgs false

/-! ### lerp_At: function 32 -/
def lerp_At.j0 : Nat → List (S41) → Int → Int → Bool → Option (Int × Int × Bool × Int)
 | 0, _, _, _, _ => none
 | k + 1, x0, x1, x7, x17 => if x17 = true then (if 0 ≤ x7 then (if x7 < (x0.length : Int) then (some ((rd_T41 x0 x7).f1.f0, (rd_T41 x0 x7).f1.f1, true, 0)) else (none)) else (none)) else (if x7 = 0 then (some (0, 0, false, 0)) else (if x7 = (x0.length : Int) then (some (0, 0, false, 0)) else (if 0 ≤ (wrap64 (x7 - 1)) then (if (wrap64 (x7 - 1)) < (x0.length : Int) then (if 0 ≤ x7 then (if x7 < (x0.length : Int) then ((lerp_Between.f k ((rd_T41 x0 (wrap64 (x7 - 1))).f0) ((rd_T41 x0 (wrap64 (x7 - 1))).f1.f0) ((rd_T41 x0 (wrap64 (x7 - 1))).f1.f1) ((rd_T41 x0 x7).f0) ((rd_T41 x0 x7).f1.f0) ((rd_T41 x0 x7).f1.f1) x1).bind fun bt217 => (some (bt217.1, bt217.2.1, (bt217.2.2 == 0), bt217.2.2))) else (none)) else (none)) else (none)) else (none))))
def lerp_At.f (k : Nat) (l0 : List (S41)) (a1 : Int) : Option (Int × Int × Bool × Int) := (down_Right.f k l0).bind fun t211 => (if t211 = true then ((lerp_place.f k l0 a1).bind fun t212 => (if t212 < (l0.length : Int) then (if 0 ≤ t212 then (lerp_At.j0 k l0 a1 t212 (((rd_T41 l0 t212).f0) == a1)) else (none)) else (lerp_At.j0 k l0 a1 t212 false))) else (some (0, 0, false, 1)))
theorem lerp_At.mono_l : ∀ k, (∀ y0 y1 y2 y3, LeO (lerp_At.j0 k y0 y1 y2 y3) (lerp_At.j0 (k + 1) y0 y1 y2 y3))
 | 0 => fun _ _ _ _ r h => by simp [lerp_At.j0] at h
 | k + 1 => by
  have ih0 := lerp_At.mono_l k
  ·intro y0 y1 y2 y3
   unfold lerp_At.j0
   repeat' first
   | (with_reducible exact ih0 _ _ _ _)
   | (with_reducible exact down_Right.mono _ _)
   | (with_reducible exact lerp_Between.mono _ _ _ _ _ _ _ _)
   | (with_reducible exact lerp_place.mono _ _ _)
   | (with_reducible exact LeO.refl _)
   | (with_reducible exact LeO.none _)
   | (with_reducible refine LeO.ite ?_ ?_)
   | (with_reducible refine LeO.bind ?_ (fun _ => ?_))
   | exact ih0 _ _ _ _
   | exact down_Right.mono _ _
   | exact lerp_Between.mono _ _ _ _ _ _ _ _
   | exact lerp_place.mono _ _ _
   | exact LeO.none _
   | refine LeO.ite ?_ ?_
   | refine LeO.bind ?_ (fun _ => ?_)
theorem lerp_At.mono : ∀ a0 a1 k, LeO (lerp_At.f k a0 a1) (lerp_At.f (k + 1) a0 a1) := by
 intro a0 a1 k
 have ih0 := lerp_At.mono_l k
 unfold lerp_At.f
 repeat' first
   | (with_reducible exact ih0 _ _ _ _)
   | (with_reducible exact down_Right.mono _ _)
   | (with_reducible exact lerp_Between.mono _ _ _ _ _ _ _ _)
   | (with_reducible exact lerp_place.mono _ _ _)
   | (with_reducible exact LeO.refl _)
   | (with_reducible exact LeO.none _)
   | (with_reducible refine LeO.ite ?_ ?_)
   | (with_reducible refine LeO.bind ?_ (fun _ => ?_))
   | exact ih0 _ _ _ _
   | exact down_Right.mono _ _
   | exact lerp_Between.mono _ _ _ _ _ _ _ _
   | exact lerp_place.mono _ _ _
   | exact LeO.none _
   | refine LeO.ite ?_ ?_
   | refine LeO.bind ?_ (fun _ => ?_)
def lerp_At.T8 : Bool × List (List Nat × List Nat) := (true, [([], []), ([], []), ([1], [1]), ([0, 2], [0, 2]), ([3], [3]), ([], []), ([], []), ([5, 6], [5, 6]), ([7], [7]), ([], []), ([4, 8, 9], [4, 8, 9]), ([10], [10]), ([11], [11]), ([11], [11]), ([], []), ([14, 12, 10, 0, 1, 2, 3, 4, 5, 6, 7, 8, 9, 10, 11, 12, 14], [12, 14]), ([13, 15, 0, 1, 2, 3, 4, 5, 6, 7, 8, 9, 10, 11, 12, 13, 14, 15], [13])])
def lerp_At.B8 : List Nat := [0, 0, 2, 7, 15, 0, 0, 96, 224, 0, 1023, 2047, 4095, 4095, 0, 24575, 65535]
theorem lerp_At.tab8 : rtab .any (opsOf Try.f32 8) = lerp_At.T8 := by kernel_rfl
theorem lerp_At.bits8 : waitsOk lerp_At.T8.2 lerp_At.B8 = true := by kernel_rfl
set_option maxHeartbeats 8000000 in
set_option maxRecDepth 100000 in
theorem lerp_At.calls (k : Nat) (A0 : Option Addr) (c0 : Nat) (l0 : List (S41)) (a1 : Int) (r1 : Int) (r2 : Int) (r3 : Bool) (r4 : Int) (w : World) (hr0 : Kd.C k41 w A0 l0.length l0) (hc0 : l0.length ≤ c0) (h : lerp_At.f k l0 a1 = some (r1, r2, r3, r4)) :
  Calls Try.prog 32 #[.slice A0 l0.length c0, .int .i64 a1] w fun e w' => e = .returned (.tuple #[.agg #[.int .i64 r1, .int .i64 r2], .bool r3, .int .i64 r4]) ∧ Below w.heap.size w w' := by
 have hu39 := Try.underlying39
 have hu41 := Try.underlying41
 have HR0 := Aside0.mk hr0
 have HC0 := Aside0.mk hc0
 clear hr0 hc0
 have HB := Aside0.mk (Below.refl w.heap.size w)
 have H : ((down_Right.f k l0).bind fun t211 => (if t211 = true then ((lerp_place.f k l0 a1).bind fun t212 => (if t212 < (l0.length : Int) then (if 0 ≤ t212 then (lerp_At.j0 k l0 a1 t212 (((rd_T41 l0 t212).f0) == a1)) else (none)) else (lerp_At.j0 k l0 a1 t212 false))) else (some (0, 0, false, 1)))) = some (r1, r2, r3, r4) := h
 clear h
 replace H := Option.bind_eq_some_iff.mp H
 obtain ⟨t211, A30, H⟩ := H
 replace H : (if t211 = true then ((lerp_place.f k l0 a1).bind fun t212 => (if t212 < (l0.length : Int) then (if 0 ≤ t212 then (lerp_At.j0 k l0 a1 t212 (((rd_T41 l0 t212).f0) == a1)) else (none)) else (lerp_At.j0 k l0 a1 t212 false))) else (some (0, 0, false, 1))) = some (r1, r2, r3, r4) := H
 have A3 := Aside0.mk A30
 clear A30
 by_cases c4 : t211 = true
 ·subst c4
  have H1 : ((lerp_place.f k l0 a1).bind fun t212 => (if t212 < (l0.length : Int) then (if 0 ≤ t212 then (lerp_At.j0 k l0 a1 t212 (((rd_T41 l0 t212).f0) == a1)) else (none)) else (lerp_At.j0 k l0 a1 t212 false))) = some (r1, r2, r3, r4) := by rw [if_pos rfl] at H; exact H
  clear H
  have H := H1
  clear H1
  replace H := Option.bind_eq_some_iff.mp H
  obtain ⟨t212, A50, H⟩ := H
  replace H : (if t212 < (l0.length : Int) then (if 0 ≤ t212 then (lerp_At.j0 k l0 a1 t212 (((rd_T41 l0 t212).f0) == a1)) else (none)) else (lerp_At.j0 k l0 a1 t212 false)) = some (r1, r2, r3, r4) := H
  have A5 := Aside0.mk A50
  clear A50
  have HC6 := Aside0.mk H
  clear H
  go_enter Try.func32, Try.ntmps32
  go_upto_region 4 with (first | ((with_reducible refine gate_dst (N := 4) rfl ?_); (try (refine gate_guard (by rfl) ?_; dsimp only)); refine box_event ?hg (N := 4) ?hd (cs := #[.int .i64 0, .int .i64 0]) (t := 39) ?hr ?_; (case hd => rfl); (case hg => rfl); (case hr => first | (go_simp; done) | (go_simp; rfl)); intro gb210 hg w7 hbox hb; have n0_ := Aside0.mk (below_step (belN HB.out) hb); have n1_ := Aside0.mk (hbox); have n2_ := Aside0.mk (szB hg HB.out); have n3_ := Aside0.mk (szB hg HB.out); clear HB; have HB := n0_; have BK210 := n1_; have GW210 := n2_; have GE210 := n3_; clear n0_ n1_ n2_ n3_; clear hb hbox hg) | ((with_reducible refine gate_callee (f := 41) rfl ?_); refine goesL_ (some 11) rfl rfl Try.func41 (by kernel_rfl) rfl #[.slice A0 l0.length c0] rfl argN ?_; (with_reducible refine (down_Right.calls k _ _ l0 true _ ?side1 ?side2 A3.out).mono ?_); (case side1 => repeat (first | exact (Kd.C_below HR0.out HB.out) | (with_reducible refine Kd.C_alloc ?_ _) | (with_reducible refine Kd.C_drewN ?_ _) | (with_reducible refine Kd.C_drew ?_))); (case side2 => exact HC0.out); rintro e w8 ⟨rfl, hb⟩; refine ⟨_, rfl, ?_⟩; have n0_ := Aside0.mk (bkB BK210.out hb); have n1_ := Aside0.mk (below_step (belS HB.out) hb); clear BK210; clear HB; have BK210 := n0_; have HB := n1_; clear n0_ n1_; (try clear hb)) | ((with_reducible refine gate_callee (f := 42) rfl ?_); refine goesL_ (some 16) rfl rfl Try.func42 (by kernel_rfl) rfl #[.slice A0 l0.length c0, .int .i64 a1] rfl argN ?_; (with_reducible refine (lerp_place.calls k _ _ l0 a1 t212 _ ?side1 ?side2 A5.out).mono ?_); (case side1 => repeat (first | exact (Kd.C_below HR0.out HB.out) | (with_reducible refine Kd.C_alloc ?_ _) | (with_reducible refine Kd.C_drewN ?_ _) | (with_reducible refine Kd.C_drew ?_))); (case side2 => exact HC0.out); rintro e w' ⟨rfl, ⟨nd, rfl⟩⟩; refine ⟨_, rfl, ?_⟩))
  (try simp only [Act.put, List.setIfInBounds_toArray, List.set_cons_zero, List.set_cons_succ])
  go_cut [17] (fun v17 wc => ∃ (kq : Nat) (x17_5 : Bool), v17 = .bool x17_5 ∧ Aside0 (lerp_At.j0 kq l0 a1 t212 x17_5 = some (r1, r2, r3, r4)) ∧ Aside0 (kq ≤ k) ∧ Aside0 (wc.heap[gb210]? = some (.cells #[.int .i64 0, .int .i64 0] 39 (0, 0))) ∧ Aside0 (Below w.heap.size w wc))
  case first =>
   have H := HC6.out
   clear HC6
   by_cases c9 : t212 < (l0.length : Int)
   ·rw [if_pos c9] at H
    have c9b0 : decide (t212 < (l0.length : Int)) = true := decide_eq_true c9
    clear c9
    (first | rw [c9b0] | rw [c9b1] | (simp only [i64_w, i32_w]; rw [c9b0]) | skip)
    by_cases c10 : 0 ≤ t212
    ·rw [if_pos c10] at H
     have c10b0 : decide (0 ≤ t212) = true := decide_eq_true c10
     clear c10
     have H' := Aside0.mk H
     clear H
     have p213 : 0 ≤ (t212 : Int) := of_decide_eq_true (by first | (with_reducible assumption) | assumption)
     have q213 : t212 < (l0.length : Int) := of_decide_eq_true (by first | (with_reducible assumption) | assumption)
     obtain ⟨ad213, e213, hx213_0, hx213_1, hx213_2⟩ := at_T41 HR0.out t212 p213 q213
     cases e213
     replace hx213_0 := cellB HB.out hx213_0
     replace hx213_1 := cellB HB.out hx213_1
     replace hx213_2 := cellB HB.out hx213_2
     replace p213 := eq_true p213
     replace q213 := eq_true q213
     go_wp2
     go_meet
     case rel => exact ⟨_, ((((rd_T41 l0 t212).f0) == a1)), (by first | rfl | (simp; done) | (simp [*]; done)), H', ⟨by first | omega | exact Nat.le_refl _⟩, ⟨blkN BK210.out⟩, ⟨(belS HB.out)⟩⟩
    ·rw [if_neg c10] at H
     exact absurd H (by simp)
   ·rw [if_neg c9] at H
    have c9b0 : decide (t212 < (l0.length : Int)) = false := decide_eq_false c9
    clear c9
    (first | rw [c9b0] | rw [c9b1] | (simp only [i64_w, i32_w]; rw [c9b0]) | skip)
    have H' := Aside0.mk H
    clear H
    go_wp2
    go_meet
    case rel => exact ⟨_, (false), (by first | rfl | (simp; done) | (simp [*]; done)), H', ⟨by first | omega | exact Nat.le_refl _⟩, ⟨blkN BK210.out⟩, ⟨(belS HB.out)⟩⟩
  case rest =>
   clear HC6
   try clear c1
   try clear p2
   try clear q2
   try clear hx2
   try clear c3
   try clear c4
   try clear c9
   try clear c9b0
   try clear c10
   try clear c10b0
   try clear hx213_0
   try clear hx213_1
   try clear hx213_2
   try clear p213
   try clear q213
   obtain ⟨kq, x17_5, rfl, HA, HJ5, BK210, HB⟩ := hcut
   cases kq with
   | zero => exact absurd HA.out (by simp [lerp_At.j0])
   | succ kj5 =>
    have H := HA.out
    clear HA
    simp only [lerp_At.j0] at H
    by_cases c11 : x17_5 = true
    ·subst c11
     have H1 : (if 0 ≤ t212 then (if t212 < (l0.length : Int) then (some ((rd_T41 l0 t212).f1.f0, (rd_T41 l0 t212).f1.f1, true, 0)) else (none)) else (none)) = some (r1, r2, r3, r4) := by rw [if_pos rfl] at H; exact H
     clear H
     have H := H1
     clear H1
     by_cases c12 : 0 ≤ t212
     ·rw [if_pos c12] at H
      have c12b0 : decide (0 ≤ t212) = true := decide_eq_true c12
      clear c12
      by_cases c13 : t212 < (l0.length : Int)
      ·rw [if_pos c13] at H
       have c13b0 : decide (t212 < (l0.length : Int)) = true := decide_eq_true c13
       clear c13
       simp only [Option.some.injEq, Prod.mk.injEq] at H
       obtain ⟨rfl, rfl, rfl, rfl⟩ := H
       have p214 : 0 ≤ (t212 : Int) := of_decide_eq_true (by first | (with_reducible assumption) | assumption)
       have q214 : t212 < (l0.length : Int) := of_decide_eq_true (by first | (with_reducible assumption) | assumption)
       obtain ⟨ad214, e214, hx214_0, hx214_1, hx214_2⟩ := at_T41 HR0.out t212 p214 q214
       cases e214
       replace hx214_0 := cellB HB.out hx214_0
       replace hx214_1 := cellB HB.out hx214_1
       replace hx214_2 := cellB HB.out hx214_2
       replace p214 := eq_true p214
       replace q214 := eq_true q214
       have hcz14_0 : wc.cell? ⟨gb210, 0, none⟩ = some (.int .i64 0) := (blk_cell BK210.out 0).trans rfl
       have hcz14_1 : wc.cell? ⟨gb210, 1, none⟩ = some (.int .i64 0) := (blk_cell BK210.out 1).trans rfl
       have hfz14_0 := blk_frozen BK210.out 0
       have hfz14_1 := blk_frozen BK210.out 1
       go_wp2
       refine bodyPost_ret (results_ctt rfl _ _ gb210 39 #[.int .i64 ((rd_T41 l0 t212).f1.f0), .int .i64 ((rd_T41 l0 t212).f1.f1)] (0, 0) _ rfl (by (with_reducible repeat (first | refine blk_drewN ?_ _ | refine blk_drew ?_ | refine blk_alloc ?_ _)); refine blk_put (cs := #[.int .i64 ((rd_T41 l0 t212).f1.f0), .int .i64 0]) ?_ 1 _ rfl; (with_reducible repeat (first | refine blk_drewN ?_ _ | refine blk_drew ?_ | refine blk_alloc ?_ _)); refine blk_put (cs := #[.int .i64 0, .int .i64 0]) ?_ 0 _ rfl; (with_reducible repeat (first | refine blk_drewN ?_ _ | refine blk_drew ?_ | refine blk_alloc ?_ _)); exact BK210.out) Try.underlying39 rfl (by kernel_rfl)) rfl ?_
       exact ⟨by first | rfl | (simp [errW_none, errW_some] <;> rfl) | (simp [*, errW_none, errW_some] <;> rfl), (belS HB.out)⟩
      ·rw [if_neg c13] at H
       exact absurd H (by simp)
     ·rw [if_neg c12] at H
      exact absurd H (by simp)
    ·replace c11 := Bool.eq_false_iff.mpr c11
     subst c11
     have H1 : (if t212 = 0 then (some (0, 0, false, 0)) else (if t212 = (l0.length : Int) then (some (0, 0, false, 0)) else (if 0 ≤ (wrap64 (t212 - 1)) then (if (wrap64 (t212 - 1)) < (l0.length : Int) then (if 0 ≤ t212 then (if t212 < (l0.length : Int) then ((lerp_Between.f kj5 ((rd_T41 l0 (wrap64 (t212 - 1))).f0) ((rd_T41 l0 (wrap64 (t212 - 1))).f1.f0) ((rd_T41 l0 (wrap64 (t212 - 1))).f1.f1) ((rd_T41 l0 t212).f0) ((rd_T41 l0 t212).f1.f0) ((rd_T41 l0 t212).f1.f1) a1).bind fun bt217 => (some (bt217.1, bt217.2.1, (bt217.2.2 == 0), bt217.2.2))) else (none)) else (none)) else (none)) else (none)))) = some (r1, r2, r3, r4) := by rw [if_neg (show ¬ (false = true) by decide)] at H; exact H
     clear H
     have H := H1
     clear H1
     by_cases c15 : t212 = 0
     ·rw [if_pos c15] at H
      have c15b0 : (t212 == 0) = true := beq_iff_eq.mpr c15
      have c15b1 : (t212 != 0) = false := bne_eq_false_iff_eq.mpr c15
      clear c15
      simp only [Option.some.injEq, Prod.mk.injEq] at H
      obtain ⟨rfl, rfl, rfl, rfl⟩ := H
      have hcz16_0 : wc.cell? ⟨gb210, 0, none⟩ = some (.int .i64 0) := (blk_cell BK210.out 0).trans rfl
      have hcz16_1 : wc.cell? ⟨gb210, 1, none⟩ = some (.int .i64 0) := (blk_cell BK210.out 1).trans rfl
      have hfz16_0 := blk_frozen BK210.out 0
      have hfz16_1 := blk_frozen BK210.out 1
      go_wp2
      refine bodyPost_ret (results_ctt rfl _ _ gb210 39 #[.int .i64 0, .int .i64 0] (0, 0) _ rfl (by (with_reducible repeat (first | refine blk_drewN ?_ _ | refine blk_drew ?_ | refine blk_alloc ?_ _)); refine blk_put (cs := #[.int .i64 0, .int .i64 0]) ?_ 1 _ rfl; (with_reducible repeat (first | refine blk_drewN ?_ _ | refine blk_drew ?_ | refine blk_alloc ?_ _)); refine blk_put (cs := #[.int .i64 0, .int .i64 0]) ?_ 0 _ rfl; (with_reducible repeat (first | refine blk_drewN ?_ _ | refine blk_drew ?_ | refine blk_alloc ?_ _)); exact BK210.out) Try.underlying39 rfl (by kernel_rfl)) rfl ?_
      exact ⟨by first | rfl | (simp [errW_none, errW_some] <;> rfl) | (simp [*, errW_none, errW_some] <;> rfl), (belS HB.out)⟩
     ·rw [if_neg c15] at H
      have c15b0 : (t212 == 0) = false := beq_eq_false_iff_ne.mpr c15
      have c15b1 : (t212 != 0) = true := bne_iff_ne.mpr c15
      by_cases c17 : t212 = (l0.length : Int)
      ·rw [if_pos c17] at H
       have c17b0 : (t212 == (l0.length : Int)) = true := beq_iff_eq.mpr c17
       have c17b1 : (t212 != (l0.length : Int)) = false := bne_eq_false_iff_eq.mpr c17
       clear c17
       simp only [Option.some.injEq, Prod.mk.injEq] at H
       obtain ⟨rfl, rfl, rfl, rfl⟩ := H
       have hcz18_0 : wc.cell? ⟨gb210, 0, none⟩ = some (.int .i64 0) := (blk_cell BK210.out 0).trans rfl
       have hcz18_1 : wc.cell? ⟨gb210, 1, none⟩ = some (.int .i64 0) := (blk_cell BK210.out 1).trans rfl
       have hfz18_0 := blk_frozen BK210.out 0
       have hfz18_1 := blk_frozen BK210.out 1
       go_wp2
       refine bodyPost_ret (results_ctt rfl _ _ gb210 39 #[.int .i64 0, .int .i64 0] (0, 0) _ rfl (by (with_reducible repeat (first | refine blk_drewN ?_ _ | refine blk_drew ?_ | refine blk_alloc ?_ _)); refine blk_put (cs := #[.int .i64 0, .int .i64 0]) ?_ 1 _ rfl; (with_reducible repeat (first | refine blk_drewN ?_ _ | refine blk_drew ?_ | refine blk_alloc ?_ _)); refine blk_put (cs := #[.int .i64 0, .int .i64 0]) ?_ 0 _ rfl; (with_reducible repeat (first | refine blk_drewN ?_ _ | refine blk_drew ?_ | refine blk_alloc ?_ _)); exact BK210.out) Try.underlying39 rfl (by kernel_rfl)) rfl ?_
       exact ⟨by first | rfl | (simp [errW_none, errW_some] <;> rfl) | (simp [*, errW_none, errW_some] <;> rfl), (belS HB.out)⟩
      ·rw [if_neg c17] at H
       have c17b0 : (t212 == (l0.length : Int)) = false := beq_eq_false_iff_ne.mpr c17
       have c17b1 : (t212 != (l0.length : Int)) = true := bne_iff_ne.mpr c17
       obtain ⟨ji19, hji19⟩ : ∃ j_ : Int, (wrap64 (t212 - 1)) = j_ := ⟨_, rfl⟩
       replace H : (if 0 ≤ (ji19) then (if (ji19) < (l0.length : Int) then (if 0 ≤ t212 then (if t212 < (l0.length : Int) then ((lerp_Between.f kj5 ((rd_T41 l0 (ji19)).f0) ((rd_T41 l0 (ji19)).f1.f0) ((rd_T41 l0 (ji19)).f1.f1) ((rd_T41 l0 t212).f0) ((rd_T41 l0 t212).f1.f0) ((rd_T41 l0 t212).f1.f1) a1).bind fun bt217 => (some (bt217.1, bt217.2.1, (bt217.2.2 == 0), bt217.2.2))) else (none)) else (none)) else (none)) else (none)) = some (r1, r2, r3, r4) := by first | (rw [hji19] at H; exact H) | (simp only [hji19] at H ⊢; exact H)
       have hji19w : (IntKind.i64.wrap (t212 - 1)) = ji19 := (i64_w _).trans hji19
       by_cases c20 : 0 ≤ (ji19)
       ·rw [if_pos c20] at H
        have c20b0 : decide (0 ≤ (ji19)) = true := decide_eq_true c20
        clear c20
        by_cases c21 : (ji19) < (l0.length : Int)
        ·rw [if_pos c21] at H
         have c21b0 : decide ((ji19) < (l0.length : Int)) = true := decide_eq_true c21
         clear c21
         by_cases c22 : 0 ≤ t212
         ·rw [if_pos c22] at H
          have c22b0 : decide (0 ≤ t212) = true := decide_eq_true c22
          clear c22
          by_cases c23 : t212 < (l0.length : Int)
          ·rw [if_pos c23] at H
           have c23b0 : decide (t212 < (l0.length : Int)) = true := decide_eq_true c23
           clear c23
           replace H := Option.bind_eq_some_iff.mp H
           obtain ⟨⟨t217, t218, t219⟩, A240, H⟩ := H
           replace H : (some (t217, t218, (t219 == 0), t219)) = some (r1, r2, r3, r4) := H
           have A24 := Aside0.mk A240
           clear A240
           simp only [Option.some.injEq, Prod.mk.injEq] at H
           obtain ⟨rfl, rfl, rfl, rfl⟩ := H
           try go_wp2
           have n0_ := Aside0.mk (blk_drew BK210.out)
           have n1_ := Aside0.mk (below_drew1 HB.out)
           clear BK210
           clear HB
           have BK210 := n0_
           have HB := n1_
           clear n0_ n1_
           have p215 : 0 ≤ ((ji19) : Int) := of_decide_eq_true (by first | (with_reducible assumption) | assumption)
           have q215 : (ji19) < (l0.length : Int) := of_decide_eq_true (by first | (with_reducible assumption) | assumption)
           obtain ⟨ad215, e215, hx215_0, hx215_1, hx215_2⟩ := at_T41 HR0.out (ji19) p215 q215
           have hw215_2 := hx215_2
           have hw215_1 := hx215_1
           have hw215_0 := hx215_0
           cases e215
           replace hx215_0 := cellB HB.out hx215_0
           replace hx215_1 := cellB HB.out hx215_1
           replace hx215_2 := cellB HB.out hx215_2
           replace p215 := eq_true p215
           replace q215 := eq_true q215
           have p216 : 0 ≤ (t212 : Int) := of_decide_eq_true (by first | (with_reducible assumption) | assumption)
           have q216 : t212 < (l0.length : Int) := of_decide_eq_true (by first | (with_reducible assumption) | assumption)
           obtain ⟨ad216, e216, hx216_0, hx216_1, hx216_2⟩ := at_T41 HR0.out t212 p216 q216
           have hw216_2 := hx216_2
           have hw216_1 := hx216_1
           have hw216_0 := hx216_0
           obtain rfl : ad215 = ad216 := (by injection e216)
           replace hx216_0 := cellB HB.out hx216_0
           replace hx216_1 := cellB HB.out hx216_1
           replace hx216_2 := cellB HB.out hx216_2
           replace p216 := eq_true p216
           replace q216 := eq_true q216
           refine start_ (n := 17) (S := fun w' => w'.cell? (ad215.add (((ji19)).toNat * 3)) = some (.int .i64 ((rd_T41 l0 (ji19)).f0)) ∧ w'.cell? ⟨(ad215.add (((ji19)).toNat * 3)).block, (ad215.add (((ji19)).toNat * 3)).off + 1, none⟩ = some (.int .i64 ((rd_T41 l0 (ji19)).f1.f0)) ∧ w'.cell? ⟨(ad215.add (((ji19)).toNat * 3)).block, (ad215.add (((ji19)).toNat * 3)).off + 2, none⟩ = some (.int .i64 ((rd_T41 l0 (ji19)).f1.f1)) ∧ w'.cell? (ad215.add ((t212).toNat * 3)) = some (.int .i64 ((rd_T41 l0 t212).f0)) ∧ w'.cell? ⟨(ad215.add ((t212).toNat * 3)).block, (ad215.add ((t212).toNat * 3)).off + 1, none⟩ = some (.int .i64 ((rd_T41 l0 t212).f1.f0)) ∧ w'.cell? ⟨(ad215.add ((t212).toNat * 3)).block, (ad215.add ((t212).toNat * 3)).off + 2, none⟩ = some (.int .i64 ((rd_T41 l0 t212).f1.f1))) (ds := []) #[false, false, false, false, false, false, false, false, false, false, false, false, false, false, false, false, false] (by kernel_rfl) rfl rfl ⟨(cellB HB.out hw215_0), (cellB HB.out hw215_1), (cellB HB.out hw215_2), (cellB HB.out hw216_0), (cellB HB.out hw216_1), (cellB HB.out hw216_2)⟩ (fun hHeld => ?_); refine with_tabW lerp_At.tab8 lerp_At.bits8 (fun HT_ HW_ => ?_)
           generalize wc.drew = w25 at BK210 HB hx215_0 hx215_1 hx215_2 hx216_0 hx216_1 hx216_2 hHeld ⊢
           refine pA 0 (some 47) (bA 17 1) HT_.out ?_
           refine pA 1 (some 48) (bA 17 3) HT_.out ?_
           refine pA 2 (some 49) (bA 17 7) HT_.out ?_
           refine pA 3 (some 50) (bA 17 15) HT_.out ?_
           refine pA 5 (some 52) (bA 17 47) HT_.out ?_
           refine pA 6 (some 53) (bA 17 111) HT_.out ?_
           refine pA 7 (some 54) (bA 17 239) HT_.out ?_
           refine pA 9 (some 56) (bA 17 751) HT_.out ?_
           refine take_ (i := 4) (N := some 51) (v := ?_) (a' := ?_) (bA 17 767) rfl rfl (take_ofW HT_.out HW_.out (by kernel_rfl)) (fun _ _ _ h => h) (Or.inl ⟨by rfl, ?_⟩) hHeld ?_ ?_
           rotate_left
           ·rintro w' ⟨s0, s1, s2, s3, s4, s5⟩
            go_simp
            with_reducible rfl
           rotate_left
           ·simp only [Act.put, List.setIfInBounds_toArray, List.set_cons_zero, List.set_cons_succ, i64_w, i32_w]
            rfl
           refine take_ (i := 8) (N := some 55) (v := ?_) (a' := ?_) (bA 17 1023) rfl rfl (take_ofW HT_.out HW_.out (by kernel_rfl)) (fun _ _ _ h => h) (Or.inl ⟨by rfl, ?_⟩) hHeld ?_ ?_
           rotate_left
           ·rintro w' ⟨s0, s1, s2, s3, s4, s5⟩
            go_simp
            with_reducible rfl
           rotate_left
           ·simp only [Act.put, List.setIfInBounds_toArray, List.set_cons_zero, List.set_cons_succ, i64_w, i32_w]
            rfl
           refine join_ (σ := Nat) 2 (bA 17 32767) (fun s_ => [(57, .tuple #[.agg #[.int .i64 t217, .int .i64 t218], .int .i64 t219]), (8, .pointer (some ⟨s_, 0, none⟩)), (46, .tuple #[.agg #[.int .i64 t217, .int .i64 t218], .int .i64 t219]), (58, .agg #[.int .i64 t217, .int .i64 t218]), (59, .int .i64 t219)]) (fun s_ w' => (w'.cell? (ad215.add (((ji19)).toNat * 3)) = some (.int .i64 ((rd_T41 l0 (ji19)).f0)) ∧ w'.cell? ⟨(ad215.add (((ji19)).toNat * 3)).block, (ad215.add (((ji19)).toNat * 3)).off + 1, none⟩ = some (.int .i64 ((rd_T41 l0 (ji19)).f1.f0)) ∧ w'.cell? ⟨(ad215.add (((ji19)).toNat * 3)).block, (ad215.add (((ji19)).toNat * 3)).off + 2, none⟩ = some (.int .i64 ((rd_T41 l0 (ji19)).f1.f1)) ∧ w'.cell? (ad215.add ((t212).toNat * 3)) = some (.int .i64 ((rd_T41 l0 t212).f0)) ∧ w'.cell? ⟨(ad215.add ((t212).toNat * 3)).block, (ad215.add ((t212).toNat * 3)).off + 1, none⟩ = some (.int .i64 ((rd_T41 l0 t212).f1.f0)) ∧ w'.cell? ⟨(ad215.add ((t212).toNat * 3)).block, (ad215.add ((t212).toNat * 3)).off + 2, none⟩ = some (.int .i64 ((rd_T41 l0 t212).f1.f1))) ∧ (w'.heap[gb210]? = some (.cells #[.int .i64 0, .int .i64 0] 39 (0, 0))) ∧ (w'.heap[s_]? = some (.cells #[.int .i64 0, .int .i64 0] 39 (0, 0))) ∧ (w.heap.size ≤ s_) ∧ (w.heap.size ≤ s_) ∧ (gb210 ≠ s_) ∧ (s_ ≠ gb210) ∧ (Below w.heap.size w w')) ?_ ?_
           rotate_left
           ·intro hCont
            refine two_ (i := 10) (j := 14) (Ni := some 57) (Nj := some 8) (bA 17 2047) (bA 17 17407) rfl rfl rfl rfl (two_of HT_.out (by kernel_rfl)) (by decide) (by decide) (fun K hK => ?_) (fun K hK => ?_)
            ·skip
             refine goes_ Try.func34 (by kernel_rfl) rfl #[.agg #[.int .i64 ((rd_T41 l0 (ji19)).f0), .int .i64 ((rd_T41 l0 (ji19)).f1.f0), .int .i64 ((rd_T41 l0 (ji19)).f1.f1)], .agg #[.int .i64 ((rd_T41 l0 t212).f0), .int .i64 ((rd_T41 l0 t212).f1.f0), .int .i64 ((rd_T41 l0 t212).f1.f1)], .int .i64 a1] (by rfl) rfl rfl (by (try simp only [List.map_toArray, List.map_cons, List.map_nil]); first | done | (simp only [hji19]; rfl) | rfl | (simp only [List.length_drop, List.length_take]; rfl)) ?_
             with_reducible refine (lerp_Between.calls kj5 ((rd_T41 l0 (ji19)).f0) ((rd_T41 l0 (ji19)).f1.f0) ((rd_T41 l0 (ji19)).f1.f1) ((rd_T41 l0 t212).f0) ((rd_T41 l0 t212).f1.f0) ((rd_T41 l0 t212).f1.f1) a1 t217 t218 t219 _ A24.out).mono ?_
             rintro e w26 ⟨rfl, hb⟩
             refine ⟨_, rfl, ?_⟩
             have n0_ := Aside0.mk (bkB BK210.out hb)
             have n1_ := Aside0.mk (below_step (belS HB.out) hb)
             clear BK210
             clear HB
             have BK210 := n0_
             have HB := n1_
             clear n0_ n1_
             (try clear hb)
             refine hK.out _ _ ⟨(cellB HB.out hw215_0), (cellB HB.out hw215_1), (cellB HB.out hw215_2), (cellB HB.out hw216_0), (cellB HB.out hw216_1), (cellB HB.out hw216_2)⟩ (fun hHeld => ?_)
             clear hK K
             refine norm_ (a' := ?_) ?_ ?_
             rotate_left
             ·show Act.put _ (some 57) _ = _
              simp only [Act.put, List.setIfInBounds_toArray, List.set_cons_zero, List.set_cons_succ, i64_w, i32_w]
              rfl
             refine pA 11 (some 46) (bA 17 4095) HT_.out ?_
             refine pA 12 (some 58) (bA 17 8191) HT_.out ?_
             refine pA 13 (some 59) (bA 17 16383) HT_.out ?_
             refine one_ (i := 14) (N := some 8) (bA 17 32767) rfl rfl (one_of HT_.out (by kernel_rfl)) (by decide) (fun K hK => ?_)
             refine box_step ?hg (N := 8) ?hd (cs := #[.int .i64 0, .int .i64 0]) (t := 39) ?hr ?_; (case hd => rfl); (case hg => rfl); (case hr => first | (go_simp; done) | (go_simp; rfl))
             intro gb220 hg w27 hbox hb
             have n0_ := Aside0.mk (bkB BK210.out hb)
             have n1_ := Aside0.mk (below_step (belS HB.out) hb)
             have n2_ := Aside0.mk (hbox)
             have n3_ := Aside0.mk (szB hg HB.out)
             have n4_ := Aside0.mk (szB hg HB.out)
             have n5_ := Aside0.mk ((bk1 hg BK210.out))
             have n6_ := Aside0.mk ((bk2 hg BK210.out))
             clear BK210
             clear HB
             have BK210 := n0_
             have HB := n1_
             have BK220 := n2_
             have GW220 := n3_
             have GE220 := n4_
             have NB210_220 := n5_
             have NB220_210 := n6_
             clear n0_ n1_ n2_ n3_ n4_ n5_ n6_
             clear hb hbox hg
             refine hK.out _ _ ⟨(cellB HB.out hw215_0), (cellB HB.out hw215_1), (cellB HB.out hw215_2), (cellB HB.out hw216_0), (cellB HB.out hw216_1), (cellB HB.out hw216_2)⟩ (fun hHeld => ?_)
             clear hK K
             refine norm_ (a' := ?_) ?_ ?_
             rotate_left
             ·show Act.put _ (some 8) _ = _
              simp only [Act.put, List.setIfInBounds_toArray, List.set_cons_zero, List.set_cons_succ, i64_w, i32_w]
              rfl
             exact norm_ (by simp only [putAll, Act.put, List.setIfInBounds_toArray, List.set_cons_zero, List.set_cons_succ]) (hCont (gb220) _ ⟨hHeld, (blkN BK210.out), (blkN BK220.out), GW220.out, GE220.out, NB210_220.out, NB220_210.out, (belS HB.out)⟩)
            ·skip
             refine box_step ?hg (N := 8) ?hd (cs := #[.int .i64 0, .int .i64 0]) (t := 39) ?hr ?_; (case hd => rfl); (case hg => rfl); (case hr => first | (go_simp; done) | (go_simp; rfl))
             intro gb220 hg w26 hbox hb
             have n0_ := Aside0.mk (bkB BK210.out hb)
             have n1_ := Aside0.mk (below_step (belS HB.out) hb)
             have n2_ := Aside0.mk (hbox)
             have n3_ := Aside0.mk (szB hg HB.out)
             have n4_ := Aside0.mk (szB hg HB.out)
             have n5_ := Aside0.mk ((bk1 hg BK210.out))
             have n6_ := Aside0.mk ((bk2 hg BK210.out))
             clear BK210
             clear HB
             have BK210 := n0_
             have HB := n1_
             have BK220 := n2_
             have GW220 := n3_
             have GE220 := n4_
             have NB210_220 := n5_
             have NB220_210 := n6_
             clear n0_ n1_ n2_ n3_ n4_ n5_ n6_
             clear hb hbox hg
             refine hK.out _ _ ⟨(cellB HB.out hw215_0), (cellB HB.out hw215_1), (cellB HB.out hw215_2), (cellB HB.out hw216_0), (cellB HB.out hw216_1), (cellB HB.out hw216_2)⟩ (fun hHeld => ?_)
             clear hK K
             refine norm_ (a' := ?_) ?_ ?_
             rotate_left
             ·show Act.put _ (some 8) _ = _
              simp only [Act.put, List.setIfInBounds_toArray, List.set_cons_zero, List.set_cons_succ, i64_w, i32_w]
              rfl
             refine one_ (i := 10) (N := some 57) (bA 17 18431) rfl rfl (one_of HT_.out (by kernel_rfl)) (by decide) (fun K hK => ?_)
             refine goes_ Try.func34 (by kernel_rfl) rfl #[.agg #[.int .i64 ((rd_T41 l0 (ji19)).f0), .int .i64 ((rd_T41 l0 (ji19)).f1.f0), .int .i64 ((rd_T41 l0 (ji19)).f1.f1)], .agg #[.int .i64 ((rd_T41 l0 t212).f0), .int .i64 ((rd_T41 l0 t212).f1.f0), .int .i64 ((rd_T41 l0 t212).f1.f1)], .int .i64 a1] (by rfl) rfl rfl (by (try simp only [List.map_toArray, List.map_cons, List.map_nil]); first | done | (simp only [hji19]; rfl) | rfl | (simp only [List.length_drop, List.length_take]; rfl)) ?_
             with_reducible refine (lerp_Between.calls kj5 ((rd_T41 l0 (ji19)).f0) ((rd_T41 l0 (ji19)).f1.f0) ((rd_T41 l0 (ji19)).f1.f1) ((rd_T41 l0 t212).f0) ((rd_T41 l0 t212).f1.f0) ((rd_T41 l0 t212).f1.f1) a1 t217 t218 t219 _ A24.out).mono ?_
             rintro e w27 ⟨rfl, hb⟩
             refine ⟨_, rfl, ?_⟩
             have n0_ := Aside0.mk (bkB BK210.out hb)
             have n1_ := Aside0.mk (bkB BK220.out hb)
             have n2_ := Aside0.mk (below_step (belS HB.out) hb)
             clear BK210
             clear BK220
             clear HB
             have BK210 := n0_
             have BK220 := n1_
             have HB := n2_
             clear n0_ n1_ n2_
             (try clear hb)
             refine hK.out _ _ ⟨(cellB HB.out hw215_0), (cellB HB.out hw215_1), (cellB HB.out hw215_2), (cellB HB.out hw216_0), (cellB HB.out hw216_1), (cellB HB.out hw216_2)⟩ (fun hHeld => ?_)
             clear hK K
             refine norm_ (a' := ?_) ?_ ?_
             rotate_left
             ·show Act.put _ (some 57) _ = _
              simp only [Act.put, List.setIfInBounds_toArray, List.set_cons_zero, List.set_cons_succ, i64_w, i32_w]
              rfl
             refine pA 11 (some 46) (bA 17 20479) HT_.out ?_
             refine pA 12 (some 58) (bA 17 24575) HT_.out ?_
             refine pA 13 (some 59) (bA 17 32767) HT_.out ?_
             exact norm_ (by simp only [putAll, Act.put, List.setIfInBounds_toArray, List.set_cons_zero, List.set_cons_succ]) (hCont (gb220) _ ⟨hHeld, (blkN BK210.out), (blkN BK220.out), GW220.out, GE220.out, NB210_220.out, NB220_210.out, (belS HB.out)⟩)
           rintro gb220 w28 ⟨hS_, h0_, h1_, h2_, h3_, h4_, h5_, h6_⟩
           have n0_ : Aside0 (w28.heap[gb210]? = some (.cells #[.int .i64 0, .int .i64 0] 39 (0, 0))) := ⟨h0_⟩
           have n1_ : Aside0 (w28.heap[gb220]? = some (.cells #[.int .i64 0, .int .i64 0] 39 (0, 0))) := ⟨h1_⟩
           have n2_ : Aside0 (w.heap.size ≤ gb220) := ⟨h2_⟩
           have n3_ : Aside0 (w.heap.size ≤ gb220) := ⟨h3_⟩
           have n4_ : Aside0 (gb210 ≠ gb220) := ⟨h4_⟩
           have n5_ : Aside0 (gb220 ≠ gb210) := ⟨h5_⟩
           have n6_ : Aside0 (Below w.heap.size w w28) := ⟨h6_⟩
           clear BK210
           clear HB
           clear h0_ h1_ h2_ h3_ h4_ h5_ h6_
           have BK210 := n0_
           have BK220 := n1_
           have GW220 := n2_
           have GE220 := n3_
           have NB210_220 := n4_
           have NB220_210 := n5_
           have HB := n6_
           clear n0_ n1_ n2_ n3_ n4_ n5_ n6_
           have hHeld : w28.cell? (ad215.add (((ji19)).toNat * 3)) = some (.int .i64 ((rd_T41 l0 (ji19)).f0)) ∧ w28.cell? ⟨(ad215.add (((ji19)).toNat * 3)).block, (ad215.add (((ji19)).toNat * 3)).off + 1, none⟩ = some (.int .i64 ((rd_T41 l0 (ji19)).f1.f0)) ∧ w28.cell? ⟨(ad215.add (((ji19)).toNat * 3)).block, (ad215.add (((ji19)).toNat * 3)).off + 2, none⟩ = some (.int .i64 ((rd_T41 l0 (ji19)).f1.f1)) ∧ w28.cell? (ad215.add ((t212).toNat * 3)) = some (.int .i64 ((rd_T41 l0 t212).f0)) ∧ w28.cell? ⟨(ad215.add ((t212).toNat * 3)).block, (ad215.add ((t212).toNat * 3)).off + 1, none⟩ = some (.int .i64 ((rd_T41 l0 t212).f1.f0)) ∧ w28.cell? ⟨(ad215.add ((t212).toNat * 3)).block, (ad215.add ((t212).toNat * 3)).off + 2, none⟩ = some (.int .i64 ((rd_T41 l0 t212).f1.f1)) := hS_
           refine norm_ (a' := ?_) ?_ ?_
           rotate_left
           ·simp only [putAll, Act.put, List.setIfInBounds_toArray, List.set_cons_zero, List.set_cons_succ]
            rfl
           refine one_ (i := 15) (N := none) (bA 17 65535) rfl rfl (one_of HT_.out (by kernel_rfl)) (by decide) (fun K hK => ?_)
           have hs29 : w28.cell? ⟨gb220, 0, none⟩ = some (.int .i64 0) := (blk_cell BK220.out 0).trans rfl
           have hfs29 := blk_frozen BK220.out 0
           have hns29_0 := NB210_220.out
           have hms29_0 := NB220_210.out
           have hs30 : w28.cell? ⟨gb220, 1, none⟩ = some (.int .i64 0) := (blk_cell BK220.out 1).trans rfl
           have hfs30 := blk_frozen BK220.out 1
           have hns30_0 := NB210_220.out
           have hms30_0 := NB220_210.out
           refine skip_ (w1 := ?_) (by rfl) rfl ?_ ?_
           rotate_left
           ·go_simp
            rfl
           refine hK.out _ _ ⟨((cell_far (p := ⟨gb220, _, none⟩) (by first | exact cellNe hw215_0 GW220.out | (rw [add_block]; exact cellNe hw215_0 GW220.out) | (show (Addr.add _ _).block ≠ _; rw [add_block]; exact cellNe hw215_0 GW220.out) | (dsimp only; exact cellNe hw215_0 GW220.out)) _).trans (((cell_far (p := ⟨gb220, _, none⟩) (by first | exact cellNe hw215_0 GW220.out | (rw [add_block]; exact cellNe hw215_0 GW220.out) | (show (Addr.add _ _).block ≠ _; rw [add_block]; exact cellNe hw215_0 GW220.out) | (dsimp only; exact cellNe hw215_0 GW220.out)) _).trans (hHeld.1)))), ((cell_far (p := ⟨gb220, _, none⟩) (by first | exact cellNe hw215_1 GW220.out | (rw [add_block]; exact cellNe hw215_1 GW220.out) | (show (Addr.add _ _).block ≠ _; rw [add_block]; exact cellNe hw215_1 GW220.out) | (dsimp only; exact cellNe hw215_1 GW220.out)) _).trans (((cell_far (p := ⟨gb220, _, none⟩) (by first | exact cellNe hw215_1 GW220.out | (rw [add_block]; exact cellNe hw215_1 GW220.out) | (show (Addr.add _ _).block ≠ _; rw [add_block]; exact cellNe hw215_1 GW220.out) | (dsimp only; exact cellNe hw215_1 GW220.out)) _).trans (hHeld.2.1)))), ((cell_far (p := ⟨gb220, _, none⟩) (by first | exact cellNe hw215_2 GW220.out | (rw [add_block]; exact cellNe hw215_2 GW220.out) | (show (Addr.add _ _).block ≠ _; rw [add_block]; exact cellNe hw215_2 GW220.out) | (dsimp only; exact cellNe hw215_2 GW220.out)) _).trans (((cell_far (p := ⟨gb220, _, none⟩) (by first | exact cellNe hw215_2 GW220.out | (rw [add_block]; exact cellNe hw215_2 GW220.out) | (show (Addr.add _ _).block ≠ _; rw [add_block]; exact cellNe hw215_2 GW220.out) | (dsimp only; exact cellNe hw215_2 GW220.out)) _).trans (hHeld.2.2.1)))), ((cell_far (p := ⟨gb220, _, none⟩) (by first | exact cellNe hw216_0 GW220.out | (rw [add_block]; exact cellNe hw216_0 GW220.out) | (show (Addr.add _ _).block ≠ _; rw [add_block]; exact cellNe hw216_0 GW220.out) | (dsimp only; exact cellNe hw216_0 GW220.out)) _).trans (((cell_far (p := ⟨gb220, _, none⟩) (by first | exact cellNe hw216_0 GW220.out | (rw [add_block]; exact cellNe hw216_0 GW220.out) | (show (Addr.add _ _).block ≠ _; rw [add_block]; exact cellNe hw216_0 GW220.out) | (dsimp only; exact cellNe hw216_0 GW220.out)) _).trans (hHeld.2.2.2.1)))), ((cell_far (p := ⟨gb220, _, none⟩) (by first | exact cellNe hw216_1 GW220.out | (rw [add_block]; exact cellNe hw216_1 GW220.out) | (show (Addr.add _ _).block ≠ _; rw [add_block]; exact cellNe hw216_1 GW220.out) | (dsimp only; exact cellNe hw216_1 GW220.out)) _).trans (((cell_far (p := ⟨gb220, _, none⟩) (by first | exact cellNe hw216_1 GW220.out | (rw [add_block]; exact cellNe hw216_1 GW220.out) | (show (Addr.add _ _).block ≠ _; rw [add_block]; exact cellNe hw216_1 GW220.out) | (dsimp only; exact cellNe hw216_1 GW220.out)) _).trans (hHeld.2.2.2.2.1)))), ((cell_far (p := ⟨gb220, _, none⟩) (by first | exact cellNe hw216_2 GW220.out | (rw [add_block]; exact cellNe hw216_2 GW220.out) | (show (Addr.add _ _).block ≠ _; rw [add_block]; exact cellNe hw216_2 GW220.out) | (dsimp only; exact cellNe hw216_2 GW220.out)) _).trans (((cell_far (p := ⟨gb220, _, none⟩) (by first | exact cellNe hw216_2 GW220.out | (rw [add_block]; exact cellNe hw216_2 GW220.out) | (show (Addr.add _ _).block ≠ _; rw [add_block]; exact cellNe hw216_2 GW220.out) | (dsimp only; exact cellNe hw216_2 GW220.out)) _).trans (hHeld.2.2.2.2.2))))⟩ (fun hHeld => ?_)
           clear hK K
           refine pA 16 (some 9) (bA 17 131071) HT_.out ?_
           refine done_ (done_of HT_.out (by kernel_rfl)) ?_
           have hnb31 := NB220_210.out
           have hnc31 := NB210_220.out
           have hcz32_0 : w28.cell? ⟨gb220, 0, none⟩ = some (.int .i64 0) := (blk_cell BK220.out 0).trans rfl
           have hcz32_1 : w28.cell? ⟨gb220, 1, none⟩ = some (.int .i64 0) := (blk_cell BK220.out 1).trans rfl
           have hfz32_0 := blk_frozen BK220.out 0
           have hfz32_1 := blk_frozen BK220.out 1
           have hcz33_0 : w28.cell? ⟨gb210, 0, none⟩ = some (.int .i64 0) := (blk_cell BK210.out 0).trans rfl
           have hcz33_1 : w28.cell? ⟨gb210, 1, none⟩ = some (.int .i64 0) := (blk_cell BK210.out 1).trans rfl
           have hfz33_0 := blk_frozen BK210.out 0
           have hfz33_1 := blk_frozen BK210.out 1
           try go_wp2
           refine bodyPost_ret (results_ctt rfl _ _ gb210 39 #[.int .i64 t217, .int .i64 t218] (0, 0) _ rfl (by (with_reducible repeat (first | refine blk_drewN ?_ _ | refine blk_drew ?_ | refine blk_alloc ?_ _)); refine blk_put (cs := #[.int .i64 t217, .int .i64 0]) ?_ 1 _ rfl; (with_reducible repeat (first | refine blk_drewN ?_ _ | refine blk_drew ?_ | refine blk_alloc ?_ _)); refine blk_put (cs := #[.int .i64 0, .int .i64 0]) ?_ 0 _ rfl; (with_reducible repeat (first | refine blk_drewN ?_ _ | refine blk_drew ?_ | refine blk_alloc ?_ _)); refine blk_far ?_ NB210_220.out _; (with_reducible repeat (first | refine blk_drewN ?_ _ | refine blk_drew ?_ | refine blk_alloc ?_ _)); refine blk_far ?_ NB210_220.out _; (with_reducible repeat (first | refine blk_drewN ?_ _ | refine blk_drew ?_ | refine blk_alloc ?_ _)); exact BK210.out) Try.underlying39 rfl (by kernel_rfl)) rfl ?_
           exact ⟨by first | rfl | (simp [errW_none, errW_some] <;> rfl) | (simp only [← hji19]; first | rfl | (simp [errW_none, errW_some] <;> rfl)) | (simp [*, errW_none, errW_some] <;> rfl), (belS HB.out)⟩
          ·rw [if_neg c23] at H
           exact absurd H (by simp)
         ·rw [if_neg c22] at H
          exact absurd H (by simp)
        ·rw [if_neg c21] at H
         exact absurd H (by simp)
       ·rw [if_neg c20] at H
        exact absurd H (by simp)
 ·replace c4 := Bool.eq_false_iff.mpr c4
  subst c4
  have H1 : (some (0, 0, false, 1)) = some (r1, r2, r3, r4) := by rw [if_neg (show ¬ (false = true) by decide)] at H; exact H
  clear H
  have H := H1
  clear H1
  simp only [Option.some.injEq, Prod.mk.injEq] at H
  obtain ⟨rfl, rfl, rfl, rfl⟩ := H
  go_enter Try.func32, Try.ntmps32
  go_wp2_with (first | ((with_reducible refine gate_dst (N := 4) rfl ?_); (try (refine gate_guard (by rfl) ?_; dsimp only)); refine box_event ?hg (N := 4) ?hd (cs := #[.int .i64 0, .int .i64 0]) (t := 39) ?hr ?_; (case hd => rfl); (case hg => rfl); (case hr => first | (go_simp; done) | (go_simp; rfl)); intro gb210 hg w34 hbox hb; have n0_ := Aside0.mk (below_step (belN HB.out) hb); have n1_ := Aside0.mk (hbox); have n2_ := Aside0.mk (szB hg HB.out); have n3_ := Aside0.mk (szB hg HB.out); clear HB; have HB := n0_; have BK210 := n1_; have GW210 := n2_; have GE210 := n3_; clear n0_ n1_ n2_ n3_; clear hb hbox hg) | ((with_reducible refine gate_callee (f := 41) rfl ?_); refine goesL_ (some 11) rfl rfl Try.func41 (by kernel_rfl) rfl #[.slice A0 l0.length c0] rfl argN ?_; (with_reducible refine (down_Right.calls k _ _ l0 false _ ?side1 ?side2 A3.out).mono ?_); (case side1 => repeat (first | exact (Kd.C_below HR0.out HB.out) | (with_reducible refine Kd.C_alloc ?_ _) | (with_reducible refine Kd.C_drewN ?_ _) | (with_reducible refine Kd.C_drew ?_))); (case side2 => exact HC0.out); rintro e w35 ⟨rfl, hb⟩; refine ⟨_, rfl, ?_⟩; have n0_ := Aside0.mk (bkB BK210.out hb); have n1_ := Aside0.mk (below_step (belS HB.out) hb); clear BK210; clear HB; have BK210 := n0_; have HB := n1_; clear n0_ n1_; (try clear hb); have hcz36_0 : w35.cell? ⟨gb210, 0, none⟩ = some (.int .i64 0) := (blk_cell BK210.out 0).trans rfl; have hcz36_1 : w35.cell? ⟨gb210, 1, none⟩ = some (.int .i64 0) := (blk_cell BK210.out 1).trans rfl; have hfz36_0 := blk_frozen BK210.out 0; have hfz36_1 := blk_frozen BK210.out 1))
  refine bodyPost_ret (results_ctt rfl _ _ gb210 39 #[.int .i64 0, .int .i64 0] (0, 0) _ rfl (by (with_reducible repeat (first | refine blk_drewN ?_ _ | refine blk_drew ?_ | refine blk_alloc ?_ _)); refine blk_put (cs := #[.int .i64 0, .int .i64 0]) ?_ 1 _ rfl; (with_reducible repeat (first | refine blk_drewN ?_ _ | refine blk_drew ?_ | refine blk_alloc ?_ _)); refine blk_put (cs := #[.int .i64 0, .int .i64 0]) ?_ 0 _ rfl; (with_reducible repeat (first | refine blk_drewN ?_ _ | refine blk_drew ?_ | refine blk_alloc ?_ _)); exact BK210.out) Try.underlying39 rfl (by kernel_rfl)) rfl ?_
  exact ⟨by first | rfl | (simp [errW_none, errW_some] <;> rfl) | (simp [*, errW_none, errW_some] <;> rfl), (belS HB.out)⟩

/-! ### marigraphref1_gcd: function 64 -/
def marigraphref1_gcd.l0 : Nat → Int → Int → Option (Int)
 | 0, _, _ => none
 | k + 1, x0, x1 => if x1 = 0 then (some x0) else (marigraphref1_gcd.l0 k x1 (Int.tmod x0 x1))
def marigraphref1_gcd.f (k : Nat) (a0 : Int) (a1 : Int) : Option (Int) := marigraphref1_gcd.l0 k a0 a1
theorem marigraphref1_gcd.mono_l : ∀ k, (∀ y0 y1, LeO (marigraphref1_gcd.l0 k y0 y1) (marigraphref1_gcd.l0 (k + 1) y0 y1))
 | 0 => fun _ _ r h => by simp [marigraphref1_gcd.l0] at h
 | k + 1 => by
  have ih0 := marigraphref1_gcd.mono_l k
  ·intro y0 y1
   unfold marigraphref1_gcd.l0
   repeat' first
   | (with_reducible exact ih0 _ _)
   | (with_reducible exact LeO.refl _)
   | (with_reducible exact LeO.none _)
   | (with_reducible refine LeO.ite ?_ ?_)
   | (with_reducible refine LeO.bind ?_ (fun _ => ?_))
   | exact ih0 _ _
   | exact LeO.none _
   | refine LeO.ite ?_ ?_
   | refine LeO.bind ?_ (fun _ => ?_)
theorem marigraphref1_gcd.mono : ∀ a0 a1 k, LeO (marigraphref1_gcd.f k a0 a1) (marigraphref1_gcd.f (k + 1) a0 a1) := by
 intro a0 a1 k
 have ih0 := marigraphref1_gcd.mono_l k
 unfold marigraphref1_gcd.f
 repeat' first
   | (with_reducible exact ih0 _ _)
   | (with_reducible exact LeO.refl _)
   | (with_reducible exact LeO.none _)
   | (with_reducible refine LeO.ite ?_ ?_)
   | (with_reducible refine LeO.bind ?_ (fun _ => ?_))
   | exact ih0 _ _
   | exact LeO.none _
   | refine LeO.ite ?_ ?_
   | refine LeO.bind ?_ (fun _ => ?_)
set_option maxHeartbeats 8000000 in
set_option maxRecDepth 100000 in
theorem marigraphref1_gcd.calls (k : Nat) (a0 : Int) (a1 : Int) (r : Int) (w : World) (h : marigraphref1_gcd.f k a0 a1 = some r) :
  Calls Try.prog 64 #[.int .i64 a0, .int .i64 a1] w fun e w' => e = .returned (.int .i64 r) ∧ Drawn0 w w' := by
 have H : (marigraphref1_gcd.l0 k a0 a1) = some r := h
 clear h
 have H' := Aside0.mk H
 clear H
 go_enter Try.func64, Try.ntmps64
 go_wp2
 repeat (go_quiet (fail); try go_wp2)
 go_loopg [0, 1] k (fun kq v0 v1 w' => ∃ (x0_1 : Int) (x1_1 : Int), v0 = .int .i64 x0_1 ∧ v1 = .int .i64 x1_1 ∧ Aside0 (marigraphref1_gcd.l0 kq x0_1 x1_1 = some r) ∧ Aside0 (kq ≤ k) ∧ Drawn0 w w')
 case atStart => exact ⟨(a0), (a1), (by first | rfl | (simp; done) | (simp [*]; done)), (by first | rfl | (simp; done) | (simp [*]; done)), H', ⟨Nat.le_refl _⟩, by repeat (first | exact Drawn0.refl _ | apply Drawn0.step)⟩
 case round =>
  clear H'
  try clear p2
  obtain ⟨x0_1, x1_1, rfl, rfl, HA, HK1, ⟨m1, rfl⟩⟩ := hrel
  cases gk with
  | zero => exact absurd HA.out (by simp [marigraphref1_gcd.l0])
  | succ k1 =>
   have H := HA.out
   clear HA
   simp only [marigraphref1_gcd.l0] at H
   by_cases c3 : x1_1 = 0
   ·rw [if_pos c3] at H
    have c3b0 : (x1_1 == 0) = true := beq_iff_eq.mpr c3
    have c3b1 : (x1_1 != 0) = false := bne_eq_false_iff_eq.mpr c3
    clear c3
    obtain rfl := Option.some.inj H
    go_wp2
    repeat (go_quiet (fail); try go_wp2)
    go_ret
    exact ⟨by first | rfl | (simp; done) | (simp [*]; done), by repeat (first | exact Drawn0.refl _ | apply Drawn0.step)⟩
   ·rw [if_neg c3] at H
    have c3b0 : (x1_1 == 0) = false := beq_eq_false_iff_ne.mpr c3
    have c3b1 : (x1_1 != 0) = true := bne_iff_ne.mpr c3
    have H' := Aside0.mk H
    clear H
    go_wp2
    repeat (go_quiet (fail); try go_wp2)
    go_roundg k1
    case measure => have := HK1.out; omega
    case rel => exact ⟨(x1_1), (Int.tmod x0_1 x1_1), (by first | rfl | (simp; done) | (simp [*]; done)), (by first | rfl | (simp; done) | (simp [*]; done)), H', ⟨by have := HK1.out; omega⟩, by repeat (first | exact Drawn0.refl _ | apply Drawn0.step)⟩

/-! ### marigraphref1_abs: function 65 -/
def marigraphref1_abs.f (a0 : Int) : Option (Int) := if a0 < 0 then (some (wrap64 (-a0))) else (some a0)
set_option maxHeartbeats 8000000 in
set_option maxRecDepth 100000 in
theorem marigraphref1_abs.calls (a0 : Int) (r : Int) (w : World) (h : marigraphref1_abs.f a0 = some r) :
    Calls Try.prog 65 #[.int .i64 a0] w fun e w' => e = .returned (.int .i64 r) ∧ Drawn0 w w' := by
  have H : (if a0 < 0 then (some (wrap64 (-a0))) else (some a0)) = some r := h
  clear h
  by_cases c2 : a0 < 0
  · rw [if_pos c2] at H
    have c2b0 : decide (a0 < 0) = true := decide_eq_true c2
    clear c2
    obtain rfl := Option.some.inj H
    go_enter Try.func65, Try.ntmps65
    go_wp2
    go_ret
    exact ⟨by first | rfl | (simp; done) | (simp [*]; done), by repeat (first | exact Drawn0.refl _ | apply Drawn0.step)⟩
  · rw [if_neg c2] at H
    have c2b0 : decide (a0 < 0) = false := decide_eq_false c2
    clear c2
    obtain rfl := Option.some.inj H
    go_enter Try.func65, Try.ntmps65
    go_wp2
    go_ret
    exact ⟨by first | rfl | (simp; done) | (simp [*]; done), by repeat (first | exact Drawn0.refl _ | apply Drawn0.step)⟩

/-! ### marigraphref1_Right: function 49 -/
def marigraphref1_Right.j0 : Nat → Bool → Int → Int → Option (Bool)
 | 0, _, _, _ => none
 | k + 1, x20, x222000, x222001 => if x20 = true then (some false) else ((marigraphref1_abs.f x222000).bind fun t222 => ((marigraphref1_gcd.f k t222 x222001).bind fun t223 => (some (t223 == 1))))
def marigraphref1_Right.f (k : Nat) (a0_0 : Int) (a0_1 : Int) : Option (Bool) := if a0_1 < 1 then (marigraphref1_Right.j0 k true a0_0 a0_1) else (if a0_1 > 2147483647 then (marigraphref1_Right.j0 k true a0_0 a0_1) else (if a0_0 < (-2147483647) then (marigraphref1_Right.j0 k true a0_0 a0_1) else (marigraphref1_Right.j0 k (decide (a0_0 > 2147483647)) a0_0 a0_1)))
theorem marigraphref1_Right.mono_l : ∀ k, (∀ y0 y1 y2, LeO (marigraphref1_Right.j0 k y0 y1 y2) (marigraphref1_Right.j0 (k + 1) y0 y1 y2))
 | 0 => fun _ _ _ r h => by simp [marigraphref1_Right.j0] at h
 | k + 1 => by
  have ih0 := marigraphref1_Right.mono_l k
  ·intro y0 y1 y2
   unfold marigraphref1_Right.j0
   repeat' first
   | (with_reducible exact ih0 _ _ _)
   | (with_reducible exact marigraphref1_gcd.mono _ _ _)
   | (with_reducible exact LeO.refl _)
   | (with_reducible exact LeO.none _)
   | (with_reducible refine LeO.ite ?_ ?_)
   | (with_reducible refine LeO.bind ?_ (fun _ => ?_))
   | exact ih0 _ _ _
   | exact marigraphref1_gcd.mono _ _ _
   | exact LeO.none _
   | refine LeO.ite ?_ ?_
   | refine LeO.bind ?_ (fun _ => ?_)
theorem marigraphref1_Right.mono : ∀ a0 a1 k, LeO (marigraphref1_Right.f k a0 a1) (marigraphref1_Right.f (k + 1) a0 a1) := by
 intro a0 a1 k
 have ih0 := marigraphref1_Right.mono_l k
 unfold marigraphref1_Right.f
 repeat' first
   | (with_reducible exact ih0 _ _ _)
   | (with_reducible exact marigraphref1_gcd.mono _ _ _)
   | (with_reducible exact LeO.refl _)
   | (with_reducible exact LeO.none _)
   | (with_reducible refine LeO.ite ?_ ?_)
   | (with_reducible refine LeO.bind ?_ (fun _ => ?_))
   | exact ih0 _ _ _
   | exact marigraphref1_gcd.mono _ _ _
   | exact LeO.none _
   | refine LeO.ite ?_ ?_
   | refine LeO.bind ?_ (fun _ => ?_)
set_option maxHeartbeats 8000000 in
set_option maxRecDepth 100000 in
theorem marigraphref1_Right.calls (k : Nat) (a0_0 : Int) (a0_1 : Int) (r : Bool) (w : World) (h : marigraphref1_Right.f k a0_0 a0_1 = some r) :
  Calls Try.prog 49 #[.agg #[.int .i64 a0_0, .int .i64 a0_1]] w fun e w' => e = .returned (.bool r) ∧ Below w.heap.size w w' := by
 have hu39 := Try.underlying39
 have HB := Aside0.mk (Below.refl w.heap.size w)
 have H : (if a0_1 < 1 then (marigraphref1_Right.j0 k true a0_0 a0_1) else (if a0_1 > 2147483647 then (marigraphref1_Right.j0 k true a0_0 a0_1) else (if a0_0 < (-2147483647) then (marigraphref1_Right.j0 k true a0_0 a0_1) else (marigraphref1_Right.j0 k (decide (a0_0 > 2147483647)) a0_0 a0_1)))) = some r := h
 clear h
 have HC2 := Aside0.mk H
 clear H
 go_enter Try.func49, Try.ntmps49
 go_upto_region 1 with (first | ((with_reducible refine gate_dst (N := 1) rfl ?_); refine box_event ?hg (N := 1) ?hd (cs := #[.int .i64 a0_0, .int .i64 a0_1]) (t := 39) ?hr ?_; (case hd => rfl); (case hg => rfl); (case hr => first | (go_simp; done) | (go_simp; rfl)); intro gb221 hg w3 hbox hb; have n0_ := Aside0.mk (below_step (belN HB.out) hb); have n1_ := Aside0.mk (hbox); have n2_ := Aside0.mk (szB hg HB.out); have n3_ := Aside0.mk (szB hg HB.out); clear HB; have HB := n0_; have BK221 := n1_; have GW221 := n2_; have GE221 := n3_; clear n0_ n1_ n2_ n3_; clear hb hbox hg))
 repeat (go_quiet (first | ((with_reducible refine gate_dst (N := 1) rfl ?_); refine box_event ?hg (N := 1) ?hd (cs := #[.int .i64 a0_0, .int .i64 a0_1]) (t := 39) ?hr ?_; (case hd => rfl); (case hg => rfl); (case hr => first | (go_simp; done) | (go_simp; rfl)); intro gb221 hg w3 hbox hb; have n0_ := Aside0.mk (below_step (belN HB.out) hb); have n1_ := Aside0.mk (hbox); have n2_ := Aside0.mk (szB hg HB.out); have n3_ := Aside0.mk (szB hg HB.out); clear HB; have HB := n0_; have BK221 := n1_; have GW221 := n2_; have GE221 := n3_; clear n0_ n1_ n2_ n3_; clear hb hbox hg)); go_upto_region 1 with (first | ((with_reducible refine gate_dst (N := 1) rfl ?_); refine box_event ?hg (N := 1) ?hd (cs := #[.int .i64 a0_0, .int .i64 a0_1]) (t := 39) ?hr ?_; (case hd => rfl); (case hg => rfl); (case hr => first | (go_simp; done) | (go_simp; rfl)); intro gb221 hg w3 hbox hb; have n0_ := Aside0.mk (below_step (belN HB.out) hb); have n1_ := Aside0.mk (hbox); have n2_ := Aside0.mk (szB hg HB.out); have n3_ := Aside0.mk (szB hg HB.out); clear HB; have HB := n0_; have BK221 := n1_; have GW221 := n2_; have GE221 := n3_; clear n0_ n1_ n2_ n3_; clear hb hbox hg)))
 (try simp only [Act.put, List.setIfInBounds_toArray, List.set_cons_zero, List.set_cons_succ])
 go_cut [20] (fun v20 wc => ∃ (kq : Nat) (x20_1 : Bool), v20 = .bool x20_1 ∧ Aside0 (marigraphref1_Right.j0 kq x20_1 a0_0 a0_1 = some r) ∧ Aside0 (kq ≤ k) ∧ Aside0 (wc.heap[gb221]? = some (.cells #[.int .i64 a0_0, .int .i64 a0_1] 39 (0, 0))) ∧ Aside0 (Below w.heap.size w wc))
 case first =>
  have H := HC2.out
  clear HC2
  by_cases c4 : a0_1 < 1
  ·rw [if_pos c4] at H
   have c4b0 : decide (a0_1 < 1) = true := decide_eq_true c4
   clear c4
   (first | rw [c4b0] | rw [c4b1] | (simp only [i64_w, i32_w]; rw [c4b0]) | skip)
   have H' := Aside0.mk H
   clear H
   have hcz5_0 : w3.cell? ⟨gb221, 0, none⟩ = some (.int .i64 a0_0) := (blk_cell BK221.out 0).trans rfl
   have hcz5_1 : w3.cell? ⟨gb221, 1, none⟩ = some (.int .i64 a0_1) := (blk_cell BK221.out 1).trans rfl
   have hfz5_0 := blk_frozen BK221.out 0
   have hfz5_1 := blk_frozen BK221.out 1
   go_wp2
   repeat (go_quiet (fail); try go_wp2)
   go_meet
   case rel => exact ⟨_, (true), (by first | rfl | (simp; done) | (simp [*]; done)), H', ⟨by first | omega | exact Nat.le_refl _⟩, ⟨blkN BK221.out⟩, ⟨(belS HB.out)⟩⟩
  ·rw [if_neg c4] at H
   have c4b0 : decide (a0_1 < 1) = false := decide_eq_false c4
   clear c4
   (first | rw [c4b0] | rw [c4b1] | (simp only [i64_w, i32_w]; rw [c4b0]) | skip)
   by_cases c6 : a0_1 > 2147483647
   ·rw [if_pos c6] at H
    have c6b0 : decide (2147483647 < a0_1) = true := decide_eq_true c6
    clear c6
    have H' := Aside0.mk H
    clear H
    have hcz7_0 : w3.cell? ⟨gb221, 0, none⟩ = some (.int .i64 a0_0) := (blk_cell BK221.out 0).trans rfl
    have hcz7_1 : w3.cell? ⟨gb221, 1, none⟩ = some (.int .i64 a0_1) := (blk_cell BK221.out 1).trans rfl
    have hfz7_0 := blk_frozen BK221.out 0
    have hfz7_1 := blk_frozen BK221.out 1
    go_wp2
    repeat (go_quiet (fail); try go_wp2)
    go_meet
    case rel => exact ⟨_, (true), (by first | rfl | (simp; done) | (simp [*]; done)), H', ⟨by first | omega | exact Nat.le_refl _⟩, ⟨blkN BK221.out⟩, ⟨(belS HB.out)⟩⟩
   ·rw [if_neg c6] at H
    have c6b0 : decide (2147483647 < a0_1) = false := decide_eq_false c6
    clear c6
    by_cases c8 : a0_0 < (-2147483647)
    ·rw [if_pos c8] at H
     have c8b0 : decide (a0_0 < (-2147483647)) = true := decide_eq_true c8
     clear c8
     have H' := Aside0.mk H
     clear H
     have hcz9_0 : w3.cell? ⟨gb221, 0, none⟩ = some (.int .i64 a0_0) := (blk_cell BK221.out 0).trans rfl
     have hcz9_1 : w3.cell? ⟨gb221, 1, none⟩ = some (.int .i64 a0_1) := (blk_cell BK221.out 1).trans rfl
     have hfz9_0 := blk_frozen BK221.out 0
     have hfz9_1 := blk_frozen BK221.out 1
     go_wp2
     repeat (go_quiet (fail); try go_wp2)
     go_meet
     case rel => exact ⟨_, (true), (by first | rfl | (simp; done) | (simp [*]; done)), H', ⟨by first | omega | exact Nat.le_refl _⟩, ⟨blkN BK221.out⟩, ⟨(belS HB.out)⟩⟩
    ·rw [if_neg c8] at H
     have c8b0 : decide (a0_0 < (-2147483647)) = false := decide_eq_false c8
     clear c8
     have H' := Aside0.mk H
     clear H
     have hcz10_0 : w3.cell? ⟨gb221, 0, none⟩ = some (.int .i64 a0_0) := (blk_cell BK221.out 0).trans rfl
     have hcz10_1 : w3.cell? ⟨gb221, 1, none⟩ = some (.int .i64 a0_1) := (blk_cell BK221.out 1).trans rfl
     have hfz10_0 := blk_frozen BK221.out 0
     have hfz10_1 := blk_frozen BK221.out 1
     go_wp2
     repeat (go_quiet (fail); try go_wp2)
     go_meet
     case rel => exact ⟨_, (decide (a0_0 > 2147483647)), (by first | rfl | (simp; done) | (simp [*]; done)), H', ⟨by first | omega | exact Nat.le_refl _⟩, ⟨blkN BK221.out⟩, ⟨(belS HB.out)⟩⟩
 case rest =>
  clear HC2
  try clear p2
  try clear c4
  try clear c4b0
  try clear c6
  try clear c6b0
  try clear c8
  try clear c8b0
  try clear hcz10_0
  try clear hcz10_1
  try clear hcz5_0
  try clear hcz5_1
  try clear hcz7_0
  try clear hcz7_1
  try clear hcz9_0
  try clear hcz9_1
  try clear hfz10_0
  try clear hfz10_1
  try clear hfz5_0
  try clear hfz5_1
  try clear hfz7_0
  try clear hfz7_1
  try clear hfz9_0
  try clear hfz9_1
  obtain ⟨kq, x20_1, rfl, HA, HJ1, BK221, HB⟩ := hcut
  cases kq with
  | zero => exact absurd HA.out (by simp [marigraphref1_Right.j0])
  | succ kj1 =>
   have H := HA.out
   clear HA
   simp only [marigraphref1_Right.j0] at H
   by_cases c11 : x20_1 = true
   ·subst c11
    have H1 : (some false) = some r := by rw [if_pos rfl] at H; exact H
    clear H
    have H := H1
    clear H1
    obtain rfl := Option.some.inj H
    go_wp2
    repeat (go_quiet (fail); try go_wp2)
    go_ret
    exact ⟨by first | rfl | (simp [errW_none, errW_some] <;> rfl) | (simp [*, errW_none, errW_some] <;> rfl), (belS HB.out)⟩
   ·replace c11 := Bool.eq_false_iff.mpr c11
    subst c11
    have H1 : ((marigraphref1_abs.f a0_0).bind fun t222 => ((marigraphref1_gcd.f kj1 t222 a0_1).bind fun t223 => (some (t223 == 1)))) = some r := by rw [if_neg (show ¬ (false = true) by decide)] at H; exact H
    clear H
    have H := H1
    clear H1
    replace H := Option.bind_eq_some_iff.mp H
    obtain ⟨t222, A120, H⟩ := H
    replace H : ((marigraphref1_gcd.f kj1 t222 a0_1).bind fun t223 => (some (t223 == 1))) = some r := H
    have A12 := Aside0.mk A120
    clear A120
    replace H := Option.bind_eq_some_iff.mp H
    obtain ⟨t223, A130, H⟩ := H
    replace H : (some (t223 == 1)) = some r := H
    have A13 := Aside0.mk A130
    clear A130
    obtain rfl := Option.some.inj H
    have hcz14_0 : wc.cell? ⟨gb221, 0, none⟩ = some (.int .i64 a0_0) := (blk_cell BK221.out 0).trans rfl
    have hcz14_1 : wc.cell? ⟨gb221, 1, none⟩ = some (.int .i64 a0_1) := (blk_cell BK221.out 1).trans rfl
    have hfz14_0 := blk_frozen BK221.out 0
    have hfz14_1 := blk_frozen BK221.out 1
    go_wp2_with (first | (go_at_call 65; (with_reducible refine (marigraphref1_abs.calls a0_0 t222 _ A12.out).mono ?_); rintro e w' ⟨rfl, ⟨nd, rfl⟩⟩; (try first | exact ⟨rfl, _, World.drewN_drewN _ _ _⟩ | exact ⟨rfl, _, Eq.trans (World.drewN_drewN _ _ _) (congrArg (World.drewN _) (Nat.add_assoc _ _ _))⟩)) | (go_at_call 64; (with_reducible refine (marigraphref1_gcd.calls kj1 t222 a0_1 t223 _ A13.out).mono ?_); rintro e w' ⟨rfl, ⟨nd, rfl⟩⟩; (try first | exact ⟨rfl, _, World.drewN_drewN _ _ _⟩ | exact ⟨rfl, _, Eq.trans (World.drewN_drewN _ _ _) (congrArg (World.drewN _) (Nat.add_assoc _ _ _))⟩)))
    repeat (go_quiet (first | (go_at_call 65; (with_reducible refine (marigraphref1_abs.calls a0_0 t222 _ A12.out).mono ?_); rintro e w' ⟨rfl, ⟨nd, rfl⟩⟩; (try first | exact ⟨rfl, _, World.drewN_drewN _ _ _⟩ | exact ⟨rfl, _, Eq.trans (World.drewN_drewN _ _ _) (congrArg (World.drewN _) (Nat.add_assoc _ _ _))⟩)) | (go_at_call 64; (with_reducible refine (marigraphref1_gcd.calls kj1 t222 a0_1 t223 _ A13.out).mono ?_); rintro e w' ⟨rfl, ⟨nd, rfl⟩⟩; (try first | exact ⟨rfl, _, World.drewN_drewN _ _ _⟩ | exact ⟨rfl, _, Eq.trans (World.drewN_drewN _ _ _) (congrArg (World.drewN _) (Nat.add_assoc _ _ _))⟩))); try go_wp2_with (first | (go_at_call 65; (with_reducible refine (marigraphref1_abs.calls a0_0 t222 _ A12.out).mono ?_); rintro e w' ⟨rfl, ⟨nd, rfl⟩⟩; (try first | exact ⟨rfl, _, World.drewN_drewN _ _ _⟩ | exact ⟨rfl, _, Eq.trans (World.drewN_drewN _ _ _) (congrArg (World.drewN _) (Nat.add_assoc _ _ _))⟩)) | (go_at_call 64; (with_reducible refine (marigraphref1_gcd.calls kj1 t222 a0_1 t223 _ A13.out).mono ?_); rintro e w' ⟨rfl, ⟨nd, rfl⟩⟩; (try first | exact ⟨rfl, _, World.drewN_drewN _ _ _⟩ | exact ⟨rfl, _, Eq.trans (World.drewN_drewN _ _ _) (congrArg (World.drewN _) (Nat.add_assoc _ _ _))⟩))))
    go_ret
    exact ⟨by first | rfl | (simp [errW_none, errW_some] <;> rfl) | (simp [*, errW_none, errW_some] <;> rfl), (belS HB.out)⟩

/-! ### marigraphref1_parts: function 66 -/
def marigraphref1_parts.f (a0 : Int) : Option (Bool × Int) := if a0 < 0 then (some (true, IntKind.u64.wrap (-(IntKind.u64.wrap (a0))))) else (some (false, IntKind.u64.wrap (a0)))
set_option maxHeartbeats 8000000 in
set_option maxRecDepth 100000 in
theorem marigraphref1_parts.calls (a0 : Int) (r1 : Bool) (r2 : Int) (w : World) (h : marigraphref1_parts.f a0 = some (r1, r2)) :
    Calls Try.prog 66 #[.int .i64 a0] w fun e w' => e = .returned (.tuple #[.bool r1, .int .u64 r2]) ∧ Drawn0 w w' := by
  have H : (if a0 < 0 then (some (true, IntKind.u64.wrap (-(IntKind.u64.wrap (a0))))) else (some (false, IntKind.u64.wrap (a0)))) = some (r1, r2) := h
  clear h
  by_cases c2 : a0 < 0
  · rw [if_pos c2] at H
    have c2b0 : decide (a0 < 0) = true := decide_eq_true c2
    clear c2
    simp only [Option.some.injEq, Prod.mk.injEq] at H
    obtain ⟨rfl, rfl⟩ := H
    go_enter Try.func66, Try.ntmps66
    go_wp2
    go_ret2
    exact ⟨by first | rfl | (simp; done) | (simp [*]; done), by repeat (first | exact Drawn0.refl _ | apply Drawn0.step)⟩
  · rw [if_neg c2] at H
    have c2b0 : decide (a0 < 0) = false := decide_eq_false c2
    clear c2
    simp only [Option.some.injEq, Prod.mk.injEq] at H
    obtain ⟨rfl, rfl⟩ := H
    go_enter Try.func66, Try.ntmps66
    go_wp2
    go_ret2
    exact ⟨by first | rfl | (simp; done) | (simp [*]; done), by repeat (first | exact Drawn0.refl _ | apply Drawn0.step)⟩

end Go.Proofs.Ytjlbgbiceafdjaa.PLerpNumbers

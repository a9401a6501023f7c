/- The walk of the Go functions that a law reaches, told as plain functions; a program of this session has written it. No condition beyond the statement's own. -/
import Derived.Test.YtmimfnangdabmaaPMergeJoinsx0
import Derived.Test.YtmimfnangdabmaaPMergeJoinsx1
import Derived.Test.YtmimfnangdabmaaPMergeJoinsx3
import Derived.Test.YtmimfnangdabmaaPMergeJoinsx4
import Derived.Test.YtmimfnangdabmaaPMergeJoinsx5
import Derived.Test.YtmimfnangdabmaaPMergeJoinsx6
namespace Go.Proofs.Ytmimfnangdabmaa.PMergeJoins
open Go.RowKit Go.Proofs.YtmimfnangdabmaaW.PrintWords Go.Proofs.YtmimfnangdabmaaW.PrintLast Go.Proofs.YtmimfnangdabmaaW.PrintMore
attribute [local go_sem] max2_int min2_int max_two min_two max_three min_three max_four min_four   -- for this text's walks alone
set_option linter.unusedVariables false
set_option linter.unusedSimpArgs false

/-! ### marigraphlaw9_MergeJoins: function 5 -/
mutual
def marigraphlaw9_MergeJoins.j0 : Nat → List (List (S49)) → Int → Option (Bool)
 | 0, _, _ => none
 | k + 1, x5, x6 => (merge_Join.f x5).bind fun t237 => (if 0 ≤ x6 then (if x6 ≤ (x5.length : Int) then ((merge_Join.f (x5.take (x6 : Int).toNat)).bind fun t245 => ((merge_Join.f (x5.drop (x6 : Int).toNat)).bind fun t253 => ((merge_Join.f (([t245, t253] : List (List (S49))))).bind fun t259 => ((merge_Same.f k t259 t237).bind fun t262 => (if t262 = true then ((marigraphlaw9_right.f k t237).bind fun t263 => (if t263 = true then ((merge_Join.f (([t237, t237] : List (List (S49))))).bind fun t267 => ((merge_Same.f k t267 t237).bind fun t270 => (marigraphlaw9_MergeJoins.j1 k x5 t237 (!t270)))) else (marigraphlaw9_MergeJoins.j1 k x5 t237 true))) else (marigraphlaw9_MergeJoins.j1 k x5 t237 true)))))) else (none)) else (none))
def marigraphlaw9_MergeJoins.j1 : Nat → List (List (S49)) → List (S49) → Bool → Option (Bool)
 | 0, _, _, _ => none
 | k + 1, x5, x7, x58 => if x58 = true then (some false) else (marigraphlaw9_MergeJoins.l0 k x5 x7 0)
def marigraphlaw9_MergeJoins.l0 : Nat → List (List (S49)) → List (S49) → Int → Option (Bool)
 | 0, _, _, _ => none
 | k + 1, x5, x7, x8 => if x8 < (x5.length : Int) then (marigraphlaw9_MergeJoins.l1 k x5 x7 x8 0) else ((marigraphlaw9_known.f k).bind fun t271 => (some t271))
def marigraphlaw9_MergeJoins.l1 : Nat → List (List (S49)) → List (S49) → Int → Int → Option (Bool)
 | 0, _, _, _, _ => none
 | k + 1, x5, x7, x8, x9 => if 0 ≤ x8 then (if x8 < (x5.length : Int) then (if x9 < ((rd_L4 x5 x8).length : Int) then (marigraphlaw9_MergeJoins.l2 k x5 x7 x8 x9 false 0) else (marigraphlaw9_MergeJoins.l0 k x5 x7 (wrap64 (x8 + 1)))) else (none)) else (none)
def marigraphlaw9_MergeJoins.l2 : Nat → List (List (S49)) → List (S49) → Int → Int → Bool → Int → Option (Bool)
 | 0, _, _, _, _, _, _ => none
 | k + 1, x5, x7, x8, x9, x10, x11 => if x11 < (x7.length : Int) then (if x10 = true then (marigraphlaw9_MergeJoins.l2 k x5 x7 x8 x9 true (wrap64 (x11 + 1))) else (if 0 ≤ x11 then (if 0 ≤ x8 then (if x8 < (x5.length : Int) then (if 0 ≤ x9 then (if x9 < ((rd_L4 x5 x8).length : Int) then (marigraphlaw9_MergeJoins.l2 k x5 x7 x8 x9 ((strOfNums ((rd_T49 x7 x11).f0)).toList == (strOfNums ((rd_T49 (rd_L4 x5 x8) x9).f0)).toList) (wrap64 (x11 + 1))) else (none)) else (none)) else (none)) else (none)) else (none))) else (if x10 = true then (marigraphlaw9_MergeJoins.l1 k x5 x7 x8 (wrap64 (x9 + 1))) else (some false))
end
def marigraphlaw9_MergeJoins.f (k : Nat) (l0 : List (List (S49))) (a1 : Int) : Option (Bool) := (marigraphlaw9_rows.f k l0 6).bind fun t234 => (if (t234.length : Int) > 0 then (if (wrap64 ((t234.length : Int) + 1)) = 0 then (none) else (marigraphlaw9_MergeJoins.j0 k t234 (Int.tmod (wrap64 ((wrap64 ((Int.tmod a1 (wrap64 ((t234.length : Int) + 1))) + (t234.length : Int))) + 1)) (wrap64 ((t234.length : Int) + 1))))) else (marigraphlaw9_MergeJoins.j0 k t234 0))
theorem marigraphlaw9_MergeJoins.mono_l : ∀ k, (∀ y0 y1, LeO (marigraphlaw9_MergeJoins.j0 k y0 y1) (marigraphlaw9_MergeJoins.j0 (k + 1) y0 y1)) ∧ (∀ y0 y1 y2, LeO (marigraphlaw9_MergeJoins.j1 k y0 y1 y2) (marigraphlaw9_MergeJoins.j1 (k + 1) y0 y1 y2)) ∧ (∀ y0 y1 y2, LeO (marigraphlaw9_MergeJoins.l0 k y0 y1 y2) (marigraphlaw9_MergeJoins.l0 (k + 1) y0 y1 y2)) ∧ (∀ y0 y1 y2 y3, LeO (marigraphlaw9_MergeJoins.l1 k y0 y1 y2 y3) (marigraphlaw9_MergeJoins.l1 (k + 1) y0 y1 y2 y3)) ∧ (∀ y0 y1 y2 y3 y4 y5, LeO (marigraphlaw9_MergeJoins.l2 k y0 y1 y2 y3 y4 y5) (marigraphlaw9_MergeJoins.l2 (k + 1) y0 y1 y2 y3 y4 y5))
 | 0 => ⟨fun _ _ r h => by simp [marigraphlaw9_MergeJoins.j0] at h, fun _ _ _ r h => by simp [marigraphlaw9_MergeJoins.j1] at h, fun _ _ _ r h => by simp [marigraphlaw9_MergeJoins.l0] at h, fun _ _ _ _ r h => by simp [marigraphlaw9_MergeJoins.l1] at h, fun _ _ _ _ _ _ r h => by simp [marigraphlaw9_MergeJoins.l2] at h⟩
 | k + 1 => by
  obtain ⟨ih0, ih1, ih2, ih3, ih4⟩ := marigraphlaw9_MergeJoins.mono_l k
  refine ⟨?_, ?_, ?_, ?_, ?_⟩
  ·intro y0 y1
   unfold marigraphlaw9_MergeJoins.j0
   repeat' first
   | (with_reducible exact ih0 _ _)
   | (with_reducible exact ih1 _ _ _)
   | (with_reducible exact ih2 _ _ _)
   | (with_reducible exact ih3 _ _ _ _)
   | (with_reducible exact ih4 _ _ _ _ _ _)
   | (with_reducible exact marigraphlaw9_known.mono _)
   | (with_reducible exact marigraphlaw9_right.mono _ _)
   | (with_reducible exact marigraphlaw9_rows.mono _ _ _)
   | (with_reducible exact merge_Same.mono _ _ _)
   | (with_reducible exact LeO.refl _)
   | (with_reducible exact LeO.none _)
   | (with_reducible refine LeO.ite ?_ ?_)
   | (with_reducible refine LeO.bind ?_ (fun _ => ?_))
   | exact ih0 _ _
   | exact ih1 _ _ _
   | exact ih2 _ _ _
   | exact ih3 _ _ _ _
   | exact ih4 _ _ _ _ _ _
   | exact marigraphlaw9_known.mono _
   | exact marigraphlaw9_right.mono _ _
   | exact marigraphlaw9_rows.mono _ _ _
   | exact merge_Same.mono _ _ _
   | exact LeO.none _
   | refine LeO.ite ?_ ?_
   | refine LeO.bind ?_ (fun _ => ?_)
  ·intro y0 y1 y2
   unfold marigraphlaw9_MergeJoins.j1
   repeat' first
   | (with_reducible exact ih0 _ _)
   | (with_reducible exact ih1 _ _ _)
   | (with_reducible exact ih2 _ _ _)
   | (with_reducible exact ih3 _ _ _ _)
   | (with_reducible exact ih4 _ _ _ _ _ _)
   | (with_reducible exact marigraphlaw9_known.mono _)
   | (with_reducible exact marigraphlaw9_right.mono _ _)
   | (with_reducible exact marigraphlaw9_rows.mono _ _ _)
   | (with_reducible exact merge_Same.mono _ _ _)
   | (with_reducible exact LeO.refl _)
   | (with_reducible exact LeO.none _)
   | (with_reducible refine LeO.ite ?_ ?_)
   | (with_reducible refine LeO.bind ?_ (fun _ => ?_))
   | exact ih0 _ _
   | exact ih1 _ _ _
   | exact ih2 _ _ _
   | exact ih3 _ _ _ _
   | exact ih4 _ _ _ _ _ _
   | exact marigraphlaw9_known.mono _
   | exact marigraphlaw9_right.mono _ _
   | exact marigraphlaw9_rows.mono _ _ _
   | exact merge_Same.mono _ _ _
   | exact LeO.none _
   | refine LeO.ite ?_ ?_
   | refine LeO.bind ?_ (fun _ => ?_)
  ·intro y0 y1 y2
   unfold marigraphlaw9_MergeJoins.l0
   repeat' first
   | (with_reducible exact ih0 _ _)
   | (with_reducible exact ih1 _ _ _)
   | (with_reducible exact ih2 _ _ _)
   | (with_reducible exact ih3 _ _ _ _)
   | (with_reducible exact ih4 _ _ _ _ _ _)
   | (with_reducible exact marigraphlaw9_known.mono _)
   | (with_reducible exact marigraphlaw9_right.mono _ _)
   | (with_reducible exact marigraphlaw9_rows.mono _ _ _)
   | (with_reducible exact merge_Same.mono _ _ _)
   | (with_reducible exact LeO.refl _)
   | (with_reducible exact LeO.none _)
   | (with_reducible refine LeO.ite ?_ ?_)
   | (with_reducible refine LeO.bind ?_ (fun _ => ?_))
   | exact ih0 _ _
   | exact ih1 _ _ _
   | exact ih2 _ _ _
   | exact ih3 _ _ _ _
   | exact ih4 _ _ _ _ _ _
   | exact marigraphlaw9_known.mono _
   | exact marigraphlaw9_right.mono _ _
   | exact marigraphlaw9_rows.mono _ _ _
   | exact merge_Same.mono _ _ _
   | exact LeO.none _
   | refine LeO.ite ?_ ?_
   | refine LeO.bind ?_ (fun _ => ?_)
  ·intro y0 y1 y2 y3
   unfold marigraphlaw9_MergeJoins.l1
   repeat' first
   | (with_reducible exact ih0 _ _)
   | (with_reducible exact ih1 _ _ _)
   | (with_reducible exact ih2 _ _ _)
   | (with_reducible exact ih3 _ _ _ _)
   | (with_reducible exact ih4 _ _ _ _ _ _)
   | (with_reducible exact marigraphlaw9_known.mono _)
   | (with_reducible exact marigraphlaw9_right.mono _ _)
   | (with_reducible exact marigraphlaw9_rows.mono _ _ _)
   | (with_reducible exact merge_Same.mono _ _ _)
   | (with_reducible exact LeO.refl _)
   | (with_reducible exact LeO.none _)
   | (with_reducible refine LeO.ite ?_ ?_)
   | (with_reducible refine LeO.bind ?_ (fun _ => ?_))
   | exact ih0 _ _
   | exact ih1 _ _ _
   | exact ih2 _ _ _
   | exact ih3 _ _ _ _
   | exact ih4 _ _ _ _ _ _
   | exact marigraphlaw9_known.mono _
   | exact marigraphlaw9_right.mono _ _
   | exact marigraphlaw9_rows.mono _ _ _
   | exact merge_Same.mono _ _ _
   | exact LeO.none _
   | refine LeO.ite ?_ ?_
   | refine LeO.bind ?_ (fun _ => ?_)
  ·intro y0 y1 y2 y3 y4 y5
   unfold marigraphlaw9_MergeJoins.l2
   repeat' first
   | (with_reducible exact ih0 _ _)
   | (with_reducible exact ih1 _ _ _)
   | (with_reducible exact ih2 _ _ _)
   | (with_reducible exact ih3 _ _ _ _)
   | (with_reducible exact ih4 _ _ _ _ _ _)
   | (with_reducible exact marigraphlaw9_known.mono _)
   | (with_reducible exact marigraphlaw9_right.mono _ _)
   | (with_reducible exact marigraphlaw9_rows.mono _ _ _)
   | (with_reducible exact merge_Same.mono _ _ _)
   | (with_reducible exact LeO.refl _)
   | (with_reducible exact LeO.none _)
   | (with_reducible refine LeO.ite ?_ ?_)
   | (with_reducible refine LeO.bind ?_ (fun _ => ?_))
   | exact ih0 _ _
   | exact ih1 _ _ _
   | exact ih2 _ _ _
   | exact ih3 _ _ _ _
   | exact ih4 _ _ _ _ _ _
   | exact marigraphlaw9_known.mono _
   | exact marigraphlaw9_right.mono _ _
   | exact marigraphlaw9_rows.mono _ _ _
   | exact merge_Same.mono _ _ _
   | exact LeO.none _
   | refine LeO.ite ?_ ?_
   | refine LeO.bind ?_ (fun _ => ?_)
theorem marigraphlaw9_MergeJoins.mono : ∀ a0 a1 k, LeO (marigraphlaw9_MergeJoins.f k a0 a1) (marigraphlaw9_MergeJoins.f (k + 1) a0 a1) := by
 intro a0 a1 k
 obtain ⟨ih0, ih1, ih2, ih3, ih4⟩ := marigraphlaw9_MergeJoins.mono_l k
 unfold marigraphlaw9_MergeJoins.f
 repeat' first
   | (with_reducible exact ih0 _ _)
   | (with_reducible exact ih1 _ _ _)
   | (with_reducible exact ih2 _ _ _)
   | (with_reducible exact ih3 _ _ _ _)
   | (with_reducible exact ih4 _ _ _ _ _ _)
   | (with_reducible exact marigraphlaw9_known.mono _)
   | (with_reducible exact marigraphlaw9_right.mono _ _)
   | (with_reducible exact marigraphlaw9_rows.mono _ _ _)
   | (with_reducible exact merge_Same.mono _ _ _)
   | (with_reducible exact LeO.refl _)
   | (with_reducible exact LeO.none _)
   | (with_reducible refine LeO.ite ?_ ?_)
   | (with_reducible refine LeO.bind ?_ (fun _ => ?_))
   | exact ih0 _ _
   | exact ih1 _ _ _
   | exact ih2 _ _ _
   | exact ih3 _ _ _ _
   | exact ih4 _ _ _ _ _ _
   | exact marigraphlaw9_known.mono _
   | exact marigraphlaw9_right.mono _ _
   | exact marigraphlaw9_rows.mono _ _ _
   | exact merge_Same.mono _ _ _
   | exact LeO.none _
   | refine LeO.ite ?_ ?_
   | refine LeO.bind ?_ (fun _ => ?_)
def marigraphlaw9_MergeJoins.T6 : Bool × List (List Nat × List Nat) := (true, [([], []), ([], []), ([0, 1], [0, 1]), ([2], [2]), ([], []), ([], []), ([4, 5], [4, 5]), ([6, 3], [6]), ([3, 7], [3, 7]), ([8, 7], [8]), ([], []), ([9, 10, 9], [9, 10]), ([11], [11]), ([12, 11], [12]), ([13], [13]), ([14, 13, 13], [13, 14]), ([15, 13], [13, 15]), ([13, 16], [13, 16]), ([17, 15], [17]), ([18], [18]), ([18], [18]), ([19, 20, 18], [18, 19, 20]), ([21, 18, 18], [18, 21]), ([18], [18]), ([22, 23, 22, 18], [18, 22, 23]), ([24, 18], [18, 24]), ([18, 25], [18, 25])])
def marigraphlaw9_MergeJoins.B6 : List Nat := [0, 0, 3, 7, 0, 0, 48, 127, 255, 511, 0, 2047, 4095, 8191, 16383, 32767, 65535, 131071, 262143, 524287, 524287, 2097151, 4194303, 524287, 16777215, 33554431, 67108863]
theorem marigraphlaw9_MergeJoins.tab6 : rtab .any (opsOf Try.f5 6) = marigraphlaw9_MergeJoins.T6 := by kernel_rfl
theorem marigraphlaw9_MergeJoins.bits6 : waitsOk marigraphlaw9_MergeJoins.T6.2 marigraphlaw9_MergeJoins.B6 = true := by kernel_rfl
def marigraphlaw9_MergeJoins.T18 : Bool × List (List Nat × List Nat) := (true, [([], []), ([0], [0]), ([1], [1]), ([1], [1]), ([2, 3, 1], [1, 2, 3]), ([4, 1], [1, 4]), ([5, 1], [1, 5]), ([6, 1], [1, 6]), ([1], [1]), ([1], [1]), ([8, 9, 1], [1, 8, 9]), ([10, 1], [1, 10]), ([1], [1]), ([11, 12, 1], [1, 11, 12]), ([13, 1], [1, 13]), ([14, 1], [1, 14]), ([15, 1], [1, 15]), ([7, 16, 1], [1, 7, 16]), ([1, 17], [1, 17]), ([18, 1, 0, 1, 2, 3, 4, 5, 6, 7, 8, 9, 10, 11, 12, 13, 14, 15, 16, 17, 18], [0, 18])])
def marigraphlaw9_MergeJoins.B18 : List Nat := [0, 1, 3, 3, 15, 31, 63, 127, 3, 3, 771, 1795, 3, 7939, 16131, 32515, 65283, 131071, 262143, 524287]
theorem marigraphlaw9_MergeJoins.tab18 : rtab .any (opsOf Try.f5 18) = marigraphlaw9_MergeJoins.T18 := by kernel_rfl
theorem marigraphlaw9_MergeJoins.bits18 : waitsOk marigraphlaw9_MergeJoins.T18.2 marigraphlaw9_MergeJoins.B18 = true := by kernel_rfl
set_option maxHeartbeats 8000000 in
set_option maxRecDepth 100000 in
theorem marigraphlaw9_MergeJoins.calls (k : Nat) (A0 : Option Addr) (c0 : Nat) (l0 : List (List (S49))) (a1 : Int) (r : Bool) (w : World) (hr0 : Kd.C (Kd.slice 49 k49) w A0 l0.length l0) (hc0 : l0.length ≤ c0) (h : marigraphlaw9_MergeJoins.f k l0 a1 = some r) :
  Calls Try.prog 5 #[.slice A0 l0.length c0, .int .i64 a1] w fun e w' => e = .returned (.bool r) ∧ Below w.heap.size w w' := by
 have HR0 := Aside0.mk hr0
 have HC0 := Aside0.mk hc0
 clear hr0 hc0
 have HB := Aside0.mk (Below.refl w.heap.size w)
 have H : ((marigraphlaw9_rows.f k l0 6).bind fun t234 => (if (t234.length : Int) > 0 then (if (wrap64 ((t234.length : Int) + 1)) = 0 then (none) else (marigraphlaw9_MergeJoins.j0 k t234 (Int.tmod (wrap64 ((wrap64 ((Int.tmod a1 (wrap64 ((t234.length : Int) + 1))) + (t234.length : Int))) + 1)) (wrap64 ((t234.length : Int) + 1))))) else (marigraphlaw9_MergeJoins.j0 k t234 0))) = some r := h
 clear h
 replace H := Option.bind_eq_some_iff.mp H
 obtain ⟨t234, A30, H⟩ := H
 replace H : (if (t234.length : Int) > 0 then (if (wrap64 ((t234.length : Int) + 1)) = 0 then (none) else (marigraphlaw9_MergeJoins.j0 k t234 (Int.tmod (wrap64 ((wrap64 ((Int.tmod a1 (wrap64 ((t234.length : Int) + 1))) + (t234.length : Int))) + 1)) (wrap64 ((t234.length : Int) + 1))))) else (marigraphlaw9_MergeJoins.j0 k t234 0)) = some r := H
 have A3 := Aside0.mk A30
 clear A30
 have HC4 := Aside0.mk H
 clear H
 go_enter Try.func5, Try.ntmps5
 go_upto_if 16 with (first | ((with_reducible refine gate_callee (f := 25) rfl ?_); refine goesL_ (some 13) rfl rfl Try.func25 (by kernel_rfl) rfl #[.slice A0 l0.length c0, .int .i64 6] rfl argN ?_; (with_reducible refine (marigraphlaw9_rows.calls k (fun k_ => k_ < w.heap.size) _ _ l0 6 t234 _ ?side1 A3.out).mono ?_); (case side1 => exact Kd.V_mk HC0.out (Kd.F_below (Kd.C_F (Kd.heap_slice 49 k49_heap) HR0.out) (belN HB.out))); rintro e w5 ⟨v235, rfl, ho0, hb⟩; refine ⟨_, rfl, ?_⟩; have n0_ := Aside0.mk (Kd.N_lower (Kd.N_mono (ok' := fun k_ => True) ho0 (fun k_ hk_ => trivial)) (below_size (belN HB.out))); have n1_ := Aside0.mk (below_step (belN HB.out) hb); clear HB; have HO236 := n0_; have HB := n1_; clear n0_ n1_; (try clear hb); (try clear hk); (try clear ho0); obtain ⟨Ao6, co6, eo6⟩ := Kd.N_slice HO236.out; subst eo6))
 (try simp only [Act.put, List.setIfInBounds_toArray, List.set_cons_zero, List.set_cons_succ])
 go_cut [6] (fun v6 wc => ∃ (kq : Nat) (x6_3 : Int), v6 = .int .i64 x6_3 ∧ Aside0 (marigraphlaw9_MergeJoins.j0 kq t234 x6_3 = some r) ∧ Aside0 (kq ≤ k) ∧ Aside0 (Kd.N (Kd.slice 49 k49) 37 wc w.heap.size (fun _ => True) (.slice Ao6 t234.length co6) t234) ∧ Aside0 (Below w.heap.size w wc))
 case first =>
  have H := HC4.out
  clear HC4
  by_cases c7 : (t234.length : Int) > 0
  ·rw [if_pos c7] at H
   have c7b0 : decide (0 < (t234.length : Int)) = true := decide_eq_true c7
   have c7b1 : decide (0 < t234.length) = true := decide_eq_true (by omega)
   clear c7
   (first | rw [c7b0] | rw [c7b1] | (simp only [i64_w, i32_w]; rw [c7b0]) | skip)
   by_cases c8 : (wrap64 ((t234.length : Int) + 1)) = 0
   ·rw [if_pos c8] at H
    exact absurd H (by simp)
   ·rw [if_neg c8] at H
    have c8b0 : ((wrap64 ((t234.length : Int) + 1)) == 0) = false := beq_eq_false_iff_ne.mpr c8
    have c8b1 : ((wrap64 ((t234.length : Int) + 1)) != 0) = true := bne_iff_ne.mpr c8
    have H' := Aside0.mk H
    clear H
    go_wp2
    go_meet
    case rel => exact ⟨_, (Int.tmod (wrap64 ((wrap64 ((Int.tmod a1 (wrap64 ((t234.length : Int) + 1))) + (t234.length : Int))) + 1)) (wrap64 ((t234.length : Int) + 1))), (by first | rfl | (simp; done) | (simp [*]; done)), H', ⟨by first | omega | exact Nat.le_refl _⟩, ⟨by (with_reducible repeat (first | apply Kd.N_alloc | apply Kd.N_drewN | apply Kd.N_drew)); exact HO236.out⟩, ⟨(belN HB.out)⟩⟩
  ·rw [if_neg c7] at H
   have c7b0 : decide (0 < (t234.length : Int)) = false := decide_eq_false c7
   have c7b1 : decide (0 < t234.length) = false := decide_eq_false (by omega)
   clear c7
   (first | rw [c7b0] | rw [c7b1] | (simp only [i64_w, i32_w]; rw [c7b0]) | skip)
   have H' := Aside0.mk H
   clear H
   go_wp2
   go_meet
   case rel => exact ⟨_, (0), (by first | rfl | (simp; done) | (simp [*]; done)), H', ⟨by first | omega | exact Nat.le_refl _⟩, ⟨by (with_reducible repeat (first | apply Kd.N_alloc | apply Kd.N_drewN | apply Kd.N_drew)); exact HO236.out⟩, ⟨(belN HB.out)⟩⟩
 case rest =>
  clear HC4
  try clear c2
  try clear p2
  try clear c5
  try clear p6
  try clear c7
  try clear c7b0
  try clear c7b1
  try clear c8
  try clear c8b0
  try clear c8b1
  obtain ⟨kq, x6_3, rfl, HA, HJ3, HO_5, HB⟩ := hcut
  cases kq with
  | zero => exact absurd HA.out (by simp [marigraphlaw9_MergeJoins.j0])
  | succ kj3 =>
   have H := HA.out
   clear HA
   simp only [marigraphlaw9_MergeJoins.j0] at H
   replace H := Option.bind_eq_some_iff.mp H
   obtain ⟨t237, A90, H⟩ := H
   replace H : (if 0 ≤ x6_3 then (if x6_3 ≤ (t234.length : Int) then ((merge_Join.f (t234.take (x6_3 : Int).toNat)).bind fun t245 => ((merge_Join.f (t234.drop (x6_3 : Int).toNat)).bind fun t253 => ((merge_Join.f (([t245, t253] : List (List (S49))))).bind fun t259 => ((merge_Same.f kj3 t259 t237).bind fun t262 => (if t262 = true then ((marigraphlaw9_right.f kj3 t237).bind fun t263 => (if t263 = true then ((merge_Join.f (([t237, t237] : List (List (S49))))).bind fun t267 => ((merge_Same.f kj3 t267 t237).bind fun t270 => (marigraphlaw9_MergeJoins.j1 kj3 t234 t237 (!t270)))) else (marigraphlaw9_MergeJoins.j1 kj3 t234 t237 true))) else (marigraphlaw9_MergeJoins.j1 kj3 t234 t237 true)))))) else (none)) else (none)) = some r := H
   have A9 := Aside0.mk A90
   clear A90
   have HC10 := Aside0.mk H
   clear H
   go_upto_region 6 with (first | ((with_reducible refine gate_callee (f := 26) rfl ?_); refine goesL_ (some 31) rfl rfl Try.func26 (by kernel_rfl) rfl #[.slice Ao6 t234.length co6] rfl argN ?_; (with_reducible refine (merge_Join.calls _ _ t234 t237 _ ?side1 ?side2 A9.out).mono ?_); (case side1 => repeat (first | exact (Kd.N_reads' HO_5.out).2.2 | (with_reducible refine Kd.C_alloc ?_ _) | (with_reducible refine Kd.C_drewN ?_ _) | (with_reducible refine Kd.C_drew ?_))); (case side2 => exact (Kd.N_reads' HO_5.out).2.1); rintro e w11 ⟨v238, rfl, ho0, hb⟩; refine ⟨_, rfl, ?_⟩; have n0_ := Aside0.mk (Kd.N_elder' (by (with_reducible repeat (first | apply Kd.N_alloc | apply Kd.N_drewN | apply Kd.N_drew)); exact HO_5.out) (by first | exact Kd.N_base ho0 | exact Kd.S_base ho0) hb); have n1_ := Aside0.mk (Kd.N_lower (Kd.N_mono (ok' := fun k_ => some k_ ≠ (.slice Ao6 t234.length co6 : Value).ownBlock) (Kd.S_N (Kd.S_bound ho0)) (fun k_ hk_ => (Kd.fresh' (Kd.N_lt (by (with_reducible repeat (first | apply Kd.N_alloc | apply Kd.N_drewN | apply Kd.N_drew)); exact HO_5.out)) k_ hk_.2.1))) (below_size (belN HB.out))); have n2_ := Aside0.mk (below_step (belN HB.out) hb); clear HO_5; clear HB; have HO_5 := n0_; have HO239 := n1_; have HB := n2_; clear n0_ n1_ n2_; (try clear hb); (try clear hk); (try clear ho0)))
   (try simp only [Act.put, List.setIfInBounds_toArray, List.set_cons_zero, List.set_cons_succ])
   go_cut [58] (fun v58 wc => ∃ (kq : Nat) (x58_9 : Bool), v58 = .bool x58_9 ∧ Aside0 (marigraphlaw9_MergeJoins.j1 kq t234 t237 x58_9 = some r) ∧ Aside0 (kq ≤ kj3) ∧ Aside0 (Kd.N (Kd.slice 49 k49) 37 wc w.heap.size (fun k_ => some k_ ≠ (v238 : Value).ownBlock) (.slice Ao6 t234.length co6) t234) ∧ Aside0 (Kd.N k49 49 wc w.heap.size (fun _ => True) v238 t237) ∧ Aside0 (Below w.heap.size w wc))
   case first =>
    have H := HC10.out
    clear HC10
    by_cases c12 : 0 ≤ x6_3
    ·rw [if_pos c12] at H
     have c12b0 := eq_true c12
     have c12b1 : decide (0 ≤ x6_3) = true := decide_eq_true c12
     clear c12
     by_cases c13 : x6_3 ≤ (t234.length : Int)
     ·rw [if_pos c13] at H
      have c13b0 := eq_true c13
      have c13b1 : decide (x6_3 ≤ (t234.length : Int)) = true := decide_eq_true c13
      clear c13
      obtain ⟨y240, hy240⟩ : ∃ y_ : List (List (S49)), y_ = (t234.take (x6_3 : Int).toNat) := ⟨_, rfl⟩
      replace H : ((merge_Join.f y240).bind fun t245 => ((merge_Join.f (t234.drop (x6_3 : Int).toNat)).bind fun t253 => ((merge_Join.f (([t245, t253] : List (List (S49))))).bind fun t259 => ((merge_Same.f kj3 t259 t237).bind fun t262 => (if t262 = true then ((marigraphlaw9_right.f kj3 t237).bind fun t263 => (if t263 = true then ((merge_Join.f (([t237, t237] : List (List (S49))))).bind fun t267 => ((merge_Same.f kj3 t267 t237).bind fun t270 => (marigraphlaw9_MergeJoins.j1 kj3 t234 t237 (!t270)))) else (marigraphlaw9_MergeJoins.j1 kj3 t234 t237 true))) else (marigraphlaw9_MergeJoins.j1 kj3 t234 t237 true)))))) = some r := by first | (rw [hy240]; with_reducible exact H) | (have H2_ := (Option.bind_some _ _).symm.trans H; rw [hy240]; with_reducible exact H2_) | (have H2_ := (Option.bind_some _ _).symm.trans H; with_reducible exact H2_) | with_reducible exact H | (rw [hy240]; exact H) | exact H
      have Ny240 := Aside0.mk hy240
      clear hy240
      replace H := Option.bind_eq_some_iff.mp H
      obtain ⟨t245, A140, H⟩ := H
      replace H : ((merge_Join.f (t234.drop (x6_3 : Int).toNat)).bind fun t253 => ((merge_Join.f (([t245, t253] : List (List (S49))))).bind fun t259 => ((merge_Same.f kj3 t259 t237).bind fun t262 => (if t262 = true then ((marigraphlaw9_right.f kj3 t237).bind fun t263 => (if t263 = true then ((merge_Join.f (([t237, t237] : List (List (S49))))).bind fun t267 => ((merge_Same.f kj3 t267 t237).bind fun t270 => (marigraphlaw9_MergeJoins.j1 kj3 t234 t237 (!t270)))) else (marigraphlaw9_MergeJoins.j1 kj3 t234 t237 true))) else (marigraphlaw9_MergeJoins.j1 kj3 t234 t237 true))))) = some r := H
      have A14 := Aside0.mk A140
      clear A140
      have c15b0 := eq_true (of_decide_eq_true (by first | (with_reducible assumption) | assumption) : 0 ≤ x6_3)
      have c16b0 := eq_true (of_decide_eq_true (by first | (with_reducible assumption) | assumption) : x6_3 ≤ (t234.length : Int))
      obtain ⟨y248, hy248⟩ : ∃ y_ : List (List (S49)), y_ = (t234.drop (x6_3 : Int).toNat) := ⟨_, rfl⟩
      replace H : ((merge_Join.f y248).bind fun t253 => ((merge_Join.f (([t245, t253] : List (List (S49))))).bind fun t259 => ((merge_Same.f kj3 t259 t237).bind fun t262 => (if t262 = true then ((marigraphlaw9_right.f kj3 t237).bind fun t263 => (if t263 = true then ((merge_Join.f (([t237, t237] : List (List (S49))))).bind fun t267 => ((merge_Same.f kj3 t267 t237).bind fun t270 => (marigraphlaw9_MergeJoins.j1 kj3 t234 t237 (!t270)))) else (marigraphlaw9_MergeJoins.j1 kj3 t234 t237 true))) else (marigraphlaw9_MergeJoins.j1 kj3 t234 t237 true))))) = some r := by first | (rw [hy248]; with_reducible exact H) | (have H2_ := (Option.bind_some _ _).symm.trans H; rw [hy248]; with_reducible exact H2_) | (have H2_ := (Option.bind_some _ _).symm.trans H; with_reducible exact H2_) | with_reducible exact H | (rw [hy248]; exact H) | exact H
      have Ny248 := Aside0.mk hy248
      clear hy248
      replace H := Option.bind_eq_some_iff.mp H
      obtain ⟨t253, A170, H⟩ := H
      replace H : ((merge_Join.f (([t245, t253] : List (List (S49))))).bind fun t259 => ((merge_Same.f kj3 t259 t237).bind fun t262 => (if t262 = true then ((marigraphlaw9_right.f kj3 t237).bind fun t263 => (if t263 = true then ((merge_Join.f (([t237, t237] : List (List (S49))))).bind fun t267 => ((merge_Same.f kj3 t267 t237).bind fun t270 => (marigraphlaw9_MergeJoins.j1 kj3 t234 t237 (!t270)))) else (marigraphlaw9_MergeJoins.j1 kj3 t234 t237 true))) else (marigraphlaw9_MergeJoins.j1 kj3 t234 t237 true)))) = some r := H
      have A17 := Aside0.mk A170
      clear A170
      obtain ⟨y256, hy256⟩ : ∃ y_ : List (List (S49)), y_ = (([t245, t253] : List (List (S49)))) := ⟨_, rfl⟩
      replace H : ((merge_Join.f y256).bind fun t259 => ((merge_Same.f kj3 t259 t237).bind fun t262 => (if t262 = true then ((marigraphlaw9_right.f kj3 t237).bind fun t263 => (if t263 = true then ((merge_Join.f (([t237, t237] : List (List (S49))))).bind fun t267 => ((merge_Same.f kj3 t267 t237).bind fun t270 => (marigraphlaw9_MergeJoins.j1 kj3 t234 t237 (!t270)))) else (marigraphlaw9_MergeJoins.j1 kj3 t234 t237 true))) else (marigraphlaw9_MergeJoins.j1 kj3 t234 t237 true)))) = some r := by first | (rw [hy256]; with_reducible exact H) | (have H2_ := (Option.bind_some _ _).symm.trans H; rw [hy256]; with_reducible exact H2_) | (have H2_ := (Option.bind_some _ _).symm.trans H; with_reducible exact H2_) | with_reducible exact H | (rw [hy256]; exact H) | exact H
      have Ny256 := Aside0.mk hy256
      clear hy256
      replace H := Option.bind_eq_some_iff.mp H
      obtain ⟨t259, A180, H⟩ := H
      replace H : ((merge_Same.f kj3 t259 t237).bind fun t262 => (if t262 = true then ((marigraphlaw9_right.f kj3 t237).bind fun t263 => (if t263 = true then ((merge_Join.f (([t237, t237] : List (List (S49))))).bind fun t267 => ((merge_Same.f kj3 t267 t237).bind fun t270 => (marigraphlaw9_MergeJoins.j1 kj3 t234 t237 (!t270)))) else (marigraphlaw9_MergeJoins.j1 kj3 t234 t237 true))) else (marigraphlaw9_MergeJoins.j1 kj3 t234 t237 true))) = some r := H
      have A18 := Aside0.mk A180
      clear A180
      replace H := Option.bind_eq_some_iff.mp H
      obtain ⟨t262, A190, H⟩ := H
      replace H : (if t262 = true then ((marigraphlaw9_right.f kj3 t237).bind fun t263 => (if t263 = true then ((merge_Join.f (([t237, t237] : List (List (S49))))).bind fun t267 => ((merge_Same.f kj3 t267 t237).bind fun t270 => (marigraphlaw9_MergeJoins.j1 kj3 t234 t237 (!t270)))) else (marigraphlaw9_MergeJoins.j1 kj3 t234 t237 true))) else (marigraphlaw9_MergeJoins.j1 kj3 t234 t237 true)) = some r := H
      have A19 := Aside0.mk A190
      clear A190
      by_cases c20 : t262 = true
      ·subst c20
       have H1 : ((marigraphlaw9_right.f kj3 t237).bind fun t263 => (if t263 = true then ((merge_Join.f (([t237, t237] : List (List (S49))))).bind fun t267 => ((merge_Same.f kj3 t267 t237).bind fun t270 => (marigraphlaw9_MergeJoins.j1 kj3 t234 t237 (!t270)))) else (marigraphlaw9_MergeJoins.j1 kj3 t234 t237 true))) = some r := by rw [if_pos rfl] at H; exact H
       clear H
       have H := H1
       clear H1
       replace H := Option.bind_eq_some_iff.mp H
       obtain ⟨t263, A210, H⟩ := H
       replace H : (if t263 = true then ((merge_Join.f (([t237, t237] : List (List (S49))))).bind fun t267 => ((merge_Same.f kj3 t267 t237).bind fun t270 => (marigraphlaw9_MergeJoins.j1 kj3 t234 t237 (!t270)))) else (marigraphlaw9_MergeJoins.j1 kj3 t234 t237 true)) = some r := H
       have A21 := Aside0.mk A210
       clear A210
       by_cases c22 : t263 = true
       ·subst c22
        have H1 : ((merge_Join.f (([t237, t237] : List (List (S49))))).bind fun t267 => ((merge_Same.f kj3 t267 t237).bind fun t270 => (marigraphlaw9_MergeJoins.j1 kj3 t234 t237 (!t270)))) = some r := by rw [if_pos rfl] at H; exact H
        clear H
        have H := H1
        clear H1
        obtain ⟨y264, hy264⟩ : ∃ y_ : List (List (S49)), y_ = (([t237, t237] : List (List (S49)))) := ⟨_, rfl⟩
        replace H : ((merge_Join.f y264).bind fun t267 => ((merge_Same.f kj3 t267 t237).bind fun t270 => (marigraphlaw9_MergeJoins.j1 kj3 t234 t237 (!t270)))) = some r := by first | (rw [hy264]; with_reducible exact H) | (have H2_ := (Option.bind_some _ _).symm.trans H; rw [hy264]; with_reducible exact H2_) | (have H2_ := (Option.bind_some _ _).symm.trans H; with_reducible exact H2_) | with_reducible exact H | (rw [hy264]; exact H) | exact H
        have Ny264 := Aside0.mk hy264
        clear hy264
        replace H := Option.bind_eq_some_iff.mp H
        obtain ⟨t267, A230, H⟩ := H
        replace H : ((merge_Same.f kj3 t267 t237).bind fun t270 => (marigraphlaw9_MergeJoins.j1 kj3 t234 t237 (!t270))) = some r := H
        have A23 := Aside0.mk A230
        clear A230
        replace H := Option.bind_eq_some_iff.mp H
        obtain ⟨t270, A240, H⟩ := H
        replace H : (marigraphlaw9_MergeJoins.j1 kj3 t234 t237 (!t270)) = some r := H
        have A24 := Aside0.mk A240
        clear A240
        have H' := Aside0.mk H
        clear H
        try go_wp2
        have n0_ := Aside0.mk (Kd.N_drew HO_5.out)
        have n1_ := Aside0.mk (Kd.N_drew HO239.out)
        have n2_ := Aside0.mk (below_drew1 HB.out)
        clear HO_5
        clear HO239
        clear HB
        have HO_5 := n0_
        have HO239 := n1_
        have HB := n2_
        clear n0_ n1_ n2_
        have q26 : (x6_3 : Int) ≤ ((t234.length : Int) : Int) := of_decide_eq_true (by first | (with_reducible assumption) | assumption)
        obtain ⟨i026, hi026, _, hsz26, _⟩ := info_parts info37
        have hroom26 : t234.length ≤ co6 := (Kd.N_reads' HO_5.out).2.1
        have hC26 : Kd.F (Kd.slice 49 k49) _ _ Ao6 t234.length t234 := (Kd.V_at (base := w.heap.size) (Kd.N_V HO_5.out)).2.2
        have hcut26 := cut_to (P := Try.prog) 44 37 .i64 Try.underlying44 hi026 Ao6 t234.length co6 x6_3 (of_decide_eq_true (by first | (with_reducible assumption) | assumption)) q26 hroom26
        have hr26 := Kd.F_take (m := (x6_3 : Int).toNat) hC26 (by omega)
        have hy26 : y240.length = (x6_3 : Int).toNat := (by rw [Ny240.out, List.length_take]; omega)
        rw [← Ny240.out] at hr26
        rw [← hy26] at hcut26
        have HO244 := Aside0.mk (show Kd.V (Kd.slice 49 k49) 37 _ w.heap.size _ (.slice Ao6 y240.length co6) y240 from Kd.V_mk (by omega) hr26)
        have HC244 := Aside0.mk (show y240.length ≤ co6 from by omega)
        clear hr26 hC26 hroom26 hi026 hsz26
        have KY26 := Aside0.mk hy26
        clear hy26
        replace q26 := eq_true q26
        have q27 : (x6_3 : Int) ≤ ((t234.length : Int) : Int) := of_decide_eq_true (by first | (with_reducible assumption) | assumption)
        obtain ⟨i027, hi027, _, hsz27, _⟩ := info_parts info37
        have hroom27 : t234.length ≤ co6 := (Kd.N_reads' HO_5.out).2.1
        have hC27 : Kd.F (Kd.slice 49 k49) _ _ Ao6 t234.length t234 := (Kd.V_at (base := w.heap.size) (Kd.N_V HO_5.out)).2.2
        have q027 : (0 : Int) ≤ (x6_3 : Int) := of_decide_eq_true (by first | (with_reducible assumption) | assumption)
        have hcut27 := cut_from (P := Try.prog) 44 37 .i64 Try.underlying44 hi027 1 hsz27 Ao6 t234.length co6 x6_3 q027 q27
        have hr27 := Kd.F_cut (m := (x6_3 : Int).toNat) (c := co6) hC27 (by omega) hroom27
        obtain ⟨A27, hA27⟩ : ∃ A1, A1 = (if co6 = (x6_3 : Int).toNat then Ao6 else (Ao6 : Option Addr).map (·.add ((x6_3 : Int).toNat * 1))) := ⟨_, rfl⟩
        obtain ⟨c27, hc27⟩ : ∃ c1, c1 = co6 - (x6_3 : Int).toNat := ⟨_, rfl⟩
        have hy27 : y248.length = t234.length - (x6_3 : Int).toNat := (by rw [Ny248.out, List.length_drop] <;> omega)
        rw [show (t234).drop (x6_3 : Int).toNat = y248 from Ny248.out.symm] at hr27
        replace hr27 : Kd.F (Kd.slice 49 k49) _ _ A27 y248.length y248 := (by rw [hA27]; exact hr27)
        rw [← hy27, ← hA27, ← hc27] at hcut27
        have HO252 := Aside0.mk (show Kd.V (Kd.slice 49 k49) 37 _ w.heap.size _ (.slice A27 y248.length c27) y248 from Kd.V_mk (by rw [hy27, hc27]; exact Nat.sub_le_sub_right hroom27 _) hr27)
        have HC252 := Aside0.mk (show y248.length ≤ c27 from by rw [hy27, hc27]; exact Nat.sub_le_sub_right hroom27 _)
        clear hr27 hC27 hroom27 hi027 hsz27 hc27
        have KY27 := Aside0.mk hy27
        have KA27 := Aside0.mk hA27
        clear hy27 hA27
        replace q27 := eq_true q27
        refine start_ (n := 27) (S := fun w' => True) (ds := []) #[false, false, false, false, false, false, false, false, false, false, false, false, false, false, false, false, false, false, false, false, false, false, false, false, false, false, false] (by kernel_rfl) rfl rfl trivial (fun hHeld => ?_); refine with_tabW marigraphlaw9_MergeJoins.tab6 marigraphlaw9_MergeJoins.bits6 (fun HT_ HW_ => ?_)
        generalize w11.drew = w25 at HO_5 HO239 HB HO244 HO252 hHeld ⊢
        refine pA 0 (some 32) (bA 27 1) HT_.out ?_
        refine pA 1 (some 33) (bA 27 3) HT_.out ?_
        refine pA 2 (some 34) (bA 27 7) HT_.out ?_
        refine pA 4 (some 36) (bA 27 23) HT_.out ?_
        refine pA 5 (some 37) (bA 27 55) HT_.out ?_
        refine pA 6 (some 38) (bA 27 119) HT_.out ?_
        refine pA 10 (some 42) (bA 27 1143) HT_.out ?_
        refine one_ (i := 3) (N := some 35) (bA 27 1151) rfl rfl (one_of HT_.out (by kernel_rfl)) (by decide) (fun K hK => ?_)
        refine goes_ Try.func26 (by kernel_rfl) rfl #[.slice Ao6 y240.length co6] (by rfl) rfl rfl argN ?_
        with_reducible refine (merge_Join.calls _ _ y240 t245 _ ?side1 ?side2 A14.out).mono ?_
        (case side1 => repeat (first | exact (Kd.V_reads' HO244.out).2.2 | (with_reducible refine Kd.C_alloc ?_ _) | (with_reducible refine Kd.C_drewN ?_ _) | (with_reducible refine Kd.C_drew ?_)))
        (case side2 => exact (Kd.V_reads' HO244.out).2.1)
        rintro e w28 ⟨v246, rfl, ho0, hb⟩
        refine ⟨_, rfl, ?_⟩
        have n0_ := Aside0.mk (Kd.N_elder' (by (with_reducible repeat (first | apply Kd.N_alloc | apply Kd.N_drewN | apply Kd.N_drew)); exact HO_5.out) (by first | exact Kd.N_base ho0 | exact Kd.S_base ho0) hb)
        have n1_ := Aside0.mk (Kd.N_elder' (by (with_reducible repeat (first | apply Kd.N_alloc | apply Kd.N_drewN | apply Kd.N_drew)); exact HO239.out) (by first | exact Kd.N_base ho0 | exact Kd.S_base ho0) hb)
        have n2_ := Aside0.mk (Kd.V_elder' (by (with_reducible repeat (first | apply Kd.V_alloc | apply Kd.V_drewN | apply Kd.V_drew)); exact HO244.out) (by first | exact Kd.N_base ho0 | exact Kd.S_base ho0) hb)
        have n3_ := Aside0.mk (Kd.V_elder' (by (with_reducible repeat (first | apply Kd.V_alloc | apply Kd.V_drewN | apply Kd.V_drew)); exact HO252.out) (by first | exact Kd.N_base ho0 | exact Kd.S_base ho0) hb)
        have n4_ := Aside0.mk (Kd.N_lower (Kd.N_mono (ok' := fun k_ => some k_ ≠ (.slice Ao6 t234.length co6 : Value).ownBlock ∧ some k_ ≠ (v238 : Value).ownBlock) (Kd.S_N (Kd.S_bound ho0)) (fun k_ hk_ => ⟨(Kd.fresh' (Kd.N_lt (by (with_reducible repeat (first | apply Kd.N_alloc | apply Kd.N_drewN | apply Kd.N_drew)); exact HO_5.out)) k_ hk_.2.1), (Kd.fresh' (Kd.N_lt (by (with_reducible repeat (first | apply Kd.N_alloc | apply Kd.N_drewN | apply Kd.N_drew)); exact HO239.out)) k_ hk_.2.1)⟩)) (below_size (belN HB.out)))
        have n5_ := Aside0.mk (below_step (belN HB.out) hb)
        clear HO_5
        clear HO239
        clear HO244
        clear HO252
        clear HB
        have HO_5 := n0_
        have HO239 := n1_
        have HO244 := n2_
        have HO252 := n3_
        have HO247 := n4_
        have HB := n5_
        clear n0_ n1_ n2_ n3_ n4_ n5_
        (try clear hb)
        (try clear hk)
        (try clear ho0)
        refine hK.out _ _ trivial (fun hHeld => ?_)
        clear hK K
        refine norm_ (a' := ?_) ?_ ?_
        rotate_left
        ·show Act.put _ (some 35) _ = _
         simp only [Act.put, List.setIfInBounds_toArray, List.set_cons_zero, List.set_cons_succ, i64_w, i32_w]
         rfl
        refine one_ (i := 7) (N := some 39) (bA 27 1279) rfl rfl (one_of HT_.out (by kernel_rfl)) (by decide) (fun K hK => ?_)
        refine goes_ Try.func26 (by kernel_rfl) rfl #[.slice A27 y248.length c27] (by rfl) rfl rfl argN ?_
        with_reducible refine (merge_Join.calls _ _ y248 t253 _ ?side1 ?side2 A17.out).mono ?_
        (case side1 => repeat (first | exact (Kd.V_reads' HO252.out).2.2 | (with_reducible refine Kd.C_alloc ?_ _) | (with_reducible refine Kd.C_drewN ?_ _) | (with_reducible refine Kd.C_drew ?_)))
        (case side2 => exact (Kd.V_reads' HO252.out).2.1)
        rintro e w29 ⟨v254, rfl, ho0, hb⟩
        refine ⟨_, rfl, ?_⟩
        have n0_ := Aside0.mk (Kd.N_elder' (by (with_reducible repeat (first | apply Kd.N_alloc | apply Kd.N_drewN | apply Kd.N_drew)); exact HO_5.out) (by first | exact Kd.N_base ho0 | exact Kd.S_base ho0) hb)
        have n1_ := Aside0.mk (Kd.N_elder' (by (with_reducible repeat (first | apply Kd.N_alloc | apply Kd.N_drewN | apply Kd.N_drew)); exact HO239.out) (by first | exact Kd.N_base ho0 | exact Kd.S_base ho0) hb)
        have n2_ := Aside0.mk (Kd.V_elder' (by (with_reducible repeat (first | apply Kd.V_alloc | apply Kd.V_drewN | apply Kd.V_drew)); exact HO244.out) (by first | exact Kd.N_base ho0 | exact Kd.S_base ho0) hb)
        have n3_ := Aside0.mk (Kd.V_elder' (by (with_reducible repeat (first | apply Kd.V_alloc | apply Kd.V_drewN | apply Kd.V_drew)); exact HO252.out) (by first | exact Kd.N_base ho0 | exact Kd.S_base ho0) hb)
        have n4_ := Aside0.mk (Kd.N_elder' (by (with_reducible repeat (first | apply Kd.N_alloc | apply Kd.N_drewN | apply Kd.N_drew)); exact HO247.out) (by first | exact Kd.N_base ho0 | exact Kd.S_base ho0) hb)
        have n5_ := Aside0.mk (Kd.N_lower (Kd.N_mono (ok' := fun k_ => some k_ ≠ (.slice Ao6 t234.length co6 : Value).ownBlock ∧ some k_ ≠ (v238 : Value).ownBlock ∧ some k_ ≠ (v246 : Value).ownBlock) (Kd.S_N (Kd.S_bound ho0)) (fun k_ hk_ => ⟨(Kd.fresh' (Kd.N_lt (by (with_reducible repeat (first | apply Kd.N_alloc | apply Kd.N_drewN | apply Kd.N_drew)); exact HO_5.out)) k_ hk_.2.1), (Kd.fresh' (Kd.N_lt (by (with_reducible repeat (first | apply Kd.N_alloc | apply Kd.N_drewN | apply Kd.N_drew)); exact HO239.out)) k_ hk_.2.1), (Kd.fresh' (Kd.N_lt (by (with_reducible repeat (first | apply Kd.N_alloc | apply Kd.N_drewN | apply Kd.N_drew)); exact HO247.out)) k_ hk_.2.1)⟩)) (below_size (belN HB.out)))
        have n6_ := Aside0.mk (below_step (belN HB.out) hb)
        clear HO_5
        clear HO239
        clear HO244
        clear HO252
        clear HO247
        clear HB
        have HO_5 := n0_
        have HO239 := n1_
        have HO244 := n2_
        have HO252 := n3_
        have HO247 := n4_
        have HO255 := n5_
        have HB := n6_
        clear n0_ n1_ n2_ n3_ n4_ n5_ n6_
        (try clear hb)
        (try clear hk)
        (try clear ho0)
        obtain ⟨Ao30, co30, eo30⟩ := Kd.N_slice HO247.out
        (first | subst eo30 | (injection eo30 with f1_ f2_ f3_; have f4_ := f1_.symm; have f5_ := f3_.symm; clear f1_ f2_ f3_; subst f4_; subst f5_))
        obtain ⟨Ao31, co31, eo31⟩ := Kd.N_slice HO255.out
        (first | subst eo31 | (injection eo31 with f1_ f2_ f3_; have f4_ := f1_.symm; have f5_ := f3_.symm; clear f1_ f2_ f3_; subst f4_; subst f5_))
        refine hK.out _ _ trivial (fun hHeld => ?_)
        clear hK K
        refine norm_ (a' := ?_) ?_ ?_
        rotate_left
        ·show Act.put _ (some 39) _ = _
         simp only [Act.put, List.setIfInBounds_toArray, List.set_cons_zero, List.set_cons_succ, i64_w, i32_w]
         rfl
        refine one_ (i := 8) (N := some 40) (bA 27 1535) rfl rfl (one_of HT_.out (by kernel_rfl)) (by decide) (fun K hK => ?_)
        refine Kd.N_lit_step (Kd.slice 49 k49) _ 37 ?hg (N' := 40) ?hd (xs := ([t245, t253] : List (List (S49)))) (inner := [.slice Ao30 t245.length co30, .slice Ao31 t253.length co31]) (ok := (fun k_ => some k_ ≠ (.slice Ao6 t234.length co6 : Value).ownBlock ∧ some k_ ≠ (v238 : Value).ownBlock)) (okp := (fun k_ => some k_ ≠ (.slice Ao6 t234.length co6 : Value).ownBlock ∧ some k_ ≠ (v238 : Value).ownBlock)) ?hr ?hp (fun _ hk => hk) ((show ∀ k_, w29.heap.size ≤ k_ → (fun k_ => some k_ ≠ (.slice Ao6 t234.length co6 : Value).ownBlock ∧ some k_ ≠ (v238 : Value).ownBlock) k_ from fun k_ hk => ⟨Kd.fresh' (Kd.N_lt (by (with_reducible repeat (first | apply Kd.N_alloc | apply Kd.N_drewN | apply Kd.N_drew)); exact HO_5.out)) k_ hk, Kd.fresh' (Kd.N_lt (by (with_reducible repeat (first | apply Kd.N_alloc | apply Kd.N_drewN | apply Kd.N_drew)); exact HO239.out)) k_ hk⟩) _ (Nat.le_refl _)) (Below.refl _ _) (Nat.le_refl _) (by simp) ?_; (case hd => rfl); (case hg => rfl); (case hr => first | (go_simp; done) | (go_simp; rfl)); (case hp => exact (Reps.one (show Kd.FK (Kd.slice 49 k49) _ _ t245 [.slice Ao30 t245.length co30] from (Kd.FK_slice_mk (Kd.N_reads' (Kd.N_mono (ok' := (fun k_ => some k_ ≠ (.slice Ao6 t234.length co6 : Value).ownBlock ∧ some k_ ≠ (v238 : Value).ownBlock)) (HO247.out) (fun k_ hk => ⟨hk.1.1, hk.1.2⟩))).2.1 (Kd.N_F (Kd.N_mono (ok' := (fun k_ => some k_ ≠ (.slice Ao6 t234.length co6 : Value).ownBlock ∧ some k_ ≠ (v238 : Value).ownBlock)) (HO247.out) (fun k_ hk => ⟨hk.1.1, hk.1.2⟩))))) (Reps.one (show Kd.FK (Kd.slice 49 k49) _ _ t253 [.slice Ao31 t253.length co31] from (Kd.FK_slice_mk (Kd.N_reads' (Kd.N_mono (ok' := (fun k_ => some k_ ≠ (.slice Ao6 t234.length co6 : Value).ownBlock ∧ some k_ ≠ (v238 : Value).ownBlock)) (HO255.out) (fun k_ hk => ⟨hk.1, hk.2.1⟩))).2.1 (Kd.N_F (Kd.N_mono (ok' := (fun k_ => some k_ ≠ (.slice Ao6 t234.length co6 : Value).ownBlock ∧ some k_ ≠ (v238 : Value).ownBlock)) (HO255.out) (fun k_ hk => ⟨hk.1, hk.2.1⟩))))) (Reps.none _ _))))
        intro v257 w32 ho33 hb hg_ hnew_
        clear hg_ hnew_
        (first | rw [← Ny256.out] at ho33 | (simp only [Int.reduceToNat] at ho33; rw [← Ny256.out] at ho33))
        have n0_ := Aside0.mk (Kd.N_elder' (by (with_reducible repeat (first | apply Kd.N_alloc | apply Kd.N_drewN | apply Kd.N_drew)); exact HO_5.out) (Kd.N_base ho33) hb)
        have n1_ := Aside0.mk (Kd.N_elder' (by (with_reducible repeat (first | apply Kd.N_alloc | apply Kd.N_drewN | apply Kd.N_drew)); exact HO239.out) (Kd.N_base ho33) hb)
        have n2_ := Aside0.mk (Kd.V_elder' (by (with_reducible repeat (first | apply Kd.V_alloc | apply Kd.V_drewN | apply Kd.V_drew)); exact HO244.out) (Kd.N_base ho33) hb)
        have n3_ := Aside0.mk (Kd.V_elder' (by (with_reducible repeat (first | apply Kd.V_alloc | apply Kd.V_drewN | apply Kd.V_drew)); exact HO252.out) (Kd.N_base ho33) hb)
        have n4_ := Aside0.mk (Kd.N_lower ho33 (below_size (belN HB.out)))
        have n5_ := Aside0.mk (below_step (belN HB.out) hb)
        clear HO_5
        clear HO239
        clear HO244
        clear HO252
        clear HB
        clear HO247
        clear HO255
        have HO_5 := n0_
        have HO239 := n1_
        have HO244 := n2_
        have HO252 := n3_
        have HO258 := n4_
        have HB := n5_
        clear n0_ n1_ n2_ n3_ n4_ n5_
        clear hb ho33
        obtain ⟨Ao34, co34, eo34⟩ := Kd.N_slice HO258.out
        (first | subst eo34 | (injection eo34 with f1_ f2_ f3_; have f4_ := f1_.symm; have f5_ := f3_.symm; clear f1_ f2_ f3_; subst f4_; subst f5_))
        refine hK.out _ _ trivial (fun hHeld => ?_)
        clear hK K
        refine norm_ (a' := ?_) ?_ ?_
        rotate_left
        ·show Act.put _ (some 40) _ = _
         simp only [Act.put, List.setIfInBounds_toArray, List.set_cons_zero, List.set_cons_succ, i64_w, i32_w]
         rfl
        refine one_ (i := 9) (N := some 41) (bA 27 2047) rfl rfl (one_of HT_.out (by kernel_rfl)) (by decide) (fun K hK => ?_)
        refine goes_ Try.func26 (by kernel_rfl) rfl #[.slice Ao34 y256.length co34] (by rfl) rfl rfl argN ?_
        with_reducible refine (merge_Join.calls _ _ y256 t259 _ ?side1 ?side2 A18.out).mono ?_
        (case side1 => repeat (first | exact (Kd.N_reads' HO258.out).2.2 | (with_reducible refine Kd.C_alloc ?_ _) | (with_reducible refine Kd.C_drewN ?_ _) | (with_reducible refine Kd.C_drew ?_)))
        (case side2 => exact (Kd.N_reads' HO258.out).2.1)
        rintro e w35 ⟨v260, rfl, ho0, hb⟩
        refine ⟨_, rfl, ?_⟩
        have n0_ := Aside0.mk (Kd.N_elder' (by (with_reducible repeat (first | apply Kd.N_alloc | apply Kd.N_drewN | apply Kd.N_drew)); exact HO_5.out) (by first | exact Kd.N_base ho0 | exact Kd.S_base ho0) hb)
        have n1_ := Aside0.mk (Kd.N_elder' (by (with_reducible repeat (first | apply Kd.N_alloc | apply Kd.N_drewN | apply Kd.N_drew)); exact HO239.out) (by first | exact Kd.N_base ho0 | exact Kd.S_base ho0) hb)
        have n2_ := Aside0.mk (Kd.V_elder' (by (with_reducible repeat (first | apply Kd.V_alloc | apply Kd.V_drewN | apply Kd.V_drew)); exact HO244.out) (by first | exact Kd.N_base ho0 | exact Kd.S_base ho0) hb)
        have n3_ := Aside0.mk (Kd.V_elder' (by (with_reducible repeat (first | apply Kd.V_alloc | apply Kd.V_drewN | apply Kd.V_drew)); exact HO252.out) (by first | exact Kd.N_base ho0 | exact Kd.S_base ho0) hb)
        have n4_ := Aside0.mk (Kd.N_elder' (by (with_reducible repeat (first | apply Kd.N_alloc | apply Kd.N_drewN | apply Kd.N_drew)); exact HO258.out) (by first | exact Kd.N_base ho0 | exact Kd.S_base ho0) hb)
        have n5_ := Aside0.mk (Kd.N_lower (Kd.N_mono (ok' := fun k_ => some k_ ≠ (.slice Ao6 t234.length co6 : Value).ownBlock ∧ some k_ ≠ (v238 : Value).ownBlock ∧ some k_ ≠ (.slice Ao34 y256.length co34 : Value).ownBlock) (Kd.S_N (Kd.S_bound ho0)) (fun k_ hk_ => ⟨(Kd.fresh' (Kd.N_lt (by (with_reducible repeat (first | apply Kd.N_alloc | apply Kd.N_drewN | apply Kd.N_drew)); exact HO_5.out)) k_ hk_.2.1), (Kd.fresh' (Kd.N_lt (by (with_reducible repeat (first | apply Kd.N_alloc | apply Kd.N_drewN | apply Kd.N_drew)); exact HO239.out)) k_ hk_.2.1), (Kd.fresh' (Kd.N_lt (by (with_reducible repeat (first | apply Kd.N_alloc | apply Kd.N_drewN | apply Kd.N_drew)); exact HO258.out)) k_ hk_.2.1)⟩)) (below_size (belN HB.out)))
        have n6_ := Aside0.mk (below_step (belN HB.out) hb)
        clear HO_5
        clear HO239
        clear HO244
        clear HO252
        clear HO258
        clear HB
        have HO_5 := n0_
        have HO239 := n1_
        have HO244 := n2_
        have HO252 := n3_
        have HO258 := n4_
        have HO261 := n5_
        have HB := n6_
        clear n0_ n1_ n2_ n3_ n4_ n5_ n6_
        (try clear hb)
        (try clear hk)
        (try clear ho0)
        obtain ⟨Ao36, co36, eo36⟩ := Kd.N_slice HO261.out
        (first | subst eo36 | (injection eo36 with f1_ f2_ f3_; have f4_ := f1_.symm; have f5_ := f3_.symm; clear f1_ f2_ f3_; subst f4_; subst f5_))
        obtain ⟨Ao37, co37, eo37⟩ := Kd.N_slice HO239.out
        (first | subst eo37 | (injection eo37 with f1_ f2_ f3_; have f4_ := f1_.symm; have f5_ := f3_.symm; clear f1_ f2_ f3_; subst f4_; subst f5_))
        refine hK.out _ _ trivial (fun hHeld => ?_)
        clear hK K
        refine norm_ (a' := ?_) ?_ ?_
        rotate_left
        ·show Act.put _ (some 41) _ = _
         simp only [Act.put, List.setIfInBounds_toArray, List.set_cons_zero, List.set_cons_succ, i64_w, i32_w]
         rfl
        refine one_ (i := 11) (N := some 43) (bA 27 4095) rfl rfl (one_of HT_.out (by kernel_rfl)) (by decide) (fun K hK => ?_)
        refine goes_ Try.func27 (by kernel_rfl) rfl #[.slice Ao36 t259.length co36, .slice Ao37 t237.length co37] (by rfl) rfl rfl argN ?_
        with_reducible refine (merge_Same.calls kj3 _ _ t259 _ _ t237 true _ ?side1 ?side2 ?side3 ?side4 A19.out).mono ?_
        (case side1 => repeat (first | exact (Kd.N_reads' HO261.out).2.2 | (with_reducible refine Kd.C_alloc ?_ _) | (with_reducible refine Kd.C_drewN ?_ _) | (with_reducible refine Kd.C_drew ?_)))
        (case side2 => exact (Kd.N_reads' HO261.out).2.1)
        (case side3 => repeat (first | exact (Kd.N_reads' HO239.out).2.2 | (with_reducible refine Kd.C_alloc ?_ _) | (with_reducible refine Kd.C_drewN ?_ _) | (with_reducible refine Kd.C_drew ?_)))
        (case side4 => exact (Kd.N_reads' HO239.out).2.1)
        rintro e w38 ⟨rfl, hb⟩
        refine ⟨_, rfl, ?_⟩
        have n0_ := Aside0.mk (Kd.N_below (by (with_reducible repeat (first | apply Kd.N_alloc | apply Kd.N_drewN | apply Kd.N_drew)); exact HO_5.out) hb)
        have n1_ := Aside0.mk (Kd.N_below (by (with_reducible repeat (first | apply Kd.N_alloc | apply Kd.N_drewN | apply Kd.N_drew)); exact HO239.out) hb)
        have n2_ := Aside0.mk (Kd.V_below (by (with_reducible repeat (first | apply Kd.V_alloc | apply Kd.V_drewN | apply Kd.V_drew)); exact HO244.out) hb)
        have n3_ := Aside0.mk (Kd.V_below (by (with_reducible repeat (first | apply Kd.V_alloc | apply Kd.V_drewN | apply Kd.V_drew)); exact HO252.out) hb)
        have n4_ := Aside0.mk (Kd.N_below (by (with_reducible repeat (first | apply Kd.N_alloc | apply Kd.N_drewN | apply Kd.N_drew)); exact HO258.out) hb)
        have n5_ := Aside0.mk (Kd.N_below (by (with_reducible repeat (first | apply Kd.N_alloc | apply Kd.N_drewN | apply Kd.N_drew)); exact HO261.out) hb)
        have n6_ := Aside0.mk (below_step (belN HB.out) hb)
        clear HO_5
        clear HO239
        clear HO244
        clear HO252
        clear HO258
        clear HO261
        clear HB
        have HO_5 := n0_
        have HO239 := n1_
        have HO244 := n2_
        have HO252 := n3_
        have HO258 := n4_
        have HO261 := n5_
        have HB := n6_
        clear n0_ n1_ n2_ n3_ n4_ n5_ n6_
        (try clear hb)
        (try clear hk)
        refine hK.out _ _ trivial (fun hHeld => ?_)
        clear hK K
        refine norm_ (a' := ?_) ?_ ?_
        rotate_left
        ·show Act.put _ (some 43) _ = _
         simp only [Act.put, List.setIfInBounds_toArray, List.set_cons_zero, List.set_cons_succ, i64_w, i32_w]
         rfl
        refine pA 12 (some 44) (bA 27 8191) HT_.out ?_
        refine pA 13 (some 45) (bA 27 16383) HT_.out ?_
        refine pA 14 (some 46) (bA 27 32767) HT_.out ?_
        refine one_ (i := 15) (N := some 47) (bA 27 65535) rfl rfl (one_of HT_.out (by kernel_rfl)) (by decide) (fun K hK => ?_)
        refine goes_ Try.func28 (by kernel_rfl) rfl #[.slice Ao37 t237.length co37] (by rfl) rfl rfl argN ?_
        with_reducible refine (marigraphlaw9_right.calls kj3 _ _ t237 true _ ?side1 ?side2 A21.out).mono ?_
        (case side1 => repeat (first | exact (Kd.N_reads' HO239.out).2.2 | (with_reducible refine Kd.C_alloc ?_ _) | (with_reducible refine Kd.C_drewN ?_ _) | (with_reducible refine Kd.C_drew ?_)))
        (case side2 => exact (Kd.N_reads' HO239.out).2.1)
        rintro e w' ⟨rfl, ⟨nd, rfl⟩⟩
        refine ⟨_, rfl, ?_⟩
        refine hK.out _ _ trivial (fun hHeld => ?_)
        clear hK K
        refine norm_ (a' := ?_) ?_ ?_
        rotate_left
        ·show Act.put _ (some 47) _ = _
         simp only [Act.put, List.setIfInBounds_toArray, List.set_cons_zero, List.set_cons_succ, i64_w, i32_w]
         rfl
        refine pA 16 (some 48) (bA 27 131071) HT_.out ?_
        refine pA 17 (some 49) (bA 27 262143) HT_.out ?_
        refine pA 18 (some 50) (bA 27 524287) HT_.out ?_
        refine pA 19 (some 51) (bA 27 1048575) HT_.out ?_
        refine pA 20 (some 52) (bA 27 2097151) HT_.out ?_
        refine pA 23 (some 55) (bA 27 10485759) HT_.out ?_
        refine one_ (i := 21) (N := some 53) (bA 27 12582911) rfl rfl (one_of HT_.out (by kernel_rfl)) (by decide) (fun K hK => ?_)
        refine Kd.N_lit_step (Kd.slice 49 k49) _ 37 ?hg (N' := 53) ?hd (xs := ([t237, t237] : List (List (S49)))) (inner := [.slice Ao37 t237.length co37, .slice Ao37 t237.length co37]) (ok := (fun k_ => some k_ ≠ (.slice Ao6 t234.length co6 : Value).ownBlock ∧ some k_ ≠ (.slice Ao34 y256.length co34 : Value).ownBlock ∧ some k_ ≠ (.slice Ao36 t259.length co36 : Value).ownBlock)) (okp := (fun k_ => some k_ ≠ (.slice Ao6 t234.length co6 : Value).ownBlock ∧ some k_ ≠ (.slice Ao34 y256.length co34 : Value).ownBlock ∧ some k_ ≠ (.slice Ao36 t259.length co36 : Value).ownBlock)) ?hr ?hp (fun _ hk => hk) ((show ∀ k_, w38.heap.size ≤ k_ → (fun k_ => some k_ ≠ (.slice Ao6 t234.length co6 : Value).ownBlock ∧ some k_ ≠ (.slice Ao34 y256.length co34 : Value).ownBlock ∧ some k_ ≠ (.slice Ao36 t259.length co36 : Value).ownBlock) k_ from fun k_ hk => ⟨Kd.fresh' (Kd.N_lt (by (with_reducible repeat (first | apply Kd.N_alloc | apply Kd.N_drewN | apply Kd.N_drew)); exact HO_5.out)) k_ hk, Kd.fresh' (Kd.N_lt (by (with_reducible repeat (first | apply Kd.N_alloc | apply Kd.N_drewN | apply Kd.N_drew)); exact HO258.out)) k_ hk, Kd.fresh' (Kd.N_lt (by (with_reducible repeat (first | apply Kd.N_alloc | apply Kd.N_drewN | apply Kd.N_drew)); exact HO261.out)) k_ hk⟩) _ (Nat.le_refl _)) (Below.refl _ _) (Nat.le_refl _) (by simp) ?_; (case hd => rfl); (case hg => rfl); (case hr => first | (go_simp; done) | (go_simp; rfl)); (case hp => exact (Reps.one (show Kd.FK (Kd.slice 49 k49) _ _ t237 [.slice Ao37 t237.length co37] from (Kd.FK_slice_mk (Kd.N_reads' (Kd.N_mono (ok' := (fun k_ => some k_ ≠ (.slice Ao6 t234.length co6 : Value).ownBlock ∧ some k_ ≠ (.slice Ao34 y256.length co34 : Value).ownBlock ∧ some k_ ≠ (.slice Ao36 t259.length co36 : Value).ownBlock)) (HO239.out) (fun k_ hk => ⟨hk.1.1.1.1, ⟨hk.1.2, hk.2⟩⟩))).2.1 (Kd.N_F (Kd.N_mono (ok' := (fun k_ => some k_ ≠ (.slice Ao6 t234.length co6 : Value).ownBlock ∧ some k_ ≠ (.slice Ao34 y256.length co34 : Value).ownBlock ∧ some k_ ≠ (.slice Ao36 t259.length co36 : Value).ownBlock)) (HO239.out) (fun k_ hk => ⟨hk.1.1.1.1, ⟨hk.1.2, hk.2⟩⟩))))) (Reps.one (show Kd.FK (Kd.slice 49 k49) _ _ t237 [.slice Ao37 t237.length co37] from (Kd.FK_slice_mk (Kd.N_reads' (Kd.N_mono (ok' := (fun k_ => some k_ ≠ (.slice Ao6 t234.length co6 : Value).ownBlock ∧ some k_ ≠ (.slice Ao34 y256.length co34 : Value).ownBlock ∧ some k_ ≠ (.slice Ao36 t259.length co36 : Value).ownBlock)) (HO239.out) (fun k_ hk => ⟨hk.1.1.1.1, ⟨hk.1.2, hk.2⟩⟩))).2.1 (Kd.N_F (Kd.N_mono (ok' := (fun k_ => some k_ ≠ (.slice Ao6 t234.length co6 : Value).ownBlock ∧ some k_ ≠ (.slice Ao34 y256.length co34 : Value).ownBlock ∧ some k_ ≠ (.slice Ao36 t259.length co36 : Value).ownBlock)) (HO239.out) (fun k_ hk => ⟨hk.1.1.1.1, ⟨hk.1.2, hk.2⟩⟩))))) (Reps.none _ _))))
        intro v265 w39 ho40 hb hg_ hnew_
        clear hg_ hnew_
        (first | rw [← Ny264.out] at ho40 | (simp only [Int.reduceToNat] at ho40; rw [← Ny264.out] at ho40))
        have n0_ := Aside0.mk (Kd.N_elder' (by (with_reducible repeat (first | apply Kd.N_alloc | apply Kd.N_drewN | apply Kd.N_drew)); exact HO_5.out) (Kd.N_base ho40) hb)
        have n1_ := Aside0.mk (Kd.V_elder' (by (with_reducible repeat (first | apply Kd.V_alloc | apply Kd.V_drewN | apply Kd.V_drew)); exact HO244.out) (Kd.N_base ho40) hb)
        have n2_ := Aside0.mk (Kd.V_elder' (by (with_reducible repeat (first | apply Kd.V_alloc | apply Kd.V_drewN | apply Kd.V_drew)); exact HO252.out) (Kd.N_base ho40) hb)
        have n3_ := Aside0.mk (Kd.N_elder' (by (with_reducible repeat (first | apply Kd.N_alloc | apply Kd.N_drewN | apply Kd.N_drew)); exact HO258.out) (Kd.N_base ho40) hb)
        have n4_ := Aside0.mk (Kd.N_elder' (by (with_reducible repeat (first | apply Kd.N_alloc | apply Kd.N_drewN | apply Kd.N_drew)); exact HO261.out) (Kd.N_base ho40) hb)
        have n5_ := Aside0.mk (Kd.N_lower ho40 (below_size (belN HB.out)))
        have n6_ := Aside0.mk (below_step (belN HB.out) hb)
        clear HO_5
        clear HO244
        clear HO252
        clear HO258
        clear HO261
        clear HB
        replace HO239 := Aside0.mk (Kd.N_below (by (with_reducible repeat (first | apply Kd.N_alloc | apply Kd.N_drewN | apply Kd.N_drew)); exact HO239.out) hb)
        have HO_5 := n0_
        have HO244 := n1_
        have HO252 := n2_
        have HO258 := n3_
        have HO261 := n4_
        have HO266 := n5_
        have HB := n6_
        clear n0_ n1_ n2_ n3_ n4_ n5_ n6_
        clear hb ho40
        obtain ⟨Ao41, co41, eo41⟩ := Kd.N_slice HO266.out
        (first | subst eo41 | (injection eo41 with f1_ f2_ f3_; have f4_ := f1_.symm; have f5_ := f3_.symm; clear f1_ f2_ f3_; subst f4_; subst f5_))
        refine hK.out _ _ trivial (fun hHeld => ?_)
        clear hK K
        refine norm_ (a' := ?_) ?_ ?_
        rotate_left
        ·show Act.put _ (some 53) _ = _
         simp only [Act.put, List.setIfInBounds_toArray, List.set_cons_zero, List.set_cons_succ, i64_w, i32_w]
         rfl
        refine one_ (i := 22) (N := some 54) (bA 27 16777215) rfl rfl (one_of HT_.out (by kernel_rfl)) (by decide) (fun K hK => ?_)
        refine goes_ Try.func26 (by kernel_rfl) rfl #[.slice Ao41 y264.length co41] (by rfl) rfl rfl argN ?_
        with_reducible refine (merge_Join.calls _ _ y264 t267 _ ?side1 ?side2 A23.out).mono ?_
        (case side1 => repeat (first | exact (Kd.N_reads' HO266.out).2.2 | (with_reducible refine Kd.C_alloc ?_ _) | (with_reducible refine Kd.C_drewN ?_ _) | (with_reducible refine Kd.C_drew ?_)))
        (case side2 => exact (Kd.N_reads' HO266.out).2.1)
        rintro e w42 ⟨v268, rfl, ho0, hb⟩
        refine ⟨_, rfl, ?_⟩; replace HO239 := Aside0.mk (Kd.N_below (by (with_reducible repeat (first | apply Kd.N_alloc | apply Kd.N_drewN | apply Kd.N_drew)); exact HO239.out) hb)
        have n0_ := Aside0.mk (Kd.N_elder' (by (with_reducible repeat (first | apply Kd.N_alloc | apply Kd.N_drewN | apply Kd.N_drew)); exact HO_5.out) (by first | exact Kd.N_base ho0 | exact Kd.S_base ho0) hb)
        have n1_ := Aside0.mk (Kd.V_elder' (by (with_reducible repeat (first | apply Kd.V_alloc | apply Kd.V_drewN | apply Kd.V_drew)); exact HO244.out) (by first | exact Kd.N_base ho0 | exact Kd.S_base ho0) hb)
        have n2_ := Aside0.mk (Kd.V_elder' (by (with_reducible repeat (first | apply Kd.V_alloc | apply Kd.V_drewN | apply Kd.V_drew)); exact HO252.out) (by first | exact Kd.N_base ho0 | exact Kd.S_base ho0) hb)
        have n3_ := Aside0.mk (Kd.N_elder' (by (with_reducible repeat (first | apply Kd.N_alloc | apply Kd.N_drewN | apply Kd.N_drew)); exact HO258.out) (by first | exact Kd.N_base ho0 | exact Kd.S_base ho0) hb)
        have n4_ := Aside0.mk (Kd.N_elder' (by (with_reducible repeat (first | apply Kd.N_alloc | apply Kd.N_drewN | apply Kd.N_drew)); exact HO261.out) (by first | exact Kd.N_base ho0 | exact Kd.S_base ho0) hb)
        have n5_ := Aside0.mk (Kd.N_elder' (by (with_reducible repeat (first | apply Kd.N_alloc | apply Kd.N_drewN | apply Kd.N_drew)); exact HO266.out) (by first | exact Kd.N_base ho0 | exact Kd.S_base ho0) hb)
        have n6_ := Aside0.mk (Kd.N_lower (Kd.N_mono (ok' := fun k_ => some k_ ≠ (.slice Ao6 t234.length co6 : Value).ownBlock ∧ some k_ ≠ (.slice Ao34 y256.length co34 : Value).ownBlock ∧ some k_ ≠ (.slice Ao36 t259.length co36 : Value).ownBlock ∧ some k_ ≠ (.slice Ao41 y264.length co41 : Value).ownBlock) (Kd.S_N (Kd.S_bound ho0)) (fun k_ hk_ => ⟨(Kd.fresh' (Kd.N_lt (by (with_reducible repeat (first | apply Kd.N_alloc | apply Kd.N_drewN | apply Kd.N_drew)); exact HO_5.out)) k_ hk_.2.1), (Kd.fresh' (Kd.N_lt (by (with_reducible repeat (first | apply Kd.N_alloc | apply Kd.N_drewN | apply Kd.N_drew)); exact HO258.out)) k_ hk_.2.1), (Kd.fresh' (Kd.N_lt (by (with_reducible repeat (first | apply Kd.N_alloc | apply Kd.N_drewN | apply Kd.N_drew)); exact HO261.out)) k_ hk_.2.1), (Kd.fresh' (Kd.N_lt (by (with_reducible repeat (first | apply Kd.N_alloc | apply Kd.N_drewN | apply Kd.N_drew)); exact HO266.out)) k_ hk_.2.1)⟩)) (below_size (belN HB.out)))
        have n7_ := Aside0.mk (below_step (belN HB.out) hb)
        clear HO_5
        clear HO244
        clear HO252
        clear HO258
        clear HO261
        clear HO266
        clear HB
        have HO_5 := n0_
        have HO244 := n1_
        have HO252 := n2_
        have HO258 := n3_
        have HO261 := n4_
        have HO266 := n5_
        have HO269 := n6_
        have HB := n7_
        clear n0_ n1_ n2_ n3_ n4_ n5_ n6_ n7_
        (try clear hb)
        (try clear hk)
        (try clear ho0)
        obtain ⟨Ao43, co43, eo43⟩ := Kd.N_slice HO269.out
        (first | subst eo43 | (injection eo43 with f1_ f2_ f3_; have f4_ := f1_.symm; have f5_ := f3_.symm; clear f1_ f2_ f3_; subst f4_; subst f5_))
        refine hK.out _ _ trivial (fun hHeld => ?_)
        clear hK K
        refine norm_ (a' := ?_) ?_ ?_
        rotate_left
        ·show Act.put _ (some 54) _ = _
         simp only [Act.put, List.setIfInBounds_toArray, List.set_cons_zero, List.set_cons_succ, i64_w, i32_w]
         rfl
        refine one_ (i := 24) (N := some 56) (bA 27 33554431) rfl rfl (one_of HT_.out (by kernel_rfl)) (by decide) (fun K hK => ?_)
        refine goes_ Try.func27 (by kernel_rfl) rfl #[.slice Ao43 t267.length co43, .slice Ao37 t237.length co37] (by rfl) rfl rfl argN ?_
        with_reducible refine (merge_Same.calls kj3 _ _ t267 _ _ t237 t270 _ ?side1 ?side2 ?side3 ?side4 A24.out).mono ?_
        (case side1 => repeat (first | exact (Kd.N_reads' HO269.out).2.2 | (with_reducible refine Kd.C_alloc ?_ _) | (with_reducible refine Kd.C_drewN ?_ _) | (with_reducible refine Kd.C_drew ?_)))
        (case side2 => exact (Kd.N_reads' HO269.out).2.1)
        (case side3 => repeat (first | exact (Kd.N_reads' HO239.out).2.2 | (with_reducible refine Kd.C_alloc ?_ _) | (with_reducible refine Kd.C_drewN ?_ _) | (with_reducible refine Kd.C_drew ?_)))
        (case side4 => exact (Kd.N_reads' HO239.out).2.1)
        rintro e w44 ⟨rfl, hb⟩
        refine ⟨_, rfl, ?_⟩; replace HO239 := Aside0.mk (Kd.N_below (by (with_reducible repeat (first | apply Kd.N_alloc | apply Kd.N_drewN | apply Kd.N_drew)); exact HO239.out) hb)
        have n0_ := Aside0.mk (Kd.N_below (by (with_reducible repeat (first | apply Kd.N_alloc | apply Kd.N_drewN | apply Kd.N_drew)); exact HO_5.out) hb)
        have n1_ := Aside0.mk (Kd.V_below (by (with_reducible repeat (first | apply Kd.V_alloc | apply Kd.V_drewN | apply Kd.V_drew)); exact HO244.out) hb)
        have n2_ := Aside0.mk (Kd.V_below (by (with_reducible repeat (first | apply Kd.V_alloc | apply Kd.V_drewN | apply Kd.V_drew)); exact HO252.out) hb)
        have n3_ := Aside0.mk (Kd.N_below (by (with_reducible repeat (first | apply Kd.N_alloc | apply Kd.N_drewN | apply Kd.N_drew)); exact HO258.out) hb)
        have n4_ := Aside0.mk (Kd.N_below (by (with_reducible repeat (first | apply Kd.N_alloc | apply Kd.N_drewN | apply Kd.N_drew)); exact HO261.out) hb)
        have n5_ := Aside0.mk (Kd.N_below (by (with_reducible repeat (first | apply Kd.N_alloc | apply Kd.N_drewN | apply Kd.N_drew)); exact HO266.out) hb)
        have n6_ := Aside0.mk (Kd.N_below (by (with_reducible repeat (first | apply Kd.N_alloc | apply Kd.N_drewN | apply Kd.N_drew)); exact HO269.out) hb)
        have n7_ := Aside0.mk (below_step (belN HB.out) hb)
        clear HO_5
        clear HO244
        clear HO252
        clear HO258
        clear HO261
        clear HO266
        clear HO269
        clear HB
        have HO_5 := n0_
        have HO244 := n1_
        have HO252 := n2_
        have HO258 := n3_
        have HO261 := n4_
        have HO266 := n5_
        have HO269 := n6_
        have HB := n7_
        clear n0_ n1_ n2_ n3_ n4_ n5_ n6_ n7_
        (try clear hb)
        (try clear hk)
        refine hK.out _ _ trivial (fun hHeld => ?_)
        clear hK K
        refine norm_ (a' := ?_) ?_ ?_
        rotate_left
        ·show Act.put _ (some 56) _ = _
         simp only [Act.put, List.setIfInBounds_toArray, List.set_cons_zero, List.set_cons_succ, i64_w, i32_w]
         rfl
        refine pA 25 (some 57) (bA 27 67108863) HT_.out ?_
        refine pA 26 (some 58) (bA 27 134217727) HT_.out ?_
        refine done_ (done_of HT_.out (by kernel_rfl)) ?_
        try go_wp2
        go_meet
        case rel => exact ⟨_, (!t270), (by first | rfl | (simp; done) | (simp [*]; done)), H', ⟨by have := HJ3.out; first | omega | exact Nat.le_refl _⟩, ⟨by (with_reducible repeat (first | apply Kd.N_alloc | apply Kd.N_drewN | apply Kd.N_drew)); exact Kd.N_mono HO_5.out (fun _ hk => hk.1.1.1.1.1.1.2)⟩, ⟨by (with_reducible repeat (first | apply Kd.N_alloc | apply Kd.N_drewN | apply Kd.N_drew)); first | exact HO239.out | exact Kd.N_mono HO239.out (fun _ _ => trivial)⟩, ⟨(belN HB.out)⟩⟩
       ·replace c22 := Bool.eq_false_iff.mpr c22
        subst c22
        have H1 : (marigraphlaw9_MergeJoins.j1 kj3 t234 t237 true) = some r := by rw [if_neg (show ¬ (false = true) by decide)] at H; exact H
        clear H
        have H := H1
        clear H1
        have H' := Aside0.mk H
        clear H
        try go_wp2
        have n0_ := Aside0.mk (Kd.N_drew HO_5.out)
        have n1_ := Aside0.mk (Kd.N_drew HO239.out)
        have n2_ := Aside0.mk (below_drew1 HB.out)
        clear HO_5
        clear HO239
        clear HB
        have HO_5 := n0_
        have HO239 := n1_
        have HB := n2_
        clear n0_ n1_ n2_
        have q46 : (x6_3 : Int) ≤ ((t234.length : Int) : Int) := of_decide_eq_true (by first | (with_reducible assumption) | assumption)
        obtain ⟨i046, hi046, _, hsz46, _⟩ := info_parts info37
        have hroom46 : t234.length ≤ co6 := (Kd.N_reads' HO_5.out).2.1
        have hC46 : Kd.F (Kd.slice 49 k49) _ _ Ao6 t234.length t234 := (Kd.V_at (base := w.heap.size) (Kd.N_V HO_5.out)).2.2
        have hcut46 := cut_to (P := Try.prog) 44 37 .i64 Try.underlying44 hi046 Ao6 t234.length co6 x6_3 (of_decide_eq_true (by first | (with_reducible assumption) | assumption)) q46 hroom46
        have hr46 := Kd.F_take (m := (x6_3 : Int).toNat) hC46 (by omega)
        have hy46 : y240.length = (x6_3 : Int).toNat := (by rw [Ny240.out, List.length_take]; omega)
        rw [← Ny240.out] at hr46
        rw [← hy46] at hcut46
        have HO244 := Aside0.mk (show Kd.V (Kd.slice 49 k49) 37 _ w.heap.size _ (.slice Ao6 y240.length co6) y240 from Kd.V_mk (by omega) hr46)
        have HC244 := Aside0.mk (show y240.length ≤ co6 from by omega)
        clear hr46 hC46 hroom46 hi046 hsz46
        have KY46 := Aside0.mk hy46
        clear hy46
        replace q46 := eq_true q46
        have q47 : (x6_3 : Int) ≤ ((t234.length : Int) : Int) := of_decide_eq_true (by first | (with_reducible assumption) | assumption)
        obtain ⟨i047, hi047, _, hsz47, _⟩ := info_parts info37
        have hroom47 : t234.length ≤ co6 := (Kd.N_reads' HO_5.out).2.1
        have hC47 : Kd.F (Kd.slice 49 k49) _ _ Ao6 t234.length t234 := (Kd.V_at (base := w.heap.size) (Kd.N_V HO_5.out)).2.2
        have q047 : (0 : Int) ≤ (x6_3 : Int) := of_decide_eq_true (by first | (with_reducible assumption) | assumption)
        have hcut47 := cut_from (P := Try.prog) 44 37 .i64 Try.underlying44 hi047 1 hsz47 Ao6 t234.length co6 x6_3 q047 q47
        have hr47 := Kd.F_cut (m := (x6_3 : Int).toNat) (c := co6) hC47 (by omega) hroom47
        obtain ⟨A47, hA47⟩ : ∃ A1, A1 = (if co6 = (x6_3 : Int).toNat then Ao6 else (Ao6 : Option Addr).map (·.add ((x6_3 : Int).toNat * 1))) := ⟨_, rfl⟩
        obtain ⟨c47, hc47⟩ : ∃ c1, c1 = co6 - (x6_3 : Int).toNat := ⟨_, rfl⟩
        have hy47 : y248.length = t234.length - (x6_3 : Int).toNat := (by rw [Ny248.out, List.length_drop] <;> omega)
        rw [show (t234).drop (x6_3 : Int).toNat = y248 from Ny248.out.symm] at hr47
        replace hr47 : Kd.F (Kd.slice 49 k49) _ _ A47 y248.length y248 := (by rw [hA47]; exact hr47)
        rw [← hy47, ← hA47, ← hc47] at hcut47
        have HO252 := Aside0.mk (show Kd.V (Kd.slice 49 k49) 37 _ w.heap.size _ (.slice A47 y248.length c47) y248 from Kd.V_mk (by rw [hy47, hc47]; exact Nat.sub_le_sub_right hroom47 _) hr47)
        have HC252 := Aside0.mk (show y248.length ≤ c47 from by rw [hy47, hc47]; exact Nat.sub_le_sub_right hroom47 _)
        clear hr47 hC47 hroom47 hi047 hsz47 hc47
        have KY47 := Aside0.mk hy47
        have KA47 := Aside0.mk hA47
        clear hy47 hA47
        replace q47 := eq_true q47
        refine start_ (n := 27) (S := fun w' => True) (ds := []) #[false, false, false, false, false, false, false, false, false, false, false, false, false, false, false, false, false, false, false, false, false, false, false, false, false, false, false] (by kernel_rfl) rfl rfl trivial (fun hHeld => ?_); refine with_tabW marigraphlaw9_MergeJoins.tab6 marigraphlaw9_MergeJoins.bits6 (fun HT_ HW_ => ?_)
        generalize w11.drew = w45 at HO_5 HO239 HB HO244 HO252 hHeld ⊢
        refine pA 0 (some 32) (bA 27 1) HT_.out ?_
        refine pA 1 (some 33) (bA 27 3) HT_.out ?_
        refine pA 2 (some 34) (bA 27 7) HT_.out ?_
        refine pA 4 (some 36) (bA 27 23) HT_.out ?_
        refine pA 5 (some 37) (bA 27 55) HT_.out ?_
        refine pA 6 (some 38) (bA 27 119) HT_.out ?_
        refine pA 10 (some 42) (bA 27 1143) HT_.out ?_
        refine one_ (i := 3) (N := some 35) (bA 27 1151) rfl rfl (one_of HT_.out (by kernel_rfl)) (by decide) (fun K hK => ?_)
        refine goes_ Try.func26 (by kernel_rfl) rfl #[.slice Ao6 y240.length co6] (by rfl) rfl rfl argN ?_
        with_reducible refine (merge_Join.calls _ _ y240 t245 _ ?side1 ?side2 A14.out).mono ?_
        (case side1 => repeat (first | exact (Kd.V_reads' HO244.out).2.2 | (with_reducible refine Kd.C_alloc ?_ _) | (with_reducible refine Kd.C_drewN ?_ _) | (with_reducible refine Kd.C_drew ?_)))
        (case side2 => exact (Kd.V_reads' HO244.out).2.1)
        rintro e w48 ⟨v246, rfl, ho0, hb⟩
        refine ⟨_, rfl, ?_⟩
        have n0_ := Aside0.mk (Kd.N_elder' (by (with_reducible repeat (first | apply Kd.N_alloc | apply Kd.N_drewN | apply Kd.N_drew)); exact HO_5.out) (by first | exact Kd.N_base ho0 | exact Kd.S_base ho0) hb)
        have n1_ := Aside0.mk (Kd.N_elder' (by (with_reducible repeat (first | apply Kd.N_alloc | apply Kd.N_drewN | apply Kd.N_drew)); exact HO239.out) (by first | exact Kd.N_base ho0 | exact Kd.S_base ho0) hb)
        have n2_ := Aside0.mk (Kd.V_elder' (by (with_reducible repeat (first | apply Kd.V_alloc | apply Kd.V_drewN | apply Kd.V_drew)); exact HO244.out) (by first | exact Kd.N_base ho0 | exact Kd.S_base ho0) hb)
        have n3_ := Aside0.mk (Kd.V_elder' (by (with_reducible repeat (first | apply Kd.V_alloc | apply Kd.V_drewN | apply Kd.V_drew)); exact HO252.out) (by first | exact Kd.N_base ho0 | exact Kd.S_base ho0) hb)
        have n4_ := Aside0.mk (Kd.N_lower (Kd.N_mono (ok' := fun k_ => some k_ ≠ (.slice Ao6 t234.length co6 : Value).ownBlock ∧ some k_ ≠ (v238 : Value).ownBlock) (Kd.S_N (Kd.S_bound ho0)) (fun k_ hk_ => ⟨(Kd.fresh' (Kd.N_lt (by (with_reducible repeat (first | apply Kd.N_alloc | apply Kd.N_drewN | apply Kd.N_drew)); exact HO_5.out)) k_ hk_.2.1), (Kd.fresh' (Kd.N_lt (by (with_reducible repeat (first | apply Kd.N_alloc | apply Kd.N_drewN | apply Kd.N_drew)); exact HO239.out)) k_ hk_.2.1)⟩)) (below_size (belN HB.out)))
        have n5_ := Aside0.mk (below_step (belN HB.out) hb)
        clear HO_5
        clear HO239
        clear HO244
        clear HO252
        clear HB
        have HO_5 := n0_
        have HO239 := n1_
        have HO244 := n2_
        have HO252 := n3_
        have HO247 := n4_
        have HB := n5_
        clear n0_ n1_ n2_ n3_ n4_ n5_
        (try clear hb)
        (try clear hk)
        (try clear ho0)
        refine hK.out _ _ trivial (fun hHeld => ?_)
        clear hK K
        refine norm_ (a' := ?_) ?_ ?_
        rotate_left
        ·show Act.put _ (some 35) _ = _
         simp only [Act.put, List.setIfInBounds_toArray, List.set_cons_zero, List.set_cons_succ, i64_w, i32_w]
         rfl
        refine one_ (i := 7) (N := some 39) (bA 27 1279) rfl rfl (one_of HT_.out (by kernel_rfl)) (by decide) (fun K hK => ?_)
        refine goes_ Try.func26 (by kernel_rfl) rfl #[.slice A47 y248.length c47] (by rfl) rfl rfl argN ?_
        with_reducible refine (merge_Join.calls _ _ y248 t253 _ ?side1 ?side2 A17.out).mono ?_
        (case side1 => repeat (first | exact (Kd.V_reads' HO252.out).2.2 | (with_reducible refine Kd.C_alloc ?_ _) | (with_reducible refine Kd.C_drewN ?_ _) | (with_reducible refine Kd.C_drew ?_)))
        (case side2 => exact (Kd.V_reads' HO252.out).2.1)
        rintro e w49 ⟨v254, rfl, ho0, hb⟩
        refine ⟨_, rfl, ?_⟩
        have n0_ := Aside0.mk (Kd.N_elder' (by (with_reducible repeat (first | apply Kd.N_alloc | apply Kd.N_drewN | apply Kd.N_drew)); exact HO_5.out) (by first | exact Kd.N_base ho0 | exact Kd.S_base ho0) hb)
        have n1_ := Aside0.mk (Kd.N_elder' (by (with_reducible repeat (first | apply Kd.N_alloc | apply Kd.N_drewN | apply Kd.N_drew)); exact HO239.out) (by first | exact Kd.N_base ho0 | exact Kd.S_base ho0) hb)
        have n2_ := Aside0.mk (Kd.V_elder' (by (with_reducible repeat (first | apply Kd.V_alloc | apply Kd.V_drewN | apply Kd.V_drew)); exact HO244.out) (by first | exact Kd.N_base ho0 | exact Kd.S_base ho0) hb)
        have n3_ := Aside0.mk (Kd.V_elder' (by (with_reducible repeat (first | apply Kd.V_alloc | apply Kd.V_drewN | apply Kd.V_drew)); exact HO252.out) (by first | exact Kd.N_base ho0 | exact Kd.S_base ho0) hb)
        have n4_ := Aside0.mk (Kd.N_elder' (by (with_reducible repeat (first | apply Kd.N_alloc | apply Kd.N_drewN | apply Kd.N_drew)); exact HO247.out) (by first | exact Kd.N_base ho0 | exact Kd.S_base ho0) hb)
        have n5_ := Aside0.mk (Kd.N_lower (Kd.N_mono (ok' := fun k_ => some k_ ≠ (.slice Ao6 t234.length co6 : Value).ownBlock ∧ some k_ ≠ (v238 : Value).ownBlock ∧ some k_ ≠ (v246 : Value).ownBlock) (Kd.S_N (Kd.S_bound ho0)) (fun k_ hk_ => ⟨(Kd.fresh' (Kd.N_lt (by (with_reducible repeat (first | apply Kd.N_alloc | apply Kd.N_drewN | apply Kd.N_drew)); exact HO_5.out)) k_ hk_.2.1), (Kd.fresh' (Kd.N_lt (by (with_reducible repeat (first | apply Kd.N_alloc | apply Kd.N_drewN | apply Kd.N_drew)); exact HO239.out)) k_ hk_.2.1), (Kd.fresh' (Kd.N_lt (by (with_reducible repeat (first | apply Kd.N_alloc | apply Kd.N_drewN | apply Kd.N_drew)); exact HO247.out)) k_ hk_.2.1)⟩)) (below_size (belN HB.out)))
        have n6_ := Aside0.mk (below_step (belN HB.out) hb)
        clear HO_5
        clear HO239
        clear HO244
        clear HO252
        clear HO247
        clear HB
        have HO_5 := n0_
        have HO239 := n1_
        have HO244 := n2_
        have HO252 := n3_
        have HO247 := n4_
        have HO255 := n5_
        have HB := n6_
        clear n0_ n1_ n2_ n3_ n4_ n5_ n6_
        (try clear hb)
        (try clear hk)
        (try clear ho0)
        obtain ⟨Ao50, co50, eo50⟩ := Kd.N_slice HO247.out
        (first | subst eo50 | (injection eo50 with f1_ f2_ f3_; have f4_ := f1_.symm; have f5_ := f3_.symm; clear f1_ f2_ f3_; subst f4_; subst f5_))
        obtain ⟨Ao51, co51, eo51⟩ := Kd.N_slice HO255.out
        (first | subst eo51 | (injection eo51 with f1_ f2_ f3_; have f4_ := f1_.symm; have f5_ := f3_.symm; clear f1_ f2_ f3_; subst f4_; subst f5_))
        refine hK.out _ _ trivial (fun hHeld => ?_)
        clear hK K
        refine norm_ (a' := ?_) ?_ ?_
        rotate_left
        ·show Act.put _ (some 39) _ = _
         simp only [Act.put, List.setIfInBounds_toArray, List.set_cons_zero, List.set_cons_succ, i64_w, i32_w]
         rfl
        refine one_ (i := 8) (N := some 40) (bA 27 1535) rfl rfl (one_of HT_.out (by kernel_rfl)) (by decide) (fun K hK => ?_)
        refine Kd.N_lit_step (Kd.slice 49 k49) _ 37 ?hg (N' := 40) ?hd (xs := ([t245, t253] : List (List (S49)))) (inner := [.slice Ao50 t245.length co50, .slice Ao51 t253.length co51]) (ok := (fun k_ => some k_ ≠ (.slice Ao6 t234.length co6 : Value).ownBlock ∧ some k_ ≠ (v238 : Value).ownBlock)) (okp := (fun k_ => some k_ ≠ (.slice Ao6 t234.length co6 : Value).ownBlock ∧ some k_ ≠ (v238 : Value).ownBlock)) ?hr ?hp (fun _ hk => hk) ((show ∀ k_, w49.heap.size ≤ k_ → (fun k_ => some k_ ≠ (.slice Ao6 t234.length co6 : Value).ownBlock ∧ some k_ ≠ (v238 : Value).ownBlock) k_ from fun k_ hk => ⟨Kd.fresh' (Kd.N_lt (by (with_reducible repeat (first | apply Kd.N_alloc | apply Kd.N_drewN | apply Kd.N_drew)); exact HO_5.out)) k_ hk, Kd.fresh' (Kd.N_lt (by (with_reducible repeat (first | apply Kd.N_alloc | apply Kd.N_drewN | apply Kd.N_drew)); exact HO239.out)) k_ hk⟩) _ (Nat.le_refl _)) (Below.refl _ _) (Nat.le_refl _) (by simp) ?_; (case hd => rfl); (case hg => rfl); (case hr => first | (go_simp; done) | (go_simp; rfl)); (case hp => exact (Reps.one (show Kd.FK (Kd.slice 49 k49) _ _ t245 [.slice Ao50 t245.length co50] from (Kd.FK_slice_mk (Kd.N_reads' (Kd.N_mono (ok' := (fun k_ => some k_ ≠ (.slice Ao6 t234.length co6 : Value).ownBlock ∧ some k_ ≠ (v238 : Value).ownBlock)) (HO247.out) (fun k_ hk => ⟨hk.1.1, hk.1.2⟩))).2.1 (Kd.N_F (Kd.N_mono (ok' := (fun k_ => some k_ ≠ (.slice Ao6 t234.length co6 : Value).ownBlock ∧ some k_ ≠ (v238 : Value).ownBlock)) (HO247.out) (fun k_ hk => ⟨hk.1.1, hk.1.2⟩))))) (Reps.one (show Kd.FK (Kd.slice 49 k49) _ _ t253 [.slice Ao51 t253.length co51] from (Kd.FK_slice_mk (Kd.N_reads' (Kd.N_mono (ok' := (fun k_ => some k_ ≠ (.slice Ao6 t234.length co6 : Value).ownBlock ∧ some k_ ≠ (v238 : Value).ownBlock)) (HO255.out) (fun k_ hk => ⟨hk.1, hk.2.1⟩))).2.1 (Kd.N_F (Kd.N_mono (ok' := (fun k_ => some k_ ≠ (.slice Ao6 t234.length co6 : Value).ownBlock ∧ some k_ ≠ (v238 : Value).ownBlock)) (HO255.out) (fun k_ hk => ⟨hk.1, hk.2.1⟩))))) (Reps.none _ _))))
        intro v257 w52 ho53 hb hg_ hnew_
        clear hg_ hnew_
        (first | rw [← Ny256.out] at ho53 | (simp only [Int.reduceToNat] at ho53; rw [← Ny256.out] at ho53))
        have n0_ := Aside0.mk (Kd.N_elder' (by (with_reducible repeat (first | apply Kd.N_alloc | apply Kd.N_drewN | apply Kd.N_drew)); exact HO_5.out) (Kd.N_base ho53) hb)
        have n1_ := Aside0.mk (Kd.N_elder' (by (with_reducible repeat (first | apply Kd.N_alloc | apply Kd.N_drewN | apply Kd.N_drew)); exact HO239.out) (Kd.N_base ho53) hb)
        have n2_ := Aside0.mk (Kd.V_elder' (by (with_reducible repeat (first | apply Kd.V_alloc | apply Kd.V_drewN | apply Kd.V_drew)); exact HO244.out) (Kd.N_base ho53) hb)
        have n3_ := Aside0.mk (Kd.V_elder' (by (with_reducible repeat (first | apply Kd.V_alloc | apply Kd.V_drewN | apply Kd.V_drew)); exact HO252.out) (Kd.N_base ho53) hb)
        have n4_ := Aside0.mk (Kd.N_lower ho53 (below_size (belN HB.out)))
        have n5_ := Aside0.mk (below_step (belN HB.out) hb)
        clear HO_5
        clear HO239
        clear HO244
        clear HO252
        clear HB
        clear HO247
        clear HO255
        have HO_5 := n0_
        have HO239 := n1_
        have HO244 := n2_
        have HO252 := n3_
        have HO258 := n4_
        have HB := n5_
        clear n0_ n1_ n2_ n3_ n4_ n5_
        clear hb ho53
        obtain ⟨Ao54, co54, eo54⟩ := Kd.N_slice HO258.out
        (first | subst eo54 | (injection eo54 with f1_ f2_ f3_; have f4_ := f1_.symm; have f5_ := f3_.symm; clear f1_ f2_ f3_; subst f4_; subst f5_))
        refine hK.out _ _ trivial (fun hHeld => ?_)
        clear hK K
        refine norm_ (a' := ?_) ?_ ?_
        rotate_left
        ·show Act.put _ (some 40) _ = _
         simp only [Act.put, List.setIfInBounds_toArray, List.set_cons_zero, List.set_cons_succ, i64_w, i32_w]
         rfl
        refine one_ (i := 9) (N := some 41) (bA 27 2047) rfl rfl (one_of HT_.out (by kernel_rfl)) (by decide) (fun K hK => ?_)
        refine goes_ Try.func26 (by kernel_rfl) rfl #[.slice Ao54 y256.length co54] (by rfl) rfl rfl argN ?_
        with_reducible refine (merge_Join.calls _ _ y256 t259 _ ?side1 ?side2 A18.out).mono ?_
        (case side1 => repeat (first | exact (Kd.N_reads' HO258.out).2.2 | (with_reducible refine Kd.C_alloc ?_ _) | (with_reducible refine Kd.C_drewN ?_ _) | (with_reducible refine Kd.C_drew ?_)))
        (case side2 => exact (Kd.N_reads' HO258.out).2.1)
        rintro e w55 ⟨v260, rfl, ho0, hb⟩
        refine ⟨_, rfl, ?_⟩
        have n0_ := Aside0.mk (Kd.N_elder' (by (with_reducible repeat (first | apply Kd.N_alloc | apply Kd.N_drewN | apply Kd.N_drew)); exact HO_5.out) (by first | exact Kd.N_base ho0 | exact Kd.S_base ho0) hb)
        have n1_ := Aside0.mk (Kd.N_elder' (by (with_reducible repeat (first | apply Kd.N_alloc | apply Kd.N_drewN | apply Kd.N_drew)); exact HO239.out) (by first | exact Kd.N_base ho0 | exact Kd.S_base ho0) hb)
        have n2_ := Aside0.mk (Kd.V_elder' (by (with_reducible repeat (first | apply Kd.V_alloc | apply Kd.V_drewN | apply Kd.V_drew)); exact HO244.out) (by first | exact Kd.N_base ho0 | exact Kd.S_base ho0) hb)
        have n3_ := Aside0.mk (Kd.V_elder' (by (with_reducible repeat (first | apply Kd.V_alloc | apply Kd.V_drewN | apply Kd.V_drew)); exact HO252.out) (by first | exact Kd.N_base ho0 | exact Kd.S_base ho0) hb)
        have n4_ := Aside0.mk (Kd.N_elder' (by (with_reducible repeat (first | apply Kd.N_alloc | apply Kd.N_drewN | apply Kd.N_drew)); exact HO258.out) (by first | exact Kd.N_base ho0 | exact Kd.S_base ho0) hb)
        have n5_ := Aside0.mk (Kd.N_lower (Kd.N_mono (ok' := fun k_ => some k_ ≠ (.slice Ao6 t234.length co6 : Value).ownBlock ∧ some k_ ≠ (v238 : Value).ownBlock ∧ some k_ ≠ (.slice Ao54 y256.length co54 : Value).ownBlock) (Kd.S_N (Kd.S_bound ho0)) (fun k_ hk_ => ⟨(Kd.fresh' (Kd.N_lt (by (with_reducible repeat (first | apply Kd.N_alloc | apply Kd.N_drewN | apply Kd.N_drew)); exact HO_5.out)) k_ hk_.2.1), (Kd.fresh' (Kd.N_lt (by (with_reducible repeat (first | apply Kd.N_alloc | apply Kd.N_drewN | apply Kd.N_drew)); exact HO239.out)) k_ hk_.2.1), (Kd.fresh' (Kd.N_lt (by (with_reducible repeat (first | apply Kd.N_alloc | apply Kd.N_drewN | apply Kd.N_drew)); exact HO258.out)) k_ hk_.2.1)⟩)) (below_size (belN HB.out)))
        have n6_ := Aside0.mk (below_step (belN HB.out) hb)
        clear HO_5
        clear HO239
        clear HO244
        clear HO252
        clear HO258
        clear HB
        have HO_5 := n0_
        have HO239 := n1_
        have HO244 := n2_
        have HO252 := n3_
        have HO258 := n4_
        have HO261 := n5_
        have HB := n6_
        clear n0_ n1_ n2_ n3_ n4_ n5_ n6_
        (try clear hb)
        (try clear hk)
        (try clear ho0)
        obtain ⟨Ao56, co56, eo56⟩ := Kd.N_slice HO261.out
        (first | subst eo56 | (injection eo56 with f1_ f2_ f3_; have f4_ := f1_.symm; have f5_ := f3_.symm; clear f1_ f2_ f3_; subst f4_; subst f5_))
        obtain ⟨Ao57, co57, eo57⟩ := Kd.N_slice HO239.out
        (first | subst eo57 | (injection eo57 with f1_ f2_ f3_; have f4_ := f1_.symm; have f5_ := f3_.symm; clear f1_ f2_ f3_; subst f4_; subst f5_))
        refine hK.out _ _ trivial (fun hHeld => ?_)
        clear hK K
        refine norm_ (a' := ?_) ?_ ?_
        rotate_left
        ·show Act.put _ (some 41) _ = _
         simp only [Act.put, List.setIfInBounds_toArray, List.set_cons_zero, List.set_cons_succ, i64_w, i32_w]
         rfl
        refine one_ (i := 11) (N := some 43) (bA 27 4095) rfl rfl (one_of HT_.out (by kernel_rfl)) (by decide) (fun K hK => ?_)
        refine goes_ Try.func27 (by kernel_rfl) rfl #[.slice Ao56 t259.length co56, .slice Ao57 t237.length co57] (by rfl) rfl rfl argN ?_
        with_reducible refine (merge_Same.calls kj3 _ _ t259 _ _ t237 true _ ?side1 ?side2 ?side3 ?side4 A19.out).mono ?_
        (case side1 => repeat (first | exact (Kd.N_reads' HO261.out).2.2 | (with_reducible refine Kd.C_alloc ?_ _) | (with_reducible refine Kd.C_drewN ?_ _) | (with_reducible refine Kd.C_drew ?_)))
        (case side2 => exact (Kd.N_reads' HO261.out).2.1)
        (case side3 => repeat (first | exact (Kd.N_reads' HO239.out).2.2 | (with_reducible refine Kd.C_alloc ?_ _) | (with_reducible refine Kd.C_drewN ?_ _) | (with_reducible refine Kd.C_drew ?_)))
        (case side4 => exact (Kd.N_reads' HO239.out).2.1)
        rintro e w58 ⟨rfl, hb⟩
        refine ⟨_, rfl, ?_⟩
        have n0_ := Aside0.mk (Kd.N_below (by (with_reducible repeat (first | apply Kd.N_alloc | apply Kd.N_drewN | apply Kd.N_drew)); exact HO_5.out) hb)
        have n1_ := Aside0.mk (Kd.N_below (by (with_reducible repeat (first | apply Kd.N_alloc | apply Kd.N_drewN | apply Kd.N_drew)); exact HO239.out) hb)
        have n2_ := Aside0.mk (Kd.V_below (by (with_reducible repeat (first | apply Kd.V_alloc | apply Kd.V_drewN | apply Kd.V_drew)); exact HO244.out) hb)
        have n3_ := Aside0.mk (Kd.V_below (by (with_reducible repeat (first | apply Kd.V_alloc | apply Kd.V_drewN | apply Kd.V_drew)); exact HO252.out) hb)
        have n4_ := Aside0.mk (Kd.N_below (by (with_reducible repeat (first | apply Kd.N_alloc | apply Kd.N_drewN | apply Kd.N_drew)); exact HO258.out) hb)
        have n5_ := Aside0.mk (Kd.N_below (by (with_reducible repeat (first | apply Kd.N_alloc | apply Kd.N_drewN | apply Kd.N_drew)); exact HO261.out) hb)
        have n6_ := Aside0.mk (below_step (belN HB.out) hb)
        clear HO_5
        clear HO239
        clear HO244
        clear HO252
        clear HO258
        clear HO261
        clear HB
        have HO_5 := n0_
        have HO239 := n1_
        have HO244 := n2_
        have HO252 := n3_
        have HO258 := n4_
        have HO261 := n5_
        have HB := n6_
        clear n0_ n1_ n2_ n3_ n4_ n5_ n6_
        (try clear hb)
        (try clear hk)
        refine hK.out _ _ trivial (fun hHeld => ?_)
        clear hK K
        refine norm_ (a' := ?_) ?_ ?_
        rotate_left
        ·show Act.put _ (some 43) _ = _
         simp only [Act.put, List.setIfInBounds_toArray, List.set_cons_zero, List.set_cons_succ, i64_w, i32_w]
         rfl
        refine pA 12 (some 44) (bA 27 8191) HT_.out ?_
        refine pA 13 (some 45) (bA 27 16383) HT_.out ?_
        refine pA 14 (some 46) (bA 27 32767) HT_.out ?_
        refine one_ (i := 15) (N := some 47) (bA 27 65535) rfl rfl (one_of HT_.out (by kernel_rfl)) (by decide) (fun K hK => ?_)
        refine goes_ Try.func28 (by kernel_rfl) rfl #[.slice Ao57 t237.length co57] (by rfl) rfl rfl argN ?_
        with_reducible refine (marigraphlaw9_right.calls kj3 _ _ t237 false _ ?side1 ?side2 A21.out).mono ?_
        (case side1 => repeat (first | exact (Kd.N_reads' HO239.out).2.2 | (with_reducible refine Kd.C_alloc ?_ _) | (with_reducible refine Kd.C_drewN ?_ _) | (with_reducible refine Kd.C_drew ?_)))
        (case side2 => exact (Kd.N_reads' HO239.out).2.1)
        rintro e w' ⟨rfl, ⟨nd, rfl⟩⟩
        refine ⟨_, rfl, ?_⟩
        refine hK.out _ _ trivial (fun hHeld => ?_)
        clear hK K
        refine norm_ (a' := ?_) ?_ ?_
        rotate_left
        ·show Act.put _ (some 47) _ = _
         simp only [Act.put, List.setIfInBounds_toArray, List.set_cons_zero, List.set_cons_succ, i64_w, i32_w]
         rfl
        refine pA 16 (some 48) (bA 27 131071) HT_.out ?_
        refine pA 17 (some 49) (bA 27 262143) HT_.out ?_
        refine pA 18 (some 50) (bA 27 524287) HT_.out ?_
        refine pU 19 (some 51) (bA 27 1048575) HT_.out ?_
        refine pU 20 (some 52) (bA 27 2097151) HT_.out ?_
        refine pU 21 (some 53) (bA 27 4194303) HT_.out ?_
        refine pU 22 (some 54) (bA 27 8388607) HT_.out ?_
        refine pU 23 (some 55) (bA 27 16777215) HT_.out ?_
        refine pU 24 (some 56) (bA 27 33554431) HT_.out ?_
        refine pU 25 (some 57) (bA 27 67108863) HT_.out ?_
        refine pA 26 (some 58) (bA 27 134217727) HT_.out ?_
        refine done_ (done_of HT_.out (by kernel_rfl)) ?_
        try go_wp2
        go_meet
        case rel => exact ⟨_, (true), (by first | rfl | (simp; done) | (simp [*]; done)), H', ⟨by have := HJ3.out; first | omega | exact Nat.le_refl _⟩, ⟨by (with_reducible repeat (first | apply Kd.N_alloc | apply Kd.N_drewN | apply Kd.N_drew)); exact Kd.N_mono HO_5.out (fun _ hk => hk.1.1.1.1.2)⟩, ⟨by (with_reducible repeat (first | apply Kd.N_alloc | apply Kd.N_drewN | apply Kd.N_drew)); exact Kd.N_mono HO239.out (fun _ hk => trivial)⟩, ⟨(belN HB.out)⟩⟩
      ·replace c20 := Bool.eq_false_iff.mpr c20
       subst c20
       have H1 : (marigraphlaw9_MergeJoins.j1 kj3 t234 t237 true) = some r := by rw [if_neg (show ¬ (false = true) by decide)] at H; exact H
       clear H
       have H := H1
       clear H1
       have H' := Aside0.mk H
       clear H
       try go_wp2
       have n0_ := Aside0.mk (Kd.N_drew HO_5.out)
       have n1_ := Aside0.mk (Kd.N_drew HO239.out)
       have n2_ := Aside0.mk (below_drew1 HB.out)
       clear HO_5
       clear HO239
       clear HB
       have HO_5 := n0_
       have HO239 := n1_
       have HB := n2_
       clear n0_ n1_ n2_
       have q60 : (x6_3 : Int) ≤ ((t234.length : Int) : Int) := of_decide_eq_true (by first | (with_reducible assumption) | assumption)
       obtain ⟨i060, hi060, _, hsz60, _⟩ := info_parts info37
       have hroom60 : t234.length ≤ co6 := (Kd.N_reads' HO_5.out).2.1
       have hC60 : Kd.F (Kd.slice 49 k49) _ _ Ao6 t234.length t234 := (Kd.V_at (base := w.heap.size) (Kd.N_V HO_5.out)).2.2
       have hcut60 := cut_to (P := Try.prog) 44 37 .i64 Try.underlying44 hi060 Ao6 t234.length co6 x6_3 (of_decide_eq_true (by first | (with_reducible assumption) | assumption)) q60 hroom60
       have hr60 := Kd.F_take (m := (x6_3 : Int).toNat) hC60 (by omega)
       have hy60 : y240.length = (x6_3 : Int).toNat := (by rw [Ny240.out, List.length_take]; omega)
       rw [← Ny240.out] at hr60
       rw [← hy60] at hcut60
       have HO244 := Aside0.mk (show Kd.V (Kd.slice 49 k49) 37 _ w.heap.size _ (.slice Ao6 y240.length co6) y240 from Kd.V_mk (by omega) hr60)
       have HC244 := Aside0.mk (show y240.length ≤ co6 from by omega)
       clear hr60 hC60 hroom60 hi060 hsz60
       have KY60 := Aside0.mk hy60
       clear hy60
       replace q60 := eq_true q60
       have q61 : (x6_3 : Int) ≤ ((t234.length : Int) : Int) := of_decide_eq_true (by first | (with_reducible assumption) | assumption)
       obtain ⟨i061, hi061, _, hsz61, _⟩ := info_parts info37
       have hroom61 : t234.length ≤ co6 := (Kd.N_reads' HO_5.out).2.1
       have hC61 : Kd.F (Kd.slice 49 k49) _ _ Ao6 t234.length t234 := (Kd.V_at (base := w.heap.size) (Kd.N_V HO_5.out)).2.2
       have q061 : (0 : Int) ≤ (x6_3 : Int) := of_decide_eq_true (by first | (with_reducible assumption) | assumption)
       have hcut61 := cut_from (P := Try.prog) 44 37 .i64 Try.underlying44 hi061 1 hsz61 Ao6 t234.length co6 x6_3 q061 q61
       have hr61 := Kd.F_cut (m := (x6_3 : Int).toNat) (c := co6) hC61 (by omega) hroom61
       obtain ⟨A61, hA61⟩ : ∃ A1, A1 = (if co6 = (x6_3 : Int).toNat then Ao6 else (Ao6 : Option Addr).map (·.add ((x6_3 : Int).toNat * 1))) := ⟨_, rfl⟩
       obtain ⟨c61, hc61⟩ : ∃ c1, c1 = co6 - (x6_3 : Int).toNat := ⟨_, rfl⟩
       have hy61 : y248.length = t234.length - (x6_3 : Int).toNat := (by rw [Ny248.out, List.length_drop] <;> omega)
       rw [show (t234).drop (x6_3 : Int).toNat = y248 from Ny248.out.symm] at hr61
       replace hr61 : Kd.F (Kd.slice 49 k49) _ _ A61 y248.length y248 := (by rw [hA61]; exact hr61)
       rw [← hy61, ← hA61, ← hc61] at hcut61
       have HO252 := Aside0.mk (show Kd.V (Kd.slice 49 k49) 37 _ w.heap.size _ (.slice A61 y248.length c61) y248 from Kd.V_mk (by rw [hy61, hc61]; exact Nat.sub_le_sub_right hroom61 _) hr61)
       have HC252 := Aside0.mk (show y248.length ≤ c61 from by rw [hy61, hc61]; exact Nat.sub_le_sub_right hroom61 _)
       clear hr61 hC61 hroom61 hi061 hsz61 hc61
       have KY61 := Aside0.mk hy61
       have KA61 := Aside0.mk hA61
       clear hy61 hA61
       replace q61 := eq_true q61
       refine start_ (n := 27) (S := fun w' => True) (ds := []) #[false, false, false, false, false, false, false, false, false, false, false, false, false, false, false, false, false, false, false, false, false, false, false, false, false, false, false] (by kernel_rfl) rfl rfl trivial (fun hHeld => ?_); refine with_tabW marigraphlaw9_MergeJoins.tab6 marigraphlaw9_MergeJoins.bits6 (fun HT_ HW_ => ?_)
       generalize w11.drew = w59 at HO_5 HO239 HB HO244 HO252 hHeld ⊢
       refine pA 0 (some 32) (bA 27 1) HT_.out ?_
       refine pA 1 (some 33) (bA 27 3) HT_.out ?_
       refine pA 2 (some 34) (bA 27 7) HT_.out ?_
       refine pA 4 (some 36) (bA 27 23) HT_.out ?_
       refine pA 5 (some 37) (bA 27 55) HT_.out ?_
       refine pA 6 (some 38) (bA 27 119) HT_.out ?_
       refine pA 10 (some 42) (bA 27 1143) HT_.out ?_
       refine one_ (i := 3) (N := some 35) (bA 27 1151) rfl rfl (one_of HT_.out (by kernel_rfl)) (by decide) (fun K hK => ?_)
       refine goes_ Try.func26 (by kernel_rfl) rfl #[.slice Ao6 y240.length co6] (by rfl) rfl rfl argN ?_
       with_reducible refine (merge_Join.calls _ _ y240 t245 _ ?side1 ?side2 A14.out).mono ?_
       (case side1 => repeat (first | exact (Kd.V_reads' HO244.out).2.2 | (with_reducible refine Kd.C_alloc ?_ _) | (with_reducible refine Kd.C_drewN ?_ _) | (with_reducible refine Kd.C_drew ?_)))
       (case side2 => exact (Kd.V_reads' HO244.out).2.1)
       rintro e w62 ⟨v246, rfl, ho0, hb⟩
       refine ⟨_, rfl, ?_⟩
       have n0_ := Aside0.mk (Kd.N_elder' (by (with_reducible repeat (first | apply Kd.N_alloc | apply Kd.N_drewN | apply Kd.N_drew)); exact HO_5.out) (by first | exact Kd.N_base ho0 | exact Kd.S_base ho0) hb)
       have n1_ := Aside0.mk (Kd.N_elder' (by (with_reducible repeat (first | apply Kd.N_alloc | apply Kd.N_drewN | apply Kd.N_drew)); exact HO239.out) (by first | exact Kd.N_base ho0 | exact Kd.S_base ho0) hb)
       have n2_ := Aside0.mk (Kd.V_elder' (by (with_reducible repeat (first | apply Kd.V_alloc | apply Kd.V_drewN | apply Kd.V_drew)); exact HO244.out) (by first | exact Kd.N_base ho0 | exact Kd.S_base ho0) hb)
       have n3_ := Aside0.mk (Kd.V_elder' (by (with_reducible repeat (first | apply Kd.V_alloc | apply Kd.V_drewN | apply Kd.V_drew)); exact HO252.out) (by first | exact Kd.N_base ho0 | exact Kd.S_base ho0) hb)
       have n4_ := Aside0.mk (Kd.N_lower (Kd.N_mono (ok' := fun k_ => some k_ ≠ (.slice Ao6 t234.length co6 : Value).ownBlock ∧ some k_ ≠ (v238 : Value).ownBlock) (Kd.S_N (Kd.S_bound ho0)) (fun k_ hk_ => ⟨(Kd.fresh' (Kd.N_lt (by (with_reducible repeat (first | apply Kd.N_alloc | apply Kd.N_drewN | apply Kd.N_drew)); exact HO_5.out)) k_ hk_.2.1), (Kd.fresh' (Kd.N_lt (by (with_reducible repeat (first | apply Kd.N_alloc | apply Kd.N_drewN | apply Kd.N_drew)); exact HO239.out)) k_ hk_.2.1)⟩)) (below_size (belN HB.out)))
       have n5_ := Aside0.mk (below_step (belN HB.out) hb)
       clear HO_5
       clear HO239
       clear HO244
       clear HO252
       clear HB
       have HO_5 := n0_
       have HO239 := n1_
       have HO244 := n2_
       have HO252 := n3_
       have HO247 := n4_
       have HB := n5_
       clear n0_ n1_ n2_ n3_ n4_ n5_
       (try clear hb)
       (try clear hk)
       (try clear ho0)
       refine hK.out _ _ trivial (fun hHeld => ?_)
       clear hK K
       refine norm_ (a' := ?_) ?_ ?_
       rotate_left
       ·show Act.put _ (some 35) _ = _
        simp only [Act.put, List.setIfInBounds_toArray, List.set_cons_zero, List.set_cons_succ, i64_w, i32_w]
        rfl
       refine one_ (i := 7) (N := some 39) (bA 27 1279) rfl rfl (one_of HT_.out (by kernel_rfl)) (by decide) (fun K hK => ?_)
       refine goes_ Try.func26 (by kernel_rfl) rfl #[.slice A61 y248.length c61] (by rfl) rfl rfl argN ?_
       with_reducible refine (merge_Join.calls _ _ y248 t253 _ ?side1 ?side2 A17.out).mono ?_
       (case side1 => repeat (first | exact (Kd.V_reads' HO252.out).2.2 | (with_reducible refine Kd.C_alloc ?_ _) | (with_reducible refine Kd.C_drewN ?_ _) | (with_reducible refine Kd.C_drew ?_)))
       (case side2 => exact (Kd.V_reads' HO252.out).2.1)
       rintro e w63 ⟨v254, rfl, ho0, hb⟩
       refine ⟨_, rfl, ?_⟩
       have n0_ := Aside0.mk (Kd.N_elder' (by (with_reducible repeat (first | apply Kd.N_alloc | apply Kd.N_drewN | apply Kd.N_drew)); exact HO_5.out) (by first | exact Kd.N_base ho0 | exact Kd.S_base ho0) hb)
       have n1_ := Aside0.mk (Kd.N_elder' (by (with_reducible repeat (first | apply Kd.N_alloc | apply Kd.N_drewN | apply Kd.N_drew)); exact HO239.out) (by first | exact Kd.N_base ho0 | exact Kd.S_base ho0) hb)
       have n2_ := Aside0.mk (Kd.V_elder' (by (with_reducible repeat (first | apply Kd.V_alloc | apply Kd.V_drewN | apply Kd.V_drew)); exact HO244.out) (by first | exact Kd.N_base ho0 | exact Kd.S_base ho0) hb)
       have n3_ := Aside0.mk (Kd.V_elder' (by (with_reducible repeat (first | apply Kd.V_alloc | apply Kd.V_drewN | apply Kd.V_drew)); exact HO252.out) (by first | exact Kd.N_base ho0 | exact Kd.S_base ho0) hb)
       have n4_ := Aside0.mk (Kd.N_elder' (by (with_reducible repeat (first | apply Kd.N_alloc | apply Kd.N_drewN | apply Kd.N_drew)); exact HO247.out) (by first | exact Kd.N_base ho0 | exact Kd.S_base ho0) hb)
       have n5_ := Aside0.mk (Kd.N_lower (Kd.N_mono (ok' := fun k_ => some k_ ≠ (.slice Ao6 t234.length co6 : Value).ownBlock ∧ some k_ ≠ (v238 : Value).ownBlock ∧ some k_ ≠ (v246 : Value).ownBlock) (Kd.S_N (Kd.S_bound ho0)) (fun k_ hk_ => ⟨(Kd.fresh' (Kd.N_lt (by (with_reducible repeat (first | apply Kd.N_alloc | apply Kd.N_drewN | apply Kd.N_drew)); exact HO_5.out)) k_ hk_.2.1), (Kd.fresh' (Kd.N_lt (by (with_reducible repeat (first | apply Kd.N_alloc | apply Kd.N_drewN | apply Kd.N_drew)); exact HO239.out)) k_ hk_.2.1), (Kd.fresh' (Kd.N_lt (by (with_reducible repeat (first | apply Kd.N_alloc | apply Kd.N_drewN | apply Kd.N_drew)); exact HO247.out)) k_ hk_.2.1)⟩)) (below_size (belN HB.out)))
       have n6_ := Aside0.mk (below_step (belN HB.out) hb)
       clear HO_5
       clear HO239
       clear HO244
       clear HO252
       clear HO247
       clear HB
       have HO_5 := n0_
       have HO239 := n1_
       have HO244 := n2_
       have HO252 := n3_
       have HO247 := n4_
       have HO255 := n5_
       have HB := n6_
       clear n0_ n1_ n2_ n3_ n4_ n5_ n6_
       (try clear hb)
       (try clear hk)
       (try clear ho0)
       obtain ⟨Ao64, co64, eo64⟩ := Kd.N_slice HO247.out
       (first | subst eo64 | (injection eo64 with f1_ f2_ f3_; have f4_ := f1_.symm; have f5_ := f3_.symm; clear f1_ f2_ f3_; subst f4_; subst f5_))
       obtain ⟨Ao65, co65, eo65⟩ := Kd.N_slice HO255.out
       (first | subst eo65 | (injection eo65 with f1_ f2_ f3_; have f4_ := f1_.symm; have f5_ := f3_.symm; clear f1_ f2_ f3_; subst f4_; subst f5_))
       refine hK.out _ _ trivial (fun hHeld => ?_)
       clear hK K
       refine norm_ (a' := ?_) ?_ ?_
       rotate_left
       ·show Act.put _ (some 39) _ = _
        simp only [Act.put, List.setIfInBounds_toArray, List.set_cons_zero, List.set_cons_succ, i64_w, i32_w]
        rfl
       refine one_ (i := 8) (N := some 40) (bA 27 1535) rfl rfl (one_of HT_.out (by kernel_rfl)) (by decide) (fun K hK => ?_)
       refine Kd.N_lit_step (Kd.slice 49 k49) _ 37 ?hg (N' := 40) ?hd (xs := ([t245, t253] : List (List (S49)))) (inner := [.slice Ao64 t245.length co64, .slice Ao65 t253.length co65]) (ok := (fun k_ => some k_ ≠ (.slice Ao6 t234.length co6 : Value).ownBlock ∧ some k_ ≠ (v238 : Value).ownBlock)) (okp := (fun k_ => some k_ ≠ (.slice Ao6 t234.length co6 : Value).ownBlock ∧ some k_ ≠ (v238 : Value).ownBlock)) ?hr ?hp (fun _ hk => hk) ((show ∀ k_, w63.heap.size ≤ k_ → (fun k_ => some k_ ≠ (.slice Ao6 t234.length co6 : Value).ownBlock ∧ some k_ ≠ (v238 : Value).ownBlock) k_ from fun k_ hk => ⟨Kd.fresh' (Kd.N_lt (by (with_reducible repeat (first | apply Kd.N_alloc | apply Kd.N_drewN | apply Kd.N_drew)); exact HO_5.out)) k_ hk, Kd.fresh' (Kd.N_lt (by (with_reducible repeat (first | apply Kd.N_alloc | apply Kd.N_drewN | apply Kd.N_drew)); exact HO239.out)) k_ hk⟩) _ (Nat.le_refl _)) (Below.refl _ _) (Nat.le_refl _) (by simp) ?_; (case hd => rfl); (case hg => rfl); (case hr => first | (go_simp; done) | (go_simp; rfl)); (case hp => exact (Reps.one (show Kd.FK (Kd.slice 49 k49) _ _ t245 [.slice Ao64 t245.length co64] from (Kd.FK_slice_mk (Kd.N_reads' (Kd.N_mono (ok' := (fun k_ => some k_ ≠ (.slice Ao6 t234.length co6 : Value).ownBlock ∧ some k_ ≠ (v238 : Value).ownBlock)) (HO247.out) (fun k_ hk => ⟨hk.1.1, hk.1.2⟩))).2.1 (Kd.N_F (Kd.N_mono (ok' := (fun k_ => some k_ ≠ (.slice Ao6 t234.length co6 : Value).ownBlock ∧ some k_ ≠ (v238 : Value).ownBlock)) (HO247.out) (fun k_ hk => ⟨hk.1.1, hk.1.2⟩))))) (Reps.one (show Kd.FK (Kd.slice 49 k49) _ _ t253 [.slice Ao65 t253.length co65] from (Kd.FK_slice_mk (Kd.N_reads' (Kd.N_mono (ok' := (fun k_ => some k_ ≠ (.slice Ao6 t234.length co6 : Value).ownBlock ∧ some k_ ≠ (v238 : Value).ownBlock)) (HO255.out) (fun k_ hk => ⟨hk.1, hk.2.1⟩))).2.1 (Kd.N_F (Kd.N_mono (ok' := (fun k_ => some k_ ≠ (.slice Ao6 t234.length co6 : Value).ownBlock ∧ some k_ ≠ (v238 : Value).ownBlock)) (HO255.out) (fun k_ hk => ⟨hk.1, hk.2.1⟩))))) (Reps.none _ _))))
       intro v257 w66 ho67 hb hg_ hnew_
       clear hg_ hnew_
       (first | rw [← Ny256.out] at ho67 | (simp only [Int.reduceToNat] at ho67; rw [← Ny256.out] at ho67))
       have n0_ := Aside0.mk (Kd.N_elder' (by (with_reducible repeat (first | apply Kd.N_alloc | apply Kd.N_drewN | apply Kd.N_drew)); exact HO_5.out) (Kd.N_base ho67) hb)
       have n1_ := Aside0.mk (Kd.N_elder' (by (with_reducible repeat (first | apply Kd.N_alloc | apply Kd.N_drewN | apply Kd.N_drew)); exact HO239.out) (Kd.N_base ho67) hb)
       have n2_ := Aside0.mk (Kd.V_elder' (by (with_reducible repeat (first | apply Kd.V_alloc | apply Kd.V_drewN | apply Kd.V_drew)); exact HO244.out) (Kd.N_base ho67) hb)
       have n3_ := Aside0.mk (Kd.V_elder' (by (with_reducible repeat (first | apply Kd.V_alloc | apply Kd.V_drewN | apply Kd.V_drew)); exact HO252.out) (Kd.N_base ho67) hb)
       have n4_ := Aside0.mk (Kd.N_lower ho67 (below_size (belN HB.out)))
       have n5_ := Aside0.mk (below_step (belN HB.out) hb)
       clear HO_5
       clear HO239
       clear HO244
       clear HO252
       clear HB
       clear HO247
       clear HO255
       have HO_5 := n0_
       have HO239 := n1_
       have HO244 := n2_
       have HO252 := n3_
       have HO258 := n4_
       have HB := n5_
       clear n0_ n1_ n2_ n3_ n4_ n5_
       clear hb ho67
       obtain ⟨Ao68, co68, eo68⟩ := Kd.N_slice HO258.out
       (first | subst eo68 | (injection eo68 with f1_ f2_ f3_; have f4_ := f1_.symm; have f5_ := f3_.symm; clear f1_ f2_ f3_; subst f4_; subst f5_))
       refine hK.out _ _ trivial (fun hHeld => ?_)
       clear hK K
       refine norm_ (a' := ?_) ?_ ?_
       rotate_left
       ·show Act.put _ (some 40) _ = _
        simp only [Act.put, List.setIfInBounds_toArray, List.set_cons_zero, List.set_cons_succ, i64_w, i32_w]
        rfl
       refine one_ (i := 9) (N := some 41) (bA 27 2047) rfl rfl (one_of HT_.out (by kernel_rfl)) (by decide) (fun K hK => ?_)
       refine goes_ Try.func26 (by kernel_rfl) rfl #[.slice Ao68 y256.length co68] (by rfl) rfl rfl argN ?_
       with_reducible refine (merge_Join.calls _ _ y256 t259 _ ?side1 ?side2 A18.out).mono ?_
       (case side1 => repeat (first | exact (Kd.N_reads' HO258.out).2.2 | (with_reducible refine Kd.C_alloc ?_ _) | (with_reducible refine Kd.C_drewN ?_ _) | (with_reducible refine Kd.C_drew ?_)))
       (case side2 => exact (Kd.N_reads' HO258.out).2.1)
       rintro e w69 ⟨v260, rfl, ho0, hb⟩
       refine ⟨_, rfl, ?_⟩
       have n0_ := Aside0.mk (Kd.N_elder' (by (with_reducible repeat (first | apply Kd.N_alloc | apply Kd.N_drewN | apply Kd.N_drew)); exact HO_5.out) (by first | exact Kd.N_base ho0 | exact Kd.S_base ho0) hb)
       have n1_ := Aside0.mk (Kd.N_elder' (by (with_reducible repeat (first | apply Kd.N_alloc | apply Kd.N_drewN | apply Kd.N_drew)); exact HO239.out) (by first | exact Kd.N_base ho0 | exact Kd.S_base ho0) hb)
       have n2_ := Aside0.mk (Kd.V_elder' (by (with_reducible repeat (first | apply Kd.V_alloc | apply Kd.V_drewN | apply Kd.V_drew)); exact HO244.out) (by first | exact Kd.N_base ho0 | exact Kd.S_base ho0) hb)
       have n3_ := Aside0.mk (Kd.V_elder' (by (with_reducible repeat (first | apply Kd.V_alloc | apply Kd.V_drewN | apply Kd.V_drew)); exact HO252.out) (by first | exact Kd.N_base ho0 | exact Kd.S_base ho0) hb)
       have n4_ := Aside0.mk (Kd.N_elder' (by (with_reducible repeat (first | apply Kd.N_alloc | apply Kd.N_drewN | apply Kd.N_drew)); exact HO258.out) (by first | exact Kd.N_base ho0 | exact Kd.S_base ho0) hb)
       have n5_ := Aside0.mk (Kd.N_lower (Kd.N_mono (ok' := fun k_ => some k_ ≠ (.slice Ao6 t234.length co6 : Value).ownBlock ∧ some k_ ≠ (v238 : Value).ownBlock ∧ some k_ ≠ (.slice Ao68 y256.length co68 : Value).ownBlock) (Kd.S_N (Kd.S_bound ho0)) (fun k_ hk_ => ⟨(Kd.fresh' (Kd.N_lt (by (with_reducible repeat (first | apply Kd.N_alloc | apply Kd.N_drewN | apply Kd.N_drew)); exact HO_5.out)) k_ hk_.2.1), (Kd.fresh' (Kd.N_lt (by (with_reducible repeat (first | apply Kd.N_alloc | apply Kd.N_drewN | apply Kd.N_drew)); exact HO239.out)) k_ hk_.2.1), (Kd.fresh' (Kd.N_lt (by (with_reducible repeat (first | apply Kd.N_alloc | apply Kd.N_drewN | apply Kd.N_drew)); exact HO258.out)) k_ hk_.2.1)⟩)) (below_size (belN HB.out)))
       have n6_ := Aside0.mk (below_step (belN HB.out) hb)
       clear HO_5
       clear HO239
       clear HO244
       clear HO252
       clear HO258
       clear HB
       have HO_5 := n0_
       have HO239 := n1_
       have HO244 := n2_
       have HO252 := n3_
       have HO258 := n4_
       have HO261 := n5_
       have HB := n6_
       clear n0_ n1_ n2_ n3_ n4_ n5_ n6_
       (try clear hb)
       (try clear hk)
       (try clear ho0)
       obtain ⟨Ao70, co70, eo70⟩ := Kd.N_slice HO261.out
       (first | subst eo70 | (injection eo70 with f1_ f2_ f3_; have f4_ := f1_.symm; have f5_ := f3_.symm; clear f1_ f2_ f3_; subst f4_; subst f5_))
       obtain ⟨Ao71, co71, eo71⟩ := Kd.N_slice HO239.out
       (first | subst eo71 | (injection eo71 with f1_ f2_ f3_; have f4_ := f1_.symm; have f5_ := f3_.symm; clear f1_ f2_ f3_; subst f4_; subst f5_))
       refine hK.out _ _ trivial (fun hHeld => ?_)
       clear hK K
       refine norm_ (a' := ?_) ?_ ?_
       rotate_left
       ·show Act.put _ (some 41) _ = _
        simp only [Act.put, List.setIfInBounds_toArray, List.set_cons_zero, List.set_cons_succ, i64_w, i32_w]
        rfl
       refine one_ (i := 11) (N := some 43) (bA 27 4095) rfl rfl (one_of HT_.out (by kernel_rfl)) (by decide) (fun K hK => ?_)
       refine goes_ Try.func27 (by kernel_rfl) rfl #[.slice Ao70 t259.length co70, .slice Ao71 t237.length co71] (by rfl) rfl rfl argN ?_
       with_reducible refine (merge_Same.calls kj3 _ _ t259 _ _ t237 false _ ?side1 ?side2 ?side3 ?side4 A19.out).mono ?_
       (case side1 => repeat (first | exact (Kd.N_reads' HO261.out).2.2 | (with_reducible refine Kd.C_alloc ?_ _) | (with_reducible refine Kd.C_drewN ?_ _) | (with_reducible refine Kd.C_drew ?_)))
       (case side2 => exact (Kd.N_reads' HO261.out).2.1)
       (case side3 => repeat (first | exact (Kd.N_reads' HO239.out).2.2 | (with_reducible refine Kd.C_alloc ?_ _) | (with_reducible refine Kd.C_drewN ?_ _) | (with_reducible refine Kd.C_drew ?_)))
       (case side4 => exact (Kd.N_reads' HO239.out).2.1)
       rintro e w72 ⟨rfl, hb⟩
       refine ⟨_, rfl, ?_⟩
       have n0_ := Aside0.mk (Kd.N_below (by (with_reducible repeat (first | apply Kd.N_alloc | apply Kd.N_drewN | apply Kd.N_drew)); exact HO_5.out) hb)
       have n1_ := Aside0.mk (Kd.N_below (by (with_reducible repeat (first | apply Kd.N_alloc | apply Kd.N_drewN | apply Kd.N_drew)); exact HO239.out) hb)
       have n2_ := Aside0.mk (Kd.V_below (by (with_reducible repeat (first | apply Kd.V_alloc | apply Kd.V_drewN | apply Kd.V_drew)); exact HO244.out) hb)
       have n3_ := Aside0.mk (Kd.V_below (by (with_reducible repeat (first | apply Kd.V_alloc | apply Kd.V_drewN | apply Kd.V_drew)); exact HO252.out) hb)
       have n4_ := Aside0.mk (Kd.N_below (by (with_reducible repeat (first | apply Kd.N_alloc | apply Kd.N_drewN | apply Kd.N_drew)); exact HO258.out) hb)
       have n5_ := Aside0.mk (Kd.N_below (by (with_reducible repeat (first | apply Kd.N_alloc | apply Kd.N_drewN | apply Kd.N_drew)); exact HO261.out) hb)
       have n6_ := Aside0.mk (below_step (belN HB.out) hb)
       clear HO_5
       clear HO239
       clear HO244
       clear HO252
       clear HO258
       clear HO261
       clear HB
       have HO_5 := n0_
       have HO239 := n1_
       have HO244 := n2_
       have HO252 := n3_
       have HO258 := n4_
       have HO261 := n5_
       have HB := n6_
       clear n0_ n1_ n2_ n3_ n4_ n5_ n6_
       (try clear hb)
       (try clear hk)
       refine hK.out _ _ trivial (fun hHeld => ?_)
       clear hK K
       refine norm_ (a' := ?_) ?_ ?_
       rotate_left
       ·show Act.put _ (some 43) _ = _
        simp only [Act.put, List.setIfInBounds_toArray, List.set_cons_zero, List.set_cons_succ, i64_w, i32_w]
        rfl
       refine pA 12 (some 44) (bA 27 8191) HT_.out ?_
       refine pA 13 (some 45) (bA 27 16383) HT_.out ?_
       refine pU 14 (some 46) (bA 27 32767) HT_.out ?_
       refine pU 15 (some 47) (bA 27 65535) HT_.out ?_
       refine pU 16 (some 48) (bA 27 131071) HT_.out ?_
       refine pA 17 (some 49) (bA 27 262143) HT_.out ?_
       refine pA 18 (some 50) (bA 27 524287) HT_.out ?_
       refine pU 19 (some 51) (bA 27 1048575) HT_.out ?_
       refine pU 20 (some 52) (bA 27 2097151) HT_.out ?_
       refine pU 21 (some 53) (bA 27 4194303) HT_.out ?_
       refine pU 22 (some 54) (bA 27 8388607) HT_.out ?_
       refine pU 23 (some 55) (bA 27 16777215) HT_.out ?_
       refine pU 24 (some 56) (bA 27 33554431) HT_.out ?_
       refine pU 25 (some 57) (bA 27 67108863) HT_.out ?_
       refine pA 26 (some 58) (bA 27 134217727) HT_.out ?_
       refine done_ (done_of HT_.out (by kernel_rfl)) ?_
       try go_wp2
       go_meet
       case rel => exact ⟨_, (true), (by first | rfl | (simp; done) | (simp [*]; done)), H', ⟨by have := HJ3.out; first | omega | exact Nat.le_refl _⟩, ⟨by (with_reducible repeat (first | apply Kd.N_alloc | apply Kd.N_drewN | apply Kd.N_drew)); exact Kd.N_mono HO_5.out (fun _ hk => hk.1.1.1.1.2)⟩, ⟨by (with_reducible repeat (first | apply Kd.N_alloc | apply Kd.N_drewN | apply Kd.N_drew)); exact Kd.N_mono HO239.out (fun _ hk => trivial)⟩, ⟨(belN HB.out)⟩⟩
     ·rw [if_neg c13] at H
      exact absurd H (by simp)
    ·rw [if_neg c12] at H
     exact absurd H (by simp)
   case rest =>
    clear HC10
    try clear c1
    try clear c2
    try clear p2
    try clear c6
    try clear q6
    try clear c12
    try clear c13
    try clear c20
    try clear c26
    try clear c27
    try clear c28
    try clear q60
    try clear c61
    try clear q61
    try clear q061
    try clear q60
    try clear q61
    obtain ⟨kq, x58_9, rfl, HA, HJ9, HO_5, HO_7, HB⟩ := hcut
    cases kq with
    | zero => exact absurd HA.out (by simp [marigraphlaw9_MergeJoins.j1])
    | succ kj9 =>
     have H := HA.out
     clear HA
     simp only [marigraphlaw9_MergeJoins.j1] at H
     by_cases c73 : x58_9 = true
     ·subst c73
      have H1 : (some false) = some r := by rw [if_pos rfl] at H; exact H
      clear H
      have H := H1
      clear H1
      obtain rfl := Option.some.inj H
      go_wp2
      go_ret
      exact ⟨by first | rfl | (simp [errW_none, errW_some] <;> rfl) | (simp [*, errW_none, errW_some] <;> rfl), (belN HB.out)⟩
     ·replace c73 := Bool.eq_false_iff.mpr c73
      subst c73
      have H1 : (marigraphlaw9_MergeJoins.l0 kj9 t234 t237 0) = some r := by rw [if_neg (show ¬ (false = true) by decide)] at H; exact H
      clear H
      have H := H1
      clear H1
      have H' := Aside0.mk H
      clear H
      go_wp2
      go_loopg [8] kj9 (fun kq v8 w' => ∃ (x8_3 : Int), v8 = .int .i64 x8_3 ∧ Aside0 (marigraphlaw9_MergeJoins.l0 kq t234 t237 x8_3 = some r) ∧ Aside0 (kq ≤ kj9) ∧ Aside0 (Kd.N (Kd.slice 49 k49) 37 w' w.heap.size (fun k_ => some k_ ≠ (v238 : Value).ownBlock) (.slice Ao6 t234.length co6) t234) ∧ Aside0 (Kd.N k49 49 w' w.heap.size (fun _ => True) v238 t237) ∧ Aside0 (Below w.heap.size w w'))
      case atStart => exact ⟨(0), (by first | rfl | (simp; done) | (simp [*]; done)), H', ⟨Nat.le_refl _⟩, ⟨by (with_reducible repeat (first | apply Kd.N_alloc | apply Kd.N_drewN | apply Kd.N_drew)); exact HO_5.out⟩, ⟨by (with_reducible repeat (first | apply Kd.N_alloc | apply Kd.N_drewN | apply Kd.N_drew)); exact HO_7.out⟩, ⟨(belN HB.out)⟩⟩
      case round =>
       clear H'
       try clear c1
       try clear c2
       try clear p2
       try clear c6
       try clear q6
       try clear c7
       try clear c12
       try clear c13
       try clear c20
       try clear c26
       try clear c27
       try clear c28
       try clear q60
       try clear c61
       try clear q61
       try clear c73
       try clear p2
       try clear q061
       try clear q6
       try clear q60
       try clear q61
       obtain ⟨x8_3, rfl, HA, HK3, HO_5, HO_7, HB⟩ := hrel
       cases gk with
       | zero => exact absurd HA.out (by simp [marigraphlaw9_MergeJoins.l0])
       | succ k3 =>
        have H := HA.out
        clear HA
        simp only [marigraphlaw9_MergeJoins.l0] at H
        by_cases c74 : x8_3 < (t234.length : Int)
        ·rw [if_pos c74] at H
         have c74b0 : decide (x8_3 < (t234.length : Int)) = true := decide_eq_true c74
         clear c74
         have H' := Aside0.mk H
         clear H
         go_wp2
         go_loopg [9] k3 (fun kq v9 w' => ∃ (x9_4 : Int), v9 = .int .i64 x9_4 ∧ Aside0 (marigraphlaw9_MergeJoins.l1 kq t234 t237 x8_3 x9_4 = some r) ∧ Aside0 (kq ≤ k3) ∧ Aside0 (Kd.N (Kd.slice 49 k49) 37 w' w.heap.size (fun k_ => some k_ ≠ (v238 : Value).ownBlock) (.slice Ao6 t234.length co6) t234) ∧ Aside0 (Kd.N k49 49 w' w.heap.size (fun _ => True) v238 t237) ∧ Aside0 (Below w.heap.size w w'))
         case atStart => exact ⟨(0), (by first | rfl | (simp; done) | (simp [*]; done)), H', ⟨Nat.le_refl _⟩, ⟨by (with_reducible repeat (first | apply Kd.N_alloc | apply Kd.N_drewN | apply Kd.N_drew)); exact HO_5.out⟩, ⟨by (with_reducible repeat (first | apply Kd.N_alloc | apply Kd.N_drewN | apply Kd.N_drew)); exact HO_7.out⟩, ⟨(belN HB.out)⟩⟩
         case round =>
          clear H'
          try clear c1
          try clear c2
          try clear p2
          try clear c6
          try clear q6
          try clear c7
          try clear c12
          try clear c13
          try clear c20
          try clear c26
          try clear c27
          try clear c28
          try clear q60
          try clear c61
          try clear q61
          try clear c73
          try clear c74
          try clear c74b0
          try clear p2
          try clear q061
          try clear q6
          try clear q60
          try clear q61
          obtain ⟨x9_4, rfl, HA, HK4, HO_5, HO_7, HB⟩ := hrel
          cases gk with
          | zero => exact absurd HA.out (by simp [marigraphlaw9_MergeJoins.l1])
          | succ k4 =>
           have H := HA.out
           clear HA
           simp only [marigraphlaw9_MergeJoins.l1] at H
           by_cases c75 : 0 ≤ x8_3
           ·rw [if_pos c75] at H
            have c75b0 : decide (0 ≤ x8_3) = true := decide_eq_true c75
            clear c75
            by_cases c76 : x8_3 < (t234.length : Int)
            ·rw [if_pos c76] at H
             have c76b0 : decide (x8_3 < (t234.length : Int)) = true := decide_eq_true c76
             clear c76
             by_cases c77 : x9_4 < ((rd_L4 t234 x8_3).length : Int)
             ·rw [if_pos c77] at H
              have c77b0 : decide (x9_4 < ((rd_L4 t234 x8_3).length : Int)) = true := decide_eq_true c77
              clear c77
              have H' := Aside0.mk H
              clear H
              have p272 : 0 ≤ (x8_3 : Int) := of_decide_eq_true (by first | (with_reducible assumption) | assumption)
              have q272 : x8_3 < (t234.length : Int) := of_decide_eq_true (by first | (with_reducible assumption) | assumption)
              obtain ⟨ad272, A272_0, c272_0, e272, hx272_0, hl272_0, hi272_0⟩ := at_L4 (Kd.N_reads' HO_5.out).2.2 x8_3 p272 q272
              cases e272
              obtain ⟨ce272, hce272, hMe272, hcc272⟩ := Kd.N_get HO_5.out [] x8_3 p272 (by first | exact q272 | exact of_decide_eq_true (by first | (with_reducible assumption) | assumption) | (have e_ := (Kd.N_reads' HO_5.out).1; omega))
              obtain ⟨ua272_0, uc272_0, rfl, ul272_0, ge272_0⟩ := Kd.FK_slice_open hMe272
              have hv272_0 := hcc272 0 _ rfl
              rw [Nat.add_zero, show ((Kd.slice 49 k49)).sz = 1 from rfl, Nat.mul_one] at hv272_0
              replace hv272_0 := Option.some.inj (hv272_0.symm.trans hx272_0)
              injection hv272_0 with hva_ hvn_ hvc_
              rw [hva_] at ge272_0
              rw [hvc_] at ul272_0
              have HL272_0 := Aside0.mk (show Kd.V k49 49 _ w.heap.size _ _ (rd_L4 t234 x8_3) from Kd.V_mk ul272_0 ge272_0)
              clear hva_ hvn_ hvc_ ge272_0 ul272_0
              clear hcc272 hce272
              have HR272_0 := Aside0.mk hi272_0
              have HC272_0 := Aside0.mk hl272_0
              clear hi272_0 hl272_0
              replace p272 := eq_true p272
              replace q272 := eq_true q272
              go_wp2
              go_loopg [10, 11] k4 (fun kq v10 v11 w' => ∃ (x10_5 : Bool) (x11_5 : Int), v10 = .bool x10_5 ∧ v11 = .int .i64 x11_5 ∧ Aside0 (marigraphlaw9_MergeJoins.l2 kq t234 t237 x8_3 x9_4 x10_5 x11_5 = some r) ∧ Aside0 (kq ≤ k4) ∧ Aside0 (Kd.N (Kd.slice 49 k49) 37 w' w.heap.size (fun k_ => some k_ ≠ (v238 : Value).ownBlock) (.slice (some ad272) t234.length co6) t234) ∧ Aside0 (Kd.N k49 49 w' w.heap.size (fun _ => True) v238 t237) ∧ Aside0 (Below w.heap.size w w'))
              case atStart => exact ⟨(false), (0), (by first | rfl | (simp; done) | (simp [*]; done)), (by first | rfl | (simp; done) | (simp [*]; done)), H', ⟨Nat.le_refl _⟩, ⟨by (with_reducible repeat (first | apply Kd.N_alloc | apply Kd.N_drewN | apply Kd.N_drew)); exact HO_5.out⟩, ⟨by (with_reducible repeat (first | apply Kd.N_alloc | apply Kd.N_drewN | apply Kd.N_drew)); exact HO_7.out⟩, ⟨(belN HB.out)⟩⟩
              case round =>
               clear H'
               try clear c1
               try clear c2
               try clear p2
               try clear q2
               try clear hx2
               try clear c6
               try clear q6
               try clear c7
               try clear c12
               try clear c13
               try clear c20
               try clear c26
               try clear c27
               try clear p27
               try clear q27
               try clear hx27
               try clear c28
               try clear q60
               try clear c61
               try clear q61
               try clear c73
               try clear c74
               try clear c74b0
               try clear c75
               try clear c75b0
               try clear c76
               try clear c76b0
               try clear c77
               try clear c77b0
               try clear hx272_0
               try clear p2
               try clear p272
               try clear q061
               try clear q272
               try clear q6
               try clear q60
               try clear q61
               obtain ⟨x10_5, x11_5, rfl, rfl, HA, HK5, HO_5, HO_7, HB⟩ := hrel
               cases gk with
               | zero => exact absurd HA.out (by simp [marigraphlaw9_MergeJoins.l2])
               | succ k5 =>
                have H := HA.out
                clear HA
                simp only [marigraphlaw9_MergeJoins.l2] at H
                by_cases c78 : x11_5 < (t237.length : Int)
                ·rw [if_pos c78] at H
                 have c78b0 : decide (x11_5 < (t237.length : Int)) = true := decide_eq_true c78
                 clear c78
                 by_cases c79 : x10_5 = true
                 ·subst c79
                  have H1 : (marigraphlaw9_MergeJoins.l2 k5 t234 t237 x8_3 x9_4 true (wrap64 (x11_5 + 1))) = some r := by rw [if_pos rfl] at H; exact H
                  clear H
                  have H := H1
                  clear H1
                  have H' := Aside0.mk H
                  clear H
                  obtain ⟨Ao80, co80, eo80⟩ := Kd.N_slice HO_7.out
                  subst eo80
                  try go_wp2
                  have n0_ := Aside0.mk (Kd.N_drew HO_5.out)
                  have n1_ := Aside0.mk (Kd.N_drew HO_7.out)
                  have n2_ := Aside0.mk (below_drew1 HB.out)
                  clear HO_5
                  clear HO_7
                  clear HB
                  have HO_5 := n0_
                  have HO_7 := n1_
                  have HB := n2_
                  clear n0_ n1_ n2_
                  refine start_ (n := 20) (S := fun w' => True) (ds := []) #[false, false, false, false, false, false, false, false, false, false, false, false, false, false, false, false, false, false, false, false] (by kernel_rfl) rfl rfl trivial (fun hHeld => ?_); refine with_tabW marigraphlaw9_MergeJoins.tab18 marigraphlaw9_MergeJoins.bits18 (fun HT_ HW_ => ?_)
                  generalize wr.drew = w81 at HO_5 HO_7 HB hHeld ⊢
                  refine pA 0 (some 80) (bA 20 1) HT_.out ?_
                  refine pA 1 (some 81) (bA 20 3) HT_.out ?_
                  refine pU 2 (some 82) (bA 20 7) HT_.out ?_
                  refine pU 3 (some 83) (bA 20 15) HT_.out ?_
                  refine pU 4 (some 84) (bA 20 31) HT_.out ?_
                  refine pU 5 (some 85) (bA 20 63) HT_.out ?_
                  refine pU 6 (some 86) (bA 20 127) HT_.out ?_
                  refine pU 7 (some 87) (bA 20 255) HT_.out ?_
                  refine pU 8 (some 88) (bA 20 511) HT_.out ?_
                  refine pU 9 (some 89) (bA 20 1023) HT_.out ?_
                  refine pU 10 (some 90) (bA 20 2047) HT_.out ?_
                  refine pU 11 (some 91) (bA 20 4095) HT_.out ?_
                  refine pU 12 (some 92) (bA 20 8191) HT_.out ?_
                  refine pU 13 (some 93) (bA 20 16383) HT_.out ?_
                  refine pU 14 (some 94) (bA 20 32767) HT_.out ?_
                  refine pU 15 (some 95) (bA 20 65535) HT_.out ?_
                  refine pU 16 (some 96) (bA 20 131071) HT_.out ?_
                  refine pU 17 (some 97) (bA 20 262143) HT_.out ?_
                  refine pA 18 (some 98) (bA 20 524287) HT_.out ?_
                  refine pA 19 (some 10) (bA 20 1048575) HT_.out ?_
                  refine done_ (done_of HT_.out (by kernel_rfl)) ?_
                  try go_wp2
                  go_roundg k5
                  case measure => have := HJ3.out; have := HJ9.out; have := HK3.out; have := HK4.out; have := HK5.out; omega
                  case rel => exact ⟨(true), (wrap64 (x11_5 + 1)), (by first | rfl | (simp; done) | (simp [*]; done)), (by first | rfl | (simp; done) | (simp [*]; done)), H', ⟨by have := HJ3.out; have := HJ9.out; have := HK3.out; have := HK4.out; have := HK5.out; omega⟩, ⟨by (with_reducible repeat (first | apply Kd.N_alloc | apply Kd.N_drewN | apply Kd.N_drew)); exact HO_5.out⟩, ⟨by (with_reducible repeat (first | apply Kd.N_alloc | apply Kd.N_drewN | apply Kd.N_drew)); exact HO_7.out⟩, ⟨(belN HB.out)⟩⟩
                 ·replace c79 := Bool.eq_false_iff.mpr c79
                  subst c79
                  have H1 : (if 0 ≤ x11_5 then (if 0 ≤ x8_3 then (if x8_3 < (t234.length : Int) then (if 0 ≤ x9_4 then (if x9_4 < ((rd_L4 t234 x8_3).length : Int) then (marigraphlaw9_MergeJoins.l2 k5 t234 t237 x8_3 x9_4 ((strOfNums ((rd_T49 t237 x11_5).f0)).toList == (strOfNums ((rd_T49 (rd_L4 t234 x8_3) x9_4).f0)).toList) (wrap64 (x11_5 + 1))) else (none)) else (none)) else (none)) else (none)) else (none)) = some r := by rw [if_neg (show ¬ (false = true) by decide)] at H; exact H
                  clear H
                  have H := H1
                  clear H1
                  by_cases c82 : 0 ≤ x11_5
                  ·rw [if_pos c82] at H
                   have c82b0 : decide (0 ≤ x11_5) = true := decide_eq_true c82
                   clear c82
                   by_cases c83 : 0 ≤ x8_3
                   ·rw [if_pos c83] at H
                    have c83b0 : decide (0 ≤ x8_3) = true := decide_eq_true c83
                    clear c83
                    by_cases c84 : x8_3 < (t234.length : Int)
                    ·rw [if_pos c84] at H
                     have c84b0 : decide (x8_3 < (t234.length : Int)) = true := decide_eq_true c84
                     clear c84
                     by_cases c85 : 0 ≤ x9_4
                     ·rw [if_pos c85] at H
                      have c85b0 : decide (0 ≤ x9_4) = true := decide_eq_true c85
                      clear c85
                      by_cases c86 : x9_4 < ((rd_L4 t234 x8_3).length : Int)
                      ·rw [if_pos c86] at H
                       have c86b0 : decide (x9_4 < ((rd_L4 t234 x8_3).length : Int)) = true := decide_eq_true c86
                       clear c86
                       have H' := Aside0.mk H
                       clear H
                       obtain ⟨Ao87, co87, eo87⟩ := Kd.N_slice HO_7.out
                       subst eo87
                       try go_wp2
                       have n0_ := Aside0.mk (Kd.N_drew HO_5.out)
                       have n1_ := Aside0.mk (Kd.N_drew HO_7.out)
                       have n2_ := Aside0.mk (below_drew1 HB.out)
                       clear HO_5
                       clear HO_7
                       clear HB
                       have HO_5 := n0_
                       have HO_7 := n1_
                       have HB := n2_
                       clear n0_ n1_ n2_
                       have p273 : 0 ≤ (x11_5 : Int) := of_decide_eq_true (by first | (with_reducible assumption) | assumption)
                       have q273 : x11_5 < (t237.length : Int) := of_decide_eq_true (by first | (with_reducible assumption) | assumption)
                       obtain ⟨ad273, A273_0, c273_0, A273_1, c273_1, e273, hx273_0, hx273_1, hx273_2, hl273_0, hi273_0, hl273_1, hi273_1⟩ := at_T49 (Kd.N_reads' HO_7.out).2.2 x11_5 p273 q273
                       cases e273
                       obtain ⟨ce273, hce273, hMe273, hcc273⟩ := Kd.N_get HO_7.out z49 x11_5 p273 (by first | exact q273 | exact of_decide_eq_true (by first | (with_reducible assumption) | assumption) | (have e_ := (Kd.N_reads' HO_7.out).1; omega))
                       obtain ⟨ua273_0, uc273_0, ua273_1, uc273_1, rfl, ul273_0, ge273_0, ul273_1, ge273_1⟩ := k49_openF hMe273
                       have hv273_0 := hcc273 0 _ rfl
                       rw [Nat.add_zero] at hv273_0
                       replace hv273_0 := Option.some.inj (hv273_0.symm.trans hx273_0)
                       injection hv273_0 with hva_ hvn_ hvc_
                       rw [hva_] at ge273_0
                       rw [hvc_] at ul273_0
                       have HL273_0 := Aside0.mk (show Kd.V (Kd.int .u8) 5 _ w.heap.size _ _ ((rd_T49 t237 x11_5).f0) from Kd.V_mk ul273_0 ge273_0)
                       clear hva_ hvn_ hvc_ ge273_0 ul273_0
                       have hv273_1 := hcc273 1 _ rfl
                       rw [add_field _ _ 1 (by omega)] at hv273_1
                       replace hv273_1 := Option.some.inj (hv273_1.symm.trans hx273_1)
                       injection hv273_1 with hva_ hvn_ hvc_
                       rw [hva_] at ge273_1
                       rw [hvc_] at ul273_1
                       have HL273_1 := Aside0.mk (show Kd.V (Kd.int .u8) 5 _ w.heap.size _ _ ((rd_T49 t237 x11_5).f1) from Kd.V_mk ul273_1 ge273_1)
                       clear hva_ hvn_ hvc_ ge273_1 ul273_1
                       clear hcc273 hce273
                       have HR273_0 := Aside0.mk hi273_0
                       have HC273_0 := Aside0.mk hl273_0
                       clear hi273_0 hl273_0
                       have HR273_1 := Aside0.mk hi273_1
                       have HC273_1 := Aside0.mk hl273_1
                       clear hi273_1 hl273_1
                       replace p273 := eq_true p273
                       replace q273 := eq_true q273
                       have p274 : 0 ≤ (x8_3 : Int) := of_decide_eq_true (by first | (with_reducible assumption) | assumption)
                       have q274 : x8_3 < (t234.length : Int) := of_decide_eq_true (by first | (with_reducible assumption) | assumption)
                       obtain ⟨ad274, A274_0, c274_0, e274, hx274_0, hl274_0, hi274_0⟩ := at_L4 (Kd.N_reads' HO_5.out).2.2 x8_3 p274 q274
                       obtain rfl : ad272 = ad274 := (by injection e274)
                       obtain ⟨ce274, hce274, hMe274, hcc274⟩ := Kd.N_get HO_5.out [] x8_3 p274 (by first | exact q274 | exact of_decide_eq_true (by first | (with_reducible assumption) | assumption) | (have e_ := (Kd.N_reads' HO_5.out).1; omega))
                       obtain ⟨ua274_0, uc274_0, rfl, ul274_0, ge274_0⟩ := Kd.FK_slice_open hMe274
                       have hv274_0 := hcc274 0 _ rfl
                       rw [Nat.add_zero, show ((Kd.slice 49 k49)).sz = 1 from rfl, Nat.mul_one] at hv274_0
                       replace hv274_0 := Option.some.inj (hv274_0.symm.trans hx274_0)
                       injection hv274_0 with hva_ hvn_ hvc_
                       rw [hva_] at ge274_0
                       rw [hvc_] at ul274_0
                       have HL274_0 := Aside0.mk (show Kd.V k49 49 _ w.heap.size _ _ (rd_L4 t234 x8_3) from Kd.V_mk ul274_0 ge274_0)
                       clear hva_ hvn_ hvc_ ge274_0 ul274_0
                       clear hcc274 hce274
                       have HR274_0 := Aside0.mk hi274_0
                       have HC274_0 := Aside0.mk hl274_0
                       clear hi274_0 hl274_0
                       replace p274 := eq_true p274
                       replace q274 := eq_true q274
                       have p275 : 0 ≤ (x9_4 : Int) := of_decide_eq_true (by first | (with_reducible assumption) | assumption)
                       have q275 : x9_4 < ((rd_L4 t234 x8_3).length : Int) := of_decide_eq_true (by first | (with_reducible assumption) | assumption)
                       obtain ⟨ad275, A275_0, c275_0, A275_1, c275_1, e275, hx275_0, hx275_1, hx275_2, hl275_0, hi275_0, hl275_1, hi275_1⟩ := at_T49 (by repeat (first | (with_reducible exact HR274_0.out) | (with_reducible refine Kd.C_alloc ?_ _) | (with_reducible refine Kd.C_drewN ?_ _) | (with_reducible refine Kd.C_drew ?_) | exact HR274_0.out)) x9_4 p275 q275
                       cases e275
                       obtain ⟨ce275, hce275, hMe275, hcc275⟩ := Kd.V_get HL274_0.out z49 x9_4 p275 (by first | exact q275 | exact of_decide_eq_true (by first | (with_reducible assumption) | assumption) | (have e_ := (Kd.V_reads' HL274_0.out).1; omega))
                       obtain ⟨ua275_0, uc275_0, ua275_1, uc275_1, rfl, ul275_0, ge275_0, ul275_1, ge275_1⟩ := k49_openF hMe275
                       have hv275_0 := hcc275 0 _ rfl
                       rw [Nat.add_zero] at hv275_0
                       replace hv275_0 := Option.some.inj (hv275_0.symm.trans hx275_0)
                       injection hv275_0 with hva_ hvn_ hvc_
                       rw [hva_] at ge275_0
                       rw [hvc_] at ul275_0
                       have HL275_0 := Aside0.mk (show Kd.V (Kd.int .u8) 5 _ w.heap.size _ _ ((rd_T49 (rd_L4 t234 x8_3) x9_4).f0) from Kd.V_mk ul275_0 ge275_0)
                       clear hva_ hvn_ hvc_ ge275_0 ul275_0
                       have hv275_1 := hcc275 1 _ rfl
                       rw [add_field _ _ 1 (by omega)] at hv275_1
                       replace hv275_1 := Option.some.inj (hv275_1.symm.trans hx275_1)
                       injection hv275_1 with hva_ hvn_ hvc_
                       rw [hva_] at ge275_1
                       rw [hvc_] at ul275_1
                       have HL275_1 := Aside0.mk (show Kd.V (Kd.int .u8) 5 _ w.heap.size _ _ ((rd_T49 (rd_L4 t234 x8_3) x9_4).f1) from Kd.V_mk ul275_1 ge275_1)
                       clear hva_ hvn_ hvc_ ge275_1 ul275_1
                       clear hcc275 hce275
                       have HR275_0 := Aside0.mk hi275_0
                       have HC275_0 := Aside0.mk hl275_0
                       clear hi275_0 hl275_0
                       have HR275_1 := Aside0.mk hi275_1
                       have HC275_1 := Aside0.mk hl275_1
                       clear hi275_1 hl275_1
                       replace p275 := eq_true p275
                       replace q275 := eq_true q275
                       refine start_ (n := 20) (S := fun w' => w'.cell? (ad273.add ((x11_5).toNat * 3)) = some (.slice A273_0 ((rd_T49 t237 x11_5).f0).length c273_0) ∧ w'.cell? ⟨(ad273.add ((x11_5).toNat * 3)).block, (ad273.add ((x11_5).toNat * 3)).off + 1, none⟩ = some (.slice A273_1 ((rd_T49 t237 x11_5).f1).length c273_1) ∧ w'.cell? ⟨(ad273.add ((x11_5).toNat * 3)).block, (ad273.add ((x11_5).toNat * 3)).off + 2, none⟩ = some (.bool ((rd_T49 t237 x11_5).f2)) ∧ w'.cell? (ad272.add (x8_3).toNat) = some (.slice (some ad275) (rd_L4 t234 x8_3).length c274_0) ∧ w'.cell? (ad275.add ((x9_4).toNat * 3)) = some (.slice A275_0 ((rd_T49 (rd_L4 t234 x8_3) x9_4).f0).length c275_0) ∧ w'.cell? ⟨(ad275.add ((x9_4).toNat * 3)).block, (ad275.add ((x9_4).toNat * 3)).off + 1, none⟩ = some (.slice A275_1 ((rd_T49 (rd_L4 t234 x8_3) x9_4).f1).length c275_1) ∧ w'.cell? ⟨(ad275.add ((x9_4).toNat * 3)).block, (ad275.add ((x9_4).toNat * 3)).off + 2, none⟩ = some (.bool ((rd_T49 (rd_L4 t234 x8_3) x9_4).f2)) ∧ (convert 23 9 (.slice A273_0 ((rd_T49 t237 x11_5).f0).length c273_0)).run Try.prog w' = .ok (.string (strOfNums ((rd_T49 t237 x11_5).f0))) w' ∧ (convert 23 9 (.slice A275_0 ((rd_T49 (rd_L4 t234 x8_3) x9_4).f0).length c275_0)).run Try.prog w' = .ok (.string (strOfNums ((rd_T49 (rd_L4 t234 x8_3) x9_4).f0))) w') (ds := []) #[false, false, false, false, false, false, false, false, false, false, false, false, false, false, false, false, false, false, false, false] (by kernel_rfl) rfl rfl ⟨hx273_0, hx273_1, hx273_2, hx274_0, hx275_0, hx275_1, hx275_2, (Kd.C_string (P := Try.prog) Try.underlying23 Try.underlying5 Try.underlying9 (by repeat (first | (with_reducible exact HR273_0.out) | (with_reducible refine Kd.C_alloc ?_ _) | (with_reducible refine Kd.C_drewN ?_ _) | (with_reducible refine Kd.C_drew ?_) | exact HR273_0.out))), (Kd.C_string (P := Try.prog) Try.underlying23 Try.underlying5 Try.underlying9 (by repeat (first | (with_reducible exact HR275_0.out) | (with_reducible refine Kd.C_alloc ?_ _) | (with_reducible refine Kd.C_drewN ?_ _) | (with_reducible refine Kd.C_drew ?_) | exact HR275_0.out)))⟩ (fun hHeld => ?_); refine with_tabW marigraphlaw9_MergeJoins.tab18 marigraphlaw9_MergeJoins.bits18 (fun HT_ HW_ => ?_)
                       generalize wr.drew = w88 at HO_5 HO_7 HB HL273_0 HL273_1 HL274_0 HL275_0 HL275_1 HR273_0 HR273_1 HR274_0 HR275_0 HR275_1 hx273_0 hx273_1 hx273_2 hx274_0 hx275_0 hx275_1 hx275_2 hHeld ⊢
                       have HV89 := HR273_0
                       have HV90 := HR275_0
                       refine pA 0 (some 80) (bA 20 1) HT_.out ?_
                       refine pA 1 (some 81) (bA 20 3) HT_.out ?_
                       refine pA 2 (some 82) (bA 20 7) HT_.out ?_
                       refine pA 3 (some 83) (bA 20 15) HT_.out ?_
                       refine pA 4 (some 84) (bA 20 31) HT_.out ?_
                       refine pA 5 (some 85) (bA 20 63) HT_.out ?_
                       refine pA 8 (some 88) (bA 20 319) HT_.out ?_
                       refine pA 9 (some 89) (bA 20 831) HT_.out ?_
                       refine pA 10 (some 90) (bA 20 1855) HT_.out ?_
                       refine pA 12 (some 92) (bA 20 5951) HT_.out ?_
                       refine take_ (i := 6) (N := some 86) (v := ?_) (a' := ?_) (bA 20 6015) rfl rfl (take_ofW HT_.out HW_.out (by kernel_rfl)) (fun _ _ _ h => h) (Or.inl ⟨by rfl, ?_⟩) hHeld ?_ ?_
                       rotate_left
                       ·rintro w' ⟨s0, s1, s2, s3, s4, s5, s6, s7, s8⟩
                        go_simp
                        with_reducible rfl
                       rotate_left
                       ·simp only [Act.put, List.setIfInBounds_toArray, List.set_cons_zero, List.set_cons_succ, i64_w, i32_w]
                        rfl
                       refine take_ (i := 7) (N := some 87) (v := ?_) (a' := ?_) (bA 20 6143) rfl rfl (take_ofW HT_.out HW_.out (by kernel_rfl)) (fun _ _ _ h => h) (Or.inl ⟨by rfl, ?_⟩) hHeld ?_ ?_
                       rotate_left
                       ·rintro w' ⟨s0, s1, s2, s3, s4, s5, s6, s7, s8⟩
                        go_simp
                        with_reducible rfl
                       rotate_left
                       ·simp only [Act.put, List.setIfInBounds_toArray, List.set_cons_zero, List.set_cons_succ, i64_w, i32_w]
                        rfl
                       refine take_ (i := 11) (N := some 91) (v := ?_) (a' := ?_) (bA 20 8191) rfl rfl (take_ofW HT_.out HW_.out (by kernel_rfl)) (fun _ _ _ h => h) (Or.inl ⟨by rfl, ?_⟩) hHeld ?_ ?_
                       rotate_left
                       ·rintro w' ⟨s0, s1, s2, s3, s4, s5, s6, s7, s8⟩
                        go_simp
                        with_reducible rfl
                       rotate_left
                       ·simp only [Act.put, List.setIfInBounds_toArray, List.set_cons_zero, List.set_cons_succ, i64_w, i32_w]
                        rfl
                       refine pA 13 (some 93) (bA 20 16383) HT_.out ?_
                       refine pA 14 (some 94) (bA 20 32767) HT_.out ?_
                       refine take_ (i := 15) (N := some 95) (v := ?_) (a' := ?_) (bA 20 65535) rfl rfl (take_ofW HT_.out HW_.out (by kernel_rfl)) (fun _ _ _ h => h) (Or.inl ⟨by rfl, ?_⟩) hHeld ?_ ?_
                       rotate_left
                       ·rintro w' ⟨s0, s1, s2, s3, s4, s5, s6, s7, s8⟩
                        go_simp
                        with_reducible rfl
                       rotate_left
                       ·simp only [Act.put, List.setIfInBounds_toArray, List.set_cons_zero, List.set_cons_succ, i64_w, i32_w]
                        rfl
                       refine take_ (i := 16) (N := some 96) (v := ?_) (a' := ?_) (bA 20 131071) rfl rfl (take_ofW HT_.out HW_.out (by kernel_rfl)) (fun _ _ _ h => h) (Or.inl ⟨by rfl, ?_⟩) hHeld ?_ ?_
                       rotate_left
                       ·rintro w' ⟨s0, s1, s2, s3, s4, s5, s6, s7, s8⟩
                        go_simp
                        with_reducible rfl
                       rotate_left
                       ·simp only [Act.put, List.setIfInBounds_toArray, List.set_cons_zero, List.set_cons_succ, i64_w, i32_w]
                        rfl
                       refine pA 17 (some 97) (bA 20 262143) HT_.out ?_
                       refine pA 18 (some 98) (bA 20 524287) HT_.out ?_
                       refine pA 19 (some 10) (bA 20 1048575) HT_.out ?_
                       refine done_ (done_of HT_.out (by kernel_rfl)) ?_
                       try go_wp2
                       go_roundg k5
                       case measure => have := HJ3.out; have := HJ9.out; have := HK3.out; have := HK4.out; have := HK5.out; omega
                       case rel => exact ⟨(((strOfNums ((rd_T49 t237 x11_5).f0)).toList == (strOfNums ((rd_T49 (rd_L4 t234 x8_3) x9_4).f0)).toList)), (wrap64 (x11_5 + 1)), (by first | rfl | (simp; done) | (simp [*]; done)), (by first | rfl | (simp; done) | (simp [*]; done)), H', ⟨by have := HJ3.out; have := HJ9.out; have := HK3.out; have := HK4.out; have := HK5.out; omega⟩, ⟨by (with_reducible repeat (first | apply Kd.N_alloc | apply Kd.N_drewN | apply Kd.N_drew)); exact HO_5.out⟩, ⟨by (with_reducible repeat (first | apply Kd.N_alloc | apply Kd.N_drewN | apply Kd.N_drew)); exact HO_7.out⟩, ⟨(belN HB.out)⟩⟩
                      ·rw [if_neg c86] at H
                       exact absurd H (by simp)
                     ·rw [if_neg c85] at H
                      exact absurd H (by simp)
                    ·rw [if_neg c84] at H
                     exact absurd H (by simp)
                   ·rw [if_neg c83] at H
                    exact absurd H (by simp)
                  ·rw [if_neg c82] at H
                   exact absurd H (by simp)
                ·rw [if_neg c78] at H
                 have c78b0 : decide (x11_5 < (t237.length : Int)) = false := decide_eq_false c78
                 clear c78
                 by_cases c92 : x10_5 = true
                 ·subst c92
                  have H1 : (marigraphlaw9_MergeJoins.l1 k5 t234 t237 x8_3 (wrap64 (x9_4 + 1))) = some r := by rw [if_pos rfl] at H; exact H
                  clear H
                  have H := H1
                  clear H1
                  have H' := Aside0.mk H
                  clear H
                  obtain ⟨Ao93, co93, eo93⟩ := Kd.N_slice HO_7.out
                  subst eo93
                  go_wp2
                  go_roundg k5
                  case measure => have := HJ3.out; have := HJ9.out; have := HK3.out; have := HK4.out; have := HK5.out; omega
                  case rel => exact ⟨(wrap64 (x9_4 + 1)), (by first | rfl | (simp; done) | (simp [*]; done)), H', ⟨by have := HJ3.out; have := HJ9.out; have := HK3.out; have := HK4.out; have := HK5.out; omega⟩, ⟨by (with_reducible repeat (first | apply Kd.N_alloc | apply Kd.N_drewN | apply Kd.N_drew)); exact HO_5.out⟩, ⟨by (with_reducible repeat (first | apply Kd.N_alloc | apply Kd.N_drewN | apply Kd.N_drew)); exact HO_7.out⟩, ⟨(belN HB.out)⟩⟩
                 ·replace c92 := Bool.eq_false_iff.mpr c92
                  subst c92
                  have H1 : (some false) = some r := by rw [if_neg (show ¬ (false = true) by decide)] at H; exact H
                  clear H
                  have H := H1
                  clear H1
                  obtain rfl := Option.some.inj H
                  obtain ⟨Ao94, co94, eo94⟩ := Kd.N_slice HO_7.out
                  subst eo94
                  go_wp2
                  go_ret
                  exact ⟨by first | rfl | (simp [errW_none, errW_some] <;> rfl) | (simp [*, errW_none, errW_some] <;> rfl), (belN HB.out)⟩
             ·rw [if_neg c77] at H
              have c77b0 : decide (x9_4 < ((rd_L4 t234 x8_3).length : Int)) = false := decide_eq_false c77
              clear c77
              have H' := Aside0.mk H
              clear H
              have p272 : 0 ≤ (x8_3 : Int) := of_decide_eq_true (by first | (with_reducible assumption) | assumption)
              have q272 : x8_3 < (t234.length : Int) := of_decide_eq_true (by first | (with_reducible assumption) | assumption)
              obtain ⟨ad272, A272_0, c272_0, e272, hx272_0, hl272_0, hi272_0⟩ := at_L4 (Kd.N_reads' HO_5.out).2.2 x8_3 p272 q272
              cases e272
              obtain ⟨ce272, hce272, hMe272, hcc272⟩ := Kd.N_get HO_5.out [] x8_3 p272 (by first | exact q272 | exact of_decide_eq_true (by first | (with_reducible assumption) | assumption) | (have e_ := (Kd.N_reads' HO_5.out).1; omega))
              obtain ⟨ua272_0, uc272_0, rfl, ul272_0, ge272_0⟩ := Kd.FK_slice_open hMe272
              have hv272_0 := hcc272 0 _ rfl
              rw [Nat.add_zero, show ((Kd.slice 49 k49)).sz = 1 from rfl, Nat.mul_one] at hv272_0
              replace hv272_0 := Option.some.inj (hv272_0.symm.trans hx272_0)
              injection hv272_0 with hva_ hvn_ hvc_
              rw [hva_] at ge272_0
              rw [hvc_] at ul272_0
              have HL272_0 := Aside0.mk (show Kd.V k49 49 _ w.heap.size _ _ (rd_L4 t234 x8_3) from Kd.V_mk ul272_0 ge272_0)
              clear hva_ hvn_ hvc_ ge272_0 ul272_0
              clear hcc272 hce272
              have HR272_0 := Aside0.mk hi272_0
              have HC272_0 := Aside0.mk hl272_0
              clear hi272_0 hl272_0
              replace p272 := eq_true p272
              replace q272 := eq_true q272
              go_wp2
              go_roundg k4
              case measure => have := HJ3.out; have := HJ9.out; have := HK3.out; have := HK4.out; omega
              case rel => exact ⟨(wrap64 (x8_3 + 1)), (by first | rfl | (simp; done) | (simp [*]; done)), H', ⟨by have := HJ3.out; have := HJ9.out; have := HK3.out; have := HK4.out; omega⟩, ⟨by (with_reducible repeat (first | apply Kd.N_alloc | apply Kd.N_drewN | apply Kd.N_drew)); exact HO_5.out⟩, ⟨by (with_reducible repeat (first | apply Kd.N_alloc | apply Kd.N_drewN | apply Kd.N_drew)); exact HO_7.out⟩, ⟨(belN HB.out)⟩⟩
            ·rw [if_neg c76] at H
             exact absurd H (by simp)
           ·rw [if_neg c75] at H
            exact absurd H (by simp)
        ·rw [if_neg c74] at H
         have c74b0 : decide (x8_3 < (t234.length : Int)) = false := decide_eq_false c74
         clear c74
         replace H := Option.bind_eq_some_iff.mp H
         obtain ⟨t271, A950, H⟩ := H
         replace H : (some t271) = some r := H
         have A95 := Aside0.mk A950
         clear A950
         obtain rfl := Option.some.inj H
         go_wp2_with (first | ((with_reducible refine gate_callee (f := 29) rfl ?_); refine goesL_ (some 101) rfl rfl Try.func29 (by kernel_rfl) rfl #[] rfl argN ?_; (with_reducible refine (marigraphlaw9_known.calls k3  t271 _ A95.out).mono ?_); rintro e w96 ⟨rfl, hb⟩; refine ⟨_, rfl, ?_⟩; have n0_ := Aside0.mk (Kd.N_below (by (with_reducible repeat (first | apply Kd.N_alloc | apply Kd.N_drewN | apply Kd.N_drew)); exact HO_5.out) hb); have n1_ := Aside0.mk (Kd.N_below (by (with_reducible repeat (first | apply Kd.N_alloc | apply Kd.N_drewN | apply Kd.N_drew)); exact HO_7.out) hb); have n2_ := Aside0.mk (below_step (belN HB.out) hb); clear HO_5; clear HO_7; clear HB; have HO_5 := n0_; have HO_7 := n1_; have HB := n2_; clear n0_ n1_ n2_; (try clear hb); (try clear hk)))
         go_ret
         exact ⟨by first | rfl | (simp [errW_none, errW_some] <;> rfl) | (simp [*, errW_none, errW_some] <;> rfl), (belN HB.out)⟩

end Go.Proofs.Ytmimfnangdabmaa.PMergeJoins

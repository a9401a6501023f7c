/- The walk of the Go functions that a law reaches, told as plain functions; a program of this session has written it. No condition beyond the statement's own. -/
import Derived.Test.YtmimfnangdabmaaPFrameApartx0
import Derived.Test.YtmimfnangdabmaaPFrameApartx1
import Derived.Test.YtmimfnangdabmaaPFrameApartx2
import Derived.Test.YtmimfnangdabmaaPFrameApartx3
import Derived.Test.YtmimfnangdabmaaPFrameApartx4
import Derived.Test.YtmimfnangdabmaaPFrameApartx5
namespace Go.Proofs.Ytmimfnangdabmaa.PFrameApart
open Go.RowKit Go.Proofs.YtmimfnangdabmaaW.PrintWords Go.Proofs.YtmimfnangdabmaaW.PrintLast Go.Proofs.YtmimfnangdabmaaW.PrintMore
attribute [local go_sem] max2_int min2_int max_two min_two max_three min_three max_four min_four   -- for this text's walks alone
set_option linter.unusedVariables false
set_option linter.unusedSimpArgs false

/-! ### marigraphlaw4_FrameApart: function 4 -/
mutual
def marigraphlaw4_FrameApart.j0 : Nat → List Int → List Int → Bool → Option (Bool)
 | 0, _, _, _ => none
 | k + 1, x2, x9, x48 => if x48 = true then (some false) else ((frame_Put.f k ([] : List Int) x9).bind fun bt231 => (if bt231.2 = 0 then (marigraphlaw4_FrameApart.j1 k x2 x9 bt231.1 ((bt231.1.length : Int) != (wrap64 ((x9.length : Int) + 6)))) else (marigraphlaw4_FrameApart.j1 k x2 x9 bt231.1 true)))
def marigraphlaw4_FrameApart.j1 : Nat → List Int → List Int → List Int → Bool → Option (Bool)
 | 0, _, _, _, _ => none
 | k + 1, x2, x9, x13, x63 => if x63 = true then (some false) else ((some (([] : List Int) : List Int)).bind fun y235 => (if y235.length + x13.length < 140737488355328 then ((some (y235 ++ x13 : List Int)).bind fun y238 => (if y238.length + (cutI x2 30).length < 140737488355328 then ((frame_All.f k (y238 ++ (cutI x2 30))).bind fun bt245 => (if (bt245.1.length : Int) ≥ 1 then (if bt245.2.1 ≥ (x13.length : Int) then (if 0 < (bt245.1.length : Int) then (if (strOfNums (rd_L1 bt245.1 0)).toList = (strOfNums x9).toList then ((marigraphlaw4_known.f k).bind fun t251 => (some t251)) else (some false)) else (none)) else (some false)) else (some false))) else (none))) else (none)))
end
def marigraphlaw4_FrameApart.f (k : Nat) (l0 : List (S49)) (l1 : List (S49)) (l2 : List Int) : Option (Bool) := (marigraphkeep_Entries.f k l0 8 20 30).bind fun t216 => ((marigraphkeep_Entries.f k l1 8 20 30).bind fun t219 => ((frame_Batch.f k t216).bind fun bt222 => ((frame_Batch.f k t219).bind fun bt226 => (if bt222.2 = 0 then (if bt226.2 = 0 then ((marigraphref8_Same.f k t216 t219).bind fun t230 => (marigraphlaw4_FrameApart.j0 k l2 bt222.1 (((strOfNums bt222.1).toList == (strOfNums bt226.1).toList) != t230))) else (marigraphlaw4_FrameApart.j0 k l2 bt222.1 true)) else (marigraphlaw4_FrameApart.j0 k l2 bt222.1 true)))))
theorem marigraphlaw4_FrameApart.mono_l : ∀ k, (∀ y0 y1 y2, LeO (marigraphlaw4_FrameApart.j0 k y0 y1 y2) (marigraphlaw4_FrameApart.j0 (k + 1) y0 y1 y2)) ∧ (∀ y0 y1 y2 y3, LeO (marigraphlaw4_FrameApart.j1 k y0 y1 y2 y3) (marigraphlaw4_FrameApart.j1 (k + 1) y0 y1 y2 y3))
 | 0 => ⟨fun _ _ _ r h => by simp [marigraphlaw4_FrameApart.j0] at h, fun _ _ _ _ r h => by simp [marigraphlaw4_FrameApart.j1] at h⟩
 | k + 1 => by
  obtain ⟨ih0, ih1⟩ := marigraphlaw4_FrameApart.mono_l k
  refine ⟨?_, ?_⟩
  ·intro y0 y1 y2
   unfold marigraphlaw4_FrameApart.j0
   repeat' first
   | (with_reducible exact ih0 _ _ _)
   | (with_reducible exact ih1 _ _ _ _)
   | (with_reducible exact frame_All.mono _ _)
   | (with_reducible exact frame_Batch.mono _ _)
   | (with_reducible exact frame_Put.mono _ _ _)
   | (with_reducible exact marigraphkeep_Entries.mono _ _ _ _ _)
   | (with_reducible exact marigraphlaw4_known.mono _)
   | (with_reducible exact marigraphref8_Same.mono _ _ _)
   | (with_reducible exact LeO.refl _)
   | (with_reducible exact LeO.none _)
   | (with_reducible refine LeO.ite ?_ ?_)
   | (with_reducible refine LeO.bind ?_ (fun _ => ?_))
   | exact ih0 _ _ _
   | exact ih1 _ _ _ _
   | exact frame_All.mono _ _
   | exact frame_Batch.mono _ _
   | exact frame_Put.mono _ _ _
   | exact marigraphkeep_Entries.mono _ _ _ _ _
   | exact marigraphlaw4_known.mono _
   | exact marigraphref8_Same.mono _ _ _
   | exact LeO.none _
   | refine LeO.ite ?_ ?_
   | refine LeO.bind ?_ (fun _ => ?_)
  ·intro y0 y1 y2 y3
   unfold marigraphlaw4_FrameApart.j1
   repeat' first
   | (with_reducible exact ih0 _ _ _)
   | (with_reducible exact ih1 _ _ _ _)
   | (with_reducible exact frame_All.mono _ _)
   | (with_reducible exact frame_Batch.mono _ _)
   | (with_reducible exact frame_Put.mono _ _ _)
   | (with_reducible exact marigraphkeep_Entries.mono _ _ _ _ _)
   | (with_reducible exact marigraphlaw4_known.mono _)
   | (with_reducible exact marigraphref8_Same.mono _ _ _)
   | (with_reducible exact LeO.refl _)
   | (with_reducible exact LeO.none _)
   | (with_reducible refine LeO.ite ?_ ?_)
   | (with_reducible refine LeO.bind ?_ (fun _ => ?_))
   | exact ih0 _ _ _
   | exact ih1 _ _ _ _
   | exact frame_All.mono _ _
   | exact frame_Batch.mono _ _
   | exact frame_Put.mono _ _ _
   | exact marigraphkeep_Entries.mono _ _ _ _ _
   | exact marigraphlaw4_known.mono _
   | exact marigraphref8_Same.mono _ _ _
   | exact LeO.none _
   | refine LeO.ite ?_ ?_
   | refine LeO.bind ?_ (fun _ => ?_)
theorem marigraphlaw4_FrameApart.mono : ∀ a0 a1 a2 k, LeO (marigraphlaw4_FrameApart.f k a0 a1 a2) (marigraphlaw4_FrameApart.f (k + 1) a0 a1 a2) := by
 intro a0 a1 a2 k
 obtain ⟨ih0, ih1⟩ := marigraphlaw4_FrameApart.mono_l k
 unfold marigraphlaw4_FrameApart.f
 repeat' first
   | (with_reducible exact ih0 _ _ _)
   | (with_reducible exact ih1 _ _ _ _)
   | (with_reducible exact frame_All.mono _ _)
   | (with_reducible exact frame_Batch.mono _ _)
   | (with_reducible exact frame_Put.mono _ _ _)
   | (with_reducible exact marigraphkeep_Entries.mono _ _ _ _ _)
   | (with_reducible exact marigraphlaw4_known.mono _)
   | (with_reducible exact marigraphref8_Same.mono _ _ _)
   | (with_reducible exact LeO.refl _)
   | (with_reducible exact LeO.none _)
   | (with_reducible refine LeO.ite ?_ ?_)
   | (with_reducible refine LeO.bind ?_ (fun _ => ?_))
   | exact ih0 _ _ _
   | exact ih1 _ _ _ _
   | exact frame_All.mono _ _
   | exact frame_Batch.mono _ _
   | exact frame_Put.mono _ _ _
   | exact marigraphkeep_Entries.mono _ _ _ _ _
   | exact marigraphlaw4_known.mono _
   | exact marigraphref8_Same.mono _ _ _
   | exact LeO.none _
   | refine LeO.ite ?_ ?_
   | refine LeO.bind ?_ (fun _ => ?_)
def marigraphlaw4_FrameApart.T4 : Bool × List (List Nat × List Nat) := (true, [([], []), ([0], [0]), ([1], [1]), ([2], [2]), ([3, 2], [2, 3]), ([2, 4], [2, 4]), ([5, 2], [5]), ([6], [6]), ([7, 6], [6, 7]), ([6], [6]), ([9, 6], [6, 9]), ([8, 10, 6], [6, 8, 10]), ([6], [6]), ([6], [6]), ([12, 13, 6, 6], [6, 12, 13]), ([11, 14, 6], [6, 11, 14]), ([6, 15], [6, 15])])
def marigraphlaw4_FrameApart.B4 : List Nat := [0, 1, 3, 7, 15, 31, 63, 127, 255, 127, 639, 2047, 127, 127, 12415, 32767, 65535]
theorem marigraphlaw4_FrameApart.tab4 : rtab .any (opsOf Try.f4 4) = marigraphlaw4_FrameApart.T4 := by kernel_rfl
theorem marigraphlaw4_FrameApart.bits4 : waitsOk marigraphlaw4_FrameApart.T4.2 marigraphlaw4_FrameApart.B4 = true := by kernel_rfl
def marigraphlaw4_FrameApart.T10 : Bool × List (List Nat × List Nat) := (true, [([], []), ([0], [0]), ([1], [1]), ([2], [2]), ([3], [3]), ([3], [3]), ([5, 3], [3, 5]), ([4, 6, 3], [3, 4, 6]), ([3, 7], [3, 7]), ([8, 3], [8]), ([9], [9]), ([10, 9], [9, 10]), ([11, 9], [9, 11]), ([12, 9], [9, 12]), ([9], [9]), ([14, 9], [9, 14]), ([13, 15, 9], [9, 13, 15]), ([9, 16], [9, 16]), ([17, 9], [17]), ([18, 18], [18]), ([18, 19], [18, 19]), ([20, 19, 0, 1, 2, 3, 4, 5, 6, 7, 8, 9, 10, 11, 12, 13, 14, 15, 16, 17, 18, 19, 20], [20])])
def marigraphlaw4_FrameApart.B10 : List Nat := [0, 1, 3, 7, 15, 15, 47, 127, 255, 511, 1023, 2047, 4095, 8191, 1023, 17407, 65535, 131071, 262143, 524287, 1048575, 2097151]
theorem marigraphlaw4_FrameApart.tab10 : rtab .any (opsOf Try.f4 10) = marigraphlaw4_FrameApart.T10 := by kernel_rfl
theorem marigraphlaw4_FrameApart.bits10 : waitsOk marigraphlaw4_FrameApart.T10.2 marigraphlaw4_FrameApart.B10 = true := by kernel_rfl
set_option maxHeartbeats 8000000 in
set_option maxRecDepth 100000 in
theorem marigraphlaw4_FrameApart.calls (k : Nat) (A0 : Option Addr) (c0 : Nat) (l0 : List (S49)) (A1 : Option Addr) (c1 : Nat) (l1 : List (S49)) (A2 : Option Addr) (c2 : Nat) (l2 : List Int) (r : Bool) (w : World) (hr0 : Kd.C k49 w A0 l0.length l0) (hc0 : l0.length ≤ c0) (hr1 : Kd.C k49 w A1 l1.length l1) (hc1 : l1.length ≤ c1) (hr2 : Kd.C (Kd.int .u8) w A2 l2.length l2) (hc2 : l2.length ≤ c2) (h : marigraphlaw4_FrameApart.f k l0 l1 l2 = some r) :
  Calls Try.prog 4 #[.slice A0 l0.length c0, .slice A1 l1.length c1, .slice A2 l2.length c2] w fun e w' => e = .returned (.bool r) ∧ Below w.heap.size w w' := by
 have HR0 := Aside0.mk hr0
 have HC0 := Aside0.mk hc0
 clear hr0 hc0
 have HR1 := Aside0.mk hr1
 have HC1 := Aside0.mk hc1
 clear hr1 hc1
 have HR2 := Aside0.mk hr2
 have HC2 := Aside0.mk hc2
 clear hr2 hc2
 have HB := Aside0.mk (Below.refl w.heap.size w)
 have H : ((marigraphkeep_Entries.f k l0 8 20 30).bind fun t216 => ((marigraphkeep_Entries.f k l1 8 20 30).bind fun t219 => ((frame_Batch.f k t216).bind fun bt222 => ((frame_Batch.f k t219).bind fun bt226 => (if bt222.2 = 0 then (if bt226.2 = 0 then ((marigraphref8_Same.f k t216 t219).bind fun t230 => (marigraphlaw4_FrameApart.j0 k l2 bt222.1 (((strOfNums bt222.1).toList == (strOfNums bt226.1).toList) != t230))) else (marigraphlaw4_FrameApart.j0 k l2 bt222.1 true)) else (marigraphlaw4_FrameApart.j0 k l2 bt222.1 true)))))) = some r := h
 clear h
 replace H := Option.bind_eq_some_iff.mp H
 obtain ⟨t216, A40, H⟩ := H
 replace H : ((marigraphkeep_Entries.f k l1 8 20 30).bind fun t219 => ((frame_Batch.f k t216).bind fun bt222 => ((frame_Batch.f k t219).bind fun bt226 => (if bt222.2 = 0 then (if bt226.2 = 0 then ((marigraphref8_Same.f k t216 t219).bind fun t230 => (marigraphlaw4_FrameApart.j0 k l2 bt222.1 (((strOfNums bt222.1).toList == (strOfNums bt226.1).toList) != t230))) else (marigraphlaw4_FrameApart.j0 k l2 bt222.1 true)) else (marigraphlaw4_FrameApart.j0 k l2 bt222.1 true))))) = some r := H
 have A4 := Aside0.mk A40
 clear A40
 replace H := Option.bind_eq_some_iff.mp H
 obtain ⟨t219, A50, H⟩ := H
 replace H : ((frame_Batch.f k t216).bind fun bt222 => ((frame_Batch.f k t219).bind fun bt226 => (if bt222.2 = 0 then (if bt226.2 = 0 then ((marigraphref8_Same.f k t216 t219).bind fun t230 => (marigraphlaw4_FrameApart.j0 k l2 bt222.1 (((strOfNums bt222.1).toList == (strOfNums bt226.1).toList) != t230))) else (marigraphlaw4_FrameApart.j0 k l2 bt222.1 true)) else (marigraphlaw4_FrameApart.j0 k l2 bt222.1 true)))) = some r := H
 have A5 := Aside0.mk A50
 clear A50
 replace H := Option.bind_eq_some_iff.mp H
 obtain ⟨⟨t222, t223⟩, A60, H⟩ := H
 replace H : ((frame_Batch.f k t219).bind fun bt226 => (if t223 = 0 then (if bt226.2 = 0 then ((marigraphref8_Same.f k t216 t219).bind fun t230 => (marigraphlaw4_FrameApart.j0 k l2 t222 (((strOfNums t222).toList == (strOfNums bt226.1).toList) != t230))) else (marigraphlaw4_FrameApart.j0 k l2 t222 true)) else (marigraphlaw4_FrameApart.j0 k l2 t222 true))) = some r := H
 have A6 := Aside0.mk A60
 clear A60
 replace H := Option.bind_eq_some_iff.mp H
 obtain ⟨⟨t226, t227⟩, A70, H⟩ := H
 replace H : (if t223 = 0 then (if t227 = 0 then ((marigraphref8_Same.f k t216 t219).bind fun t230 => (marigraphlaw4_FrameApart.j0 k l2 t222 (((strOfNums t222).toList == (strOfNums t226).toList) != t230))) else (marigraphlaw4_FrameApart.j0 k l2 t222 true)) else (marigraphlaw4_FrameApart.j0 k l2 t222 true)) = some r := H
 have A7 := Aside0.mk A70
 clear A70
 have HC8 := Aside0.mk H
 clear H
 go_enter Try.func4, Try.ntmps4
 go_upto_region 4 with (first | ((with_reducible refine gate_callee (f := 21) rfl ?_); refine goesL_ (some 19) rfl rfl Try.func21 (by kernel_rfl) rfl #[.slice A0 l0.length c0, .int .i64 8, .int .i64 20, .int .i64 30] rfl argN ?_; (with_reducible refine (marigraphkeep_Entries.calls k (fun k_ => k_ < w.heap.size) _ _ l0 8 20 30 t216 _ ?side1 A4.out).mono ?_); (case side1 => exact Kd.V_mk HC0.out (Kd.F_below (Kd.C_F k49_heap HR0.out) (belN HB.out))); rintro e w9 ⟨v217, rfl, ho0, hb⟩; refine ⟨_, rfl, ?_⟩; have n0_ := Aside0.mk (Kd.N_lower (Kd.N_mono (ok' := fun k_ => True) ho0 (fun k_ hk_ => trivial)) (below_size (belN HB.out))); have n1_ := Aside0.mk (below_step (belN HB.out) hb); clear HB; have HO218 := n0_; have HB := n1_; clear n0_ n1_; (try clear hb); (try clear hk); (try clear ho0)) | ((with_reducible refine gate_callee (f := 21) rfl ?_); refine goesL_ (some 21) rfl rfl Try.func21 (by kernel_rfl) rfl #[.slice A1 l1.length c1, .int .i64 8, .int .i64 20, .int .i64 30] rfl argN ?_; (with_reducible refine (marigraphkeep_Entries.calls k (fun k_ => k_ < w.heap.size) _ _ l1 8 20 30 t219 _ ?side1 A5.out).mono ?_); (case side1 => exact Kd.V_mk HC1.out (Kd.F_below (Kd.C_F k49_heap HR1.out) (belN HB.out))); rintro e w10 ⟨v220, rfl, ho0, hb⟩; refine ⟨_, rfl, ?_⟩; have n0_ := Aside0.mk (Kd.N_elder' (by (with_reducible repeat (first | apply Kd.N_alloc | apply Kd.N_drewN | apply Kd.N_drew)); exact HO218.out) (Kd.N_base ho0) hb); have n1_ := Aside0.mk (Kd.N_lower (Kd.N_mono (ok' := fun k_ => some k_ ≠ (v217 : Value).ownBlock) ho0 (fun k_ hk_ => Or.elim hk_ (fun hs_ => fun e_ => Nat.not_le.2 hs_ (Kd.N_base HO218.out k_ e_.symm)) (fun hn_ => (Kd.fresh' (Kd.N_lt (by (with_reducible repeat (first | apply Kd.N_alloc | apply Kd.N_drewN | apply Kd.N_drew)); exact HO218.out)) k_ hn_)))) (below_size (belN HB.out))); have n2_ := Aside0.mk (below_step (belN HB.out) hb); clear HO218; clear HB; have HO218 := n0_; have HO221 := n1_; have HB := n2_; clear n0_ n1_ n2_; (try clear hb); (try clear hk); (try clear ho0); obtain ⟨Ao11, co11, eo11⟩ := Kd.N_slice HO218.out; subst eo11) | ((with_reducible refine gate_callee (f := 22) rfl ?_); refine goesL_ (some 24) rfl rfl Try.func22 (by kernel_rfl) rfl #[.slice Ao11 t216.length co11] rfl argN ?_; (with_reducible refine (frame_Batch.calls k _ _ t216 t222 t223 _ ?side1 ?side2 A6.out).mono ?_); (case side1 => repeat (first | exact (Kd.N_reads' HO218.out).2.2 | (with_reducible refine Kd.C_alloc ?_ _) | (with_reducible refine Kd.C_drewN ?_ _) | (with_reducible refine Kd.C_drew ?_))); (case side2 => exact (Kd.N_reads' HO218.out).2.1); rintro e w12 ⟨v224, rfl, ho0, hb⟩; refine ⟨_, rfl, ?_⟩; have n0_ := Aside0.mk (Kd.N_elder' (by (with_reducible repeat (first | apply Kd.N_alloc | apply Kd.N_drewN | apply Kd.N_drew)); exact HO218.out) (Kd.R_base ho0) hb); have n1_ := Aside0.mk (Kd.N_elder' (by (with_reducible repeat (first | apply Kd.N_alloc | apply Kd.N_drewN | apply Kd.N_drew)); exact HO221.out) (Kd.R_base ho0) hb); have n2_ := Aside0.mk (Kd.R_lower ho0 (below_size (belN HB.out))); have n3_ := Aside0.mk (below_step (belN HB.out) hb); clear HO218; clear HO221; clear HB; have HO218 := n0_; have HO221 := n1_; have HO225 := n2_; have HB := n3_; clear n0_ n1_ n2_ n3_; (try clear hb); (try clear hk); (try clear ho0); obtain ⟨Ao13, co13, eo13⟩ := Kd.N_slice HO221.out; subst eo13) | ((with_reducible refine gate_callee (f := 22) rfl ?_); refine goesL_ (some 29) rfl rfl Try.func22 (by kernel_rfl) rfl #[.slice Ao13 t219.length co13] rfl argN ?_; (with_reducible refine (frame_Batch.calls k _ _ t219 t226 t227 _ ?side1 ?side2 A7.out).mono ?_); (case side1 => repeat (first | exact (Kd.N_reads' HO221.out).2.2 | (with_reducible refine Kd.C_alloc ?_ _) | (with_reducible refine Kd.C_drewN ?_ _) | (with_reducible refine Kd.C_drew ?_))); (case side2 => exact (Kd.N_reads' HO221.out).2.1); rintro e w14 ⟨v228, rfl, ho0, hb⟩; refine ⟨_, rfl, ?_⟩; have n0_ := Aside0.mk (Kd.N_elder' (by (with_reducible repeat (first | apply Kd.N_alloc | apply Kd.N_drewN | apply Kd.N_drew)); exact HO218.out) (Kd.R_base ho0) hb); have n1_ := Aside0.mk (Kd.N_elder' (by (with_reducible repeat (first | apply Kd.N_alloc | apply Kd.N_drewN | apply Kd.N_drew)); exact HO221.out) (Kd.R_base ho0) hb); have n2_ := Aside0.mk (Kd.R_elder' (rowN HO225.out) (Kd.R_base ho0) hb); have n3_ := Aside0.mk (Kd.R_lower (Kd.R_new' ho0 (Kd.R_lt (rowN HO225.out))) (below_size (belN HB.out))); have n4_ := Aside0.mk (below_step (belN HB.out) hb); clear HO218; clear HO221; clear HO225; clear HB; have HO218 := n0_; have HO221 := n1_; have HO225 := n2_; have HO229 := n3_; have HB := n4_; clear n0_ n1_ n2_ n3_ n4_; (try clear hb); (try clear hk); (try clear ho0)))
 (try simp only [Act.put, List.setIfInBounds_toArray, List.set_cons_zero, List.set_cons_succ])
 go_cut [48] (fun v48 wc => ∃ (kq : Nat) (x48_7 : Bool), v48 = .bool x48_7 ∧ Aside0 (marigraphlaw4_FrameApart.j0 kq l2 t222 x48_7 = some r) ∧ Aside0 (kq ≤ k) ∧ Aside0 (Kd.R (Kd.int .u8) 5 wc w.heap.size (fun _ => True) v224 t222) ∧ Aside0 (Below w.heap.size w wc))
 case first =>
  have H := HC8.out
  clear HC8
  by_cases c15 : t223 = 0
  ·rw [if_pos c15] at H
   have c15b0 : (t223 == 0) = true := beq_iff_eq.mpr c15
   have c15b1 : (t223 != 0) = false := bne_eq_false_iff_eq.mpr c15
   clear c15
   (first | rw [c15b0] | rw [c15b1] | (simp only [i64_w, i32_w]; rw [c15b0]) | skip)
   by_cases c16 : t227 = 0
   ·rw [if_pos c16] at H
    have c16b0 : (t227 == 0) = true := beq_iff_eq.mpr c16
    have c16b1 : (t227 != 0) = false := bne_eq_false_iff_eq.mpr c16
    clear c16
    replace H := Option.bind_eq_some_iff.mp H
    obtain ⟨t230, A170, H⟩ := H
    replace H : (marigraphlaw4_FrameApart.j0 k l2 t222 (((strOfNums t222).toList == (strOfNums t226).toList) != t230)) = some r := H
    have A17 := Aside0.mk A170
    clear A170
    have H' := Aside0.mk H
    clear H
    try go_wp2
    have n0_ := Aside0.mk (Kd.N_drew HO218.out)
    have n1_ := Aside0.mk (Kd.N_drew HO221.out)
    have n2_ := Aside0.mk (Kd.R_drew HO225.out)
    have n3_ := Aside0.mk (Kd.R_drew HO229.out)
    have n4_ := Aside0.mk (below_drew1 HB.out)
    clear HO218
    clear HO221
    clear HO225
    clear HO229
    clear HB
    have HO218 := n0_
    have HO221 := n1_
    have HO225 := n2_
    have HO229 := n3_
    have HB := n4_
    clear n0_ n1_ n2_ n3_ n4_
    refine start_ (n := 17) (S := fun w' => (convert 23 9 (v224)).run Try.prog w' = .ok (.string (strOfNums t222)) w' ∧ (convert 23 9 (v228)).run Try.prog w' = .ok (.string (strOfNums t226)) w') (ds := []) #[false, false, false, false, false, false, false, false, false, false, false, false, false, false, false, false, false] (by kernel_rfl) rfl rfl ⟨(own_string (P := Try.prog) Try.underlying23 Try.underlying5 Try.underlying9 (Kd.own_of_R HO225.out)), (own_string (P := Try.prog) Try.underlying23 Try.underlying5 Try.underlying9 (Kd.own_of_R HO229.out))⟩ (fun hHeld => ?_); refine with_tabW marigraphlaw4_FrameApart.tab4 marigraphlaw4_FrameApart.bits4 (fun HT_ HW_ => ?_)
    generalize w14.drew = w18 at HO218 HO221 HO225 HO229 HB hHeld ⊢
    have HV19 := HO225
    have HV20 := HO229
    refine pA 0 (some 32) (bA 17 1) HT_.out ?_
    refine pA 1 (some 33) (bA 17 3) HT_.out ?_
    refine pA 2 (some 34) (bA 17 7) HT_.out ?_
    refine pA 3 (some 35) (bA 17 15) HT_.out ?_
    refine pA 4 (some 36) (bA 17 31) HT_.out ?_
    refine pA 5 (some 37) (bA 17 63) HT_.out ?_
    refine pA 6 (some 38) (bA 17 127) HT_.out ?_
    refine pA 7 (some 39) (bA 17 255) HT_.out ?_
    refine pA 9 (some 41) (bA 17 767) HT_.out ?_
    refine pA 12 (some 44) (bA 17 4863) HT_.out ?_
    refine pA 13 (some 45) (bA 17 13055) HT_.out ?_
    refine take_ (i := 8) (N := some 40) (v := ?_) (a' := ?_) (bA 17 13311) rfl rfl (take_ofW HT_.out HW_.out (by kernel_rfl)) (fun _ _ _ h => h) (Or.inl ⟨by rfl, ?_⟩) hHeld ?_ ?_
    rotate_left
    ·rintro w' ⟨s0, s1⟩
     go_simp
     with_reducible rfl
    rotate_left
    ·simp only [Act.put, List.setIfInBounds_toArray, List.set_cons_zero, List.set_cons_succ, i64_w, i32_w]
     rfl
    refine take_ (i := 10) (N := some 42) (v := ?_) (a' := ?_) (bA 17 14335) rfl rfl (take_ofW HT_.out HW_.out (by kernel_rfl)) (fun _ _ _ h => h) (Or.inl ⟨by rfl, ?_⟩) hHeld ?_ ?_
    rotate_left
    ·rintro w' ⟨s0, s1⟩
     go_simp
     with_reducible rfl
    rotate_left
    ·simp only [Act.put, List.setIfInBounds_toArray, List.set_cons_zero, List.set_cons_succ, i64_w, i32_w]
     rfl
    refine pA 11 (some 43) (bA 17 16383) HT_.out ?_
    refine one_ (i := 14) (N := some 46) (bA 17 32767) rfl rfl (one_of HT_.out (by kernel_rfl)) (by decide) (fun K hK => ?_)
    refine goes_ Try.func23 (by kernel_rfl) rfl #[.slice Ao11 t216.length co11, .slice Ao13 t219.length co13] (by rfl) rfl rfl argN ?_
    with_reducible refine (marigraphref8_Same.calls k _ _ t216 _ _ t219 t230 _ ?side1 ?side2 ?side3 ?side4 A17.out).mono ?_
    (case side1 => repeat (first | exact (Kd.N_reads' HO218.out).2.2 | (with_reducible refine Kd.C_alloc ?_ _) | (with_reducible refine Kd.C_drewN ?_ _) | (with_reducible refine Kd.C_drew ?_)))
    (case side2 => exact (Kd.N_reads' HO218.out).2.1)
    (case side3 => repeat (first | exact (Kd.N_reads' HO221.out).2.2 | (with_reducible refine Kd.C_alloc ?_ _) | (with_reducible refine Kd.C_drewN ?_ _) | (with_reducible refine Kd.C_drew ?_)))
    (case side4 => exact (Kd.N_reads' HO221.out).2.1)
    rintro e w' ⟨rfl, ⟨nd, rfl⟩⟩
    refine ⟨_, rfl, ?_⟩
    refine hK.out _ _ ⟨(own_string (P := Try.prog) Try.underlying23 Try.underlying5 Try.underlying9 (Kd.own_of_R (rowN HV19.out))), (own_string (P := Try.prog) Try.underlying23 Try.underlying5 Try.underlying9 (Kd.own_of_R (rowN HV20.out)))⟩ (fun hHeld => ?_)
    clear hK K
    refine norm_ (a' := ?_) ?_ ?_
    rotate_left
    ·show Act.put _ (some 46) _ = _
     simp only [Act.put, List.setIfInBounds_toArray, List.set_cons_zero, List.set_cons_succ, i64_w, i32_w]
     rfl
    refine pA 15 (some 47) (bA 17 65535) HT_.out ?_
    refine pA 16 (some 48) (bA 17 131071) HT_.out ?_
    refine done_ (done_of HT_.out (by kernel_rfl)) ?_
    try go_wp2
    go_meet
    case rel => exact ⟨_, ((((strOfNums t222).toList == (strOfNums t226).toList) != t230)), (by first | rfl | (simp; done) | (simp [*]; done)), H', ⟨by first | omega | exact Nat.le_refl _⟩, ⟨by (with_reducible repeat (first | apply Kd.R_alloc | apply Kd.R_drewN | apply Kd.R_drew)); exact Kd.R_mono HO225.out (fun _ hk => trivial)⟩, ⟨(belN HB.out)⟩⟩
   ·rw [if_neg c16] at H
    have c16b0 : (t227 == 0) = false := beq_eq_false_iff_ne.mpr c16
    have c16b1 : (t227 != 0) = true := bne_iff_ne.mpr c16
    have H' := Aside0.mk H
    clear H
    try go_wp2
    have n0_ := Aside0.mk (Kd.N_drew HO218.out)
    have n1_ := Aside0.mk (Kd.N_drew HO221.out)
    have n2_ := Aside0.mk (Kd.R_drew HO225.out)
    have n3_ := Aside0.mk (Kd.R_drew HO229.out)
    have n4_ := Aside0.mk (below_drew1 HB.out)
    clear HO218
    clear HO221
    clear HO225
    clear HO229
    clear HB
    have HO218 := n0_
    have HO221 := n1_
    have HO225 := n2_
    have HO229 := n3_
    have HB := n4_
    clear n0_ n1_ n2_ n3_ n4_
    refine start_ (n := 17) (S := fun w' => True) (ds := []) #[false, false, false, false, false, false, false, false, false, false, false, false, false, false, false, false, false] (by kernel_rfl) rfl rfl trivial (fun hHeld => ?_); refine with_tabW marigraphlaw4_FrameApart.tab4 marigraphlaw4_FrameApart.bits4 (fun HT_ HW_ => ?_)
    generalize w14.drew = w22 at HO218 HO221 HO225 HO229 HB hHeld ⊢
    refine pA 0 (some 32) (bA 17 1) HT_.out ?_
    refine pA 1 (some 33) (bA 17 3) HT_.out ?_
    refine pA 2 (some 34) (bA 17 7) HT_.out ?_
    refine pA 3 (some 35) (bA 17 15) HT_.out ?_
    refine pA 4 (some 36) (bA 17 31) HT_.out ?_
    refine pA 5 (some 37) (bA 17 63) HT_.out ?_
    refine pA 6 (some 38) (bA 17 127) HT_.out ?_
    refine pU 7 (some 39) (bA 17 255) HT_.out ?_
    refine pU 8 (some 40) (bA 17 511) HT_.out ?_
    refine pU 9 (some 41) (bA 17 1023) HT_.out ?_
    refine pU 10 (some 42) (bA 17 2047) HT_.out ?_
    refine pU 11 (some 43) (bA 17 4095) HT_.out ?_
    refine pU 12 (some 44) (bA 17 8191) HT_.out ?_
    refine pU 13 (some 45) (bA 17 16383) HT_.out ?_
    refine pU 14 (some 46) (bA 17 32767) HT_.out ?_
    refine pU 15 (some 47) (bA 17 65535) HT_.out ?_
    refine pA 16 (some 48) (bA 17 131071) HT_.out ?_
    refine done_ (done_of HT_.out (by kernel_rfl)) ?_
    try go_wp2
    go_meet
    case rel => exact ⟨_, (true), (by first | rfl | (simp; done) | (simp [*]; done)), H', ⟨by first | omega | exact Nat.le_refl _⟩, ⟨by (with_reducible repeat (first | apply Kd.R_alloc | apply Kd.R_drewN | apply Kd.R_drew)); exact Kd.R_mono HO225.out (fun _ hk => trivial)⟩, ⟨(belN HB.out)⟩⟩
  ·rw [if_neg c15] at H
   have c15b0 : (t223 == 0) = false := beq_eq_false_iff_ne.mpr c15
   have c15b1 : (t223 != 0) = true := bne_iff_ne.mpr c15
   (first | rw [c15b0] | rw [c15b1] | (simp only [i64_w, i32_w]; rw [c15b0]) | skip)
   have H' := Aside0.mk H
   clear H
   try go_wp2
   have n0_ := Aside0.mk (Kd.N_drew HO218.out)
   have n1_ := Aside0.mk (Kd.N_drew HO221.out)
   have n2_ := Aside0.mk (Kd.R_drew HO225.out)
   have n3_ := Aside0.mk (Kd.R_drew HO229.out)
   have n4_ := Aside0.mk (below_drew1 HB.out)
   clear HO218
   clear HO221
   clear HO225
   clear HO229
   clear HB
   have HO218 := n0_
   have HO221 := n1_
   have HO225 := n2_
   have HO229 := n3_
   have HB := n4_
   clear n0_ n1_ n2_ n3_ n4_
   refine start_ (n := 17) (S := fun w' => True) (ds := []) #[false, false, false, false, false, false, false, false, false, false, false, false, false, false, false, false, false] (by kernel_rfl) rfl rfl trivial (fun hHeld => ?_); refine with_tabW marigraphlaw4_FrameApart.tab4 marigraphlaw4_FrameApart.bits4 (fun HT_ HW_ => ?_)
   generalize w14.drew = w23 at HO218 HO221 HO225 HO229 HB hHeld ⊢
   refine pA 0 (some 32) (bA 17 1) HT_.out ?_
   refine pA 1 (some 33) (bA 17 3) HT_.out ?_
   refine pA 2 (some 34) (bA 17 7) HT_.out ?_
   refine pU 3 (some 35) (bA 17 15) HT_.out ?_
   refine pU 4 (some 36) (bA 17 31) HT_.out ?_
   refine pA 5 (some 37) (bA 17 63) HT_.out ?_
   refine pA 6 (some 38) (bA 17 127) HT_.out ?_
   refine pU 7 (some 39) (bA 17 255) HT_.out ?_
   refine pU 8 (some 40) (bA 17 511) HT_.out ?_
   refine pU 9 (some 41) (bA 17 1023) HT_.out ?_
   refine pU 10 (some 42) (bA 17 2047) HT_.out ?_
   refine pU 11 (some 43) (bA 17 4095) HT_.out ?_
   refine pU 12 (some 44) (bA 17 8191) HT_.out ?_
   refine pU 13 (some 45) (bA 17 16383) HT_.out ?_
   refine pU 14 (some 46) (bA 17 32767) HT_.out ?_
   refine pU 15 (some 47) (bA 17 65535) HT_.out ?_
   refine pA 16 (some 48) (bA 17 131071) HT_.out ?_
   refine done_ (done_of HT_.out (by kernel_rfl)) ?_
   try go_wp2
   go_meet
   case rel => exact ⟨_, (true), (by first | rfl | (simp; done) | (simp [*]; done)), H', ⟨by first | omega | exact Nat.le_refl _⟩, ⟨by (with_reducible repeat (first | apply Kd.R_alloc | apply Kd.R_drewN | apply Kd.R_drew)); exact Kd.R_mono HO225.out (fun _ hk => trivial)⟩, ⟨(belN HB.out)⟩⟩
 case rest =>
  clear HC8
  try clear c1
  try clear c2
  try clear p2
  try clear c4
  try clear c15
  try clear c15b0
  try clear c15b1
  try clear c16
  try clear c16b0
  try clear c16b1
  try clear c21
  try clear c22
  try clear c23
  obtain ⟨kq, x48_7, rfl, HA, HJ7, HO_9, HB⟩ := hcut
  cases kq with
  | zero => exact absurd HA.out (by simp [marigraphlaw4_FrameApart.j0])
  | succ kj7 =>
   have H := HA.out
   clear HA
   simp only [marigraphlaw4_FrameApart.j0] at H
   by_cases c24 : x48_7 = true
   ·subst c24
    have H1 : (some false) = some r := by rw [if_pos rfl] at H; exact H
    clear H
    have H := H1
    clear H1
    obtain rfl := Option.some.inj H
    go_wp2
    go_ret
    exact ⟨by first | rfl | (simp [errW_none, errW_some] <;> rfl) | (simp [*, errW_none, errW_some] <;> rfl), (belN HB.out)⟩
   ·replace c24 := Bool.eq_false_iff.mpr c24
    subst c24
    have H1 : ((frame_Put.f kj7 ([] : List Int) t222).bind fun bt231 => (if bt231.2 = 0 then (marigraphlaw4_FrameApart.j1 kj7 l2 t222 bt231.1 ((bt231.1.length : Int) != (wrap64 ((t222.length : Int) + 6)))) else (marigraphlaw4_FrameApart.j1 kj7 l2 t222 bt231.1 true))) = some r := by rw [if_neg (show ¬ (false = true) by decide)] at H; exact H
    clear H
    have H := H1
    clear H1
    replace H := Option.bind_eq_some_iff.mp H
    obtain ⟨⟨t231, t232⟩, A250, H⟩ := H
    replace H : (if t232 = 0 then (marigraphlaw4_FrameApart.j1 kj7 l2 t222 t231 ((t231.length : Int) != (wrap64 ((t222.length : Int) + 6)))) else (marigraphlaw4_FrameApart.j1 kj7 l2 t222 t231 true)) = some r := H
    have A25 := Aside0.mk A250
    clear A250
    have HC26 := Aside0.mk H
    clear H
    obtain ⟨Ao27, co27, eo27⟩ := Kd.R_slice HO_9.out
    subst eo27
    go_upto_region 7 with (first | ((with_reducible refine gate_callee (f := 16) rfl ?_); refine goesL_ (some 51) rfl rfl Try.func16 (by kernel_rfl) rfl #[.slice none 0 0, .slice Ao27 t222.length co27] rfl argN ?_; (refine (frame_Put.calls kj7 _ _ ([] : List Int) _ _ t222 t231 t232 _ ?side1 ?side2 ?side3 ?side4 A25.out).mono ?_); (case side1 => exact Kd.C_nil _ _); (case side2 => exact Nat.le_refl _); (case side3 => repeat (first | exact (Kd.R_reads' HO_9.out).2.2 | (with_reducible refine Kd.C_alloc ?_ _) | (with_reducible refine Kd.C_drewN ?_ _) | (with_reducible refine Kd.C_drew ?_))); (case side4 => exact (Kd.R_reads' HO_9.out).2.1); rintro e w28 ⟨v233, rfl, ho0, hb⟩; refine ⟨_, rfl, ?_⟩; have n0_ := Aside0.mk (Kd.R_elder' (rowN HO_9.out) (Kd.R_base ho0) hb); have n1_ := Aside0.mk (Kd.R_lower (Kd.R_new' ho0 (Kd.R_lt (rowN HO_9.out))) (below_size (belN HB.out))); have n2_ := Aside0.mk (below_step (belN HB.out) hb); clear HO_9; clear HB; have HO_9 := n0_; have HO234 := n1_; have HB := n2_; clear n0_ n1_ n2_; (try clear hb); (try clear hk); (try clear ho0)))
    (try simp only [Act.put, List.setIfInBounds_toArray, List.set_cons_zero, List.set_cons_succ])
    go_cut [63] (fun v63 wc => ∃ (kq : Nat) (x63_25 : Bool), v63 = .bool x63_25 ∧ Aside0 (marigraphlaw4_FrameApart.j1 kq l2 t222 t231 x63_25 = some r) ∧ Aside0 (kq ≤ kj7) ∧ Aside0 (Kd.R (Kd.int .u8) 5 wc w.heap.size (fun k_ => some k_ ≠ (v233 : Value).ownBlock) (.slice Ao27 t222.length co27) t222) ∧ Aside0 (Kd.R (Kd.int .u8) 5 wc w.heap.size (fun k_ => some k_ ≠ ((.slice Ao27 t222.length co27) : Value).ownBlock) v233 t231) ∧ Aside0 (Below w.heap.size w wc))
    case first =>
     have H := HC26.out
     clear HC26
     by_cases c29 : t232 = 0
     ·rw [if_pos c29] at H
      have c29b0 : (t232 == 0) = true := beq_iff_eq.mpr c29
      have c29b1 : (t232 != 0) = false := bne_eq_false_iff_eq.mpr c29
      clear c29
      (first | rw [c29b0] | rw [c29b1] | (simp only [i64_w, i32_w]; rw [c29b0]) | skip)
      have H' := Aside0.mk H
      clear H
      obtain ⟨Ao30, co30, eo30⟩ := Kd.R_slice HO234.out
      subst eo30
      go_wp2
      go_meet
      case rel => exact ⟨_, (((t231.length : Int) != (wrap64 ((t222.length : Int) + 6)))), (by first | rfl | (simp; done) | (simp [*]; done)), H', ⟨by have := HJ7.out; first | omega | exact Nat.le_refl _⟩, ⟨by (with_reducible repeat (first | apply Kd.R_alloc | apply Kd.R_drewN | apply Kd.R_drew)); exact Kd.R_mono HO_9.out (fun _ hk => hk.2)⟩, ⟨by (with_reducible repeat (first | apply Kd.R_alloc | apply Kd.R_drewN | apply Kd.R_drew)); exact Kd.R_mono HO234.out (fun _ hk => hk.2)⟩, ⟨(belN HB.out)⟩⟩
     ·rw [if_neg c29] at H
      have c29b0 : (t232 == 0) = false := beq_eq_false_iff_ne.mpr c29
      have c29b1 : (t232 != 0) = true := bne_iff_ne.mpr c29
      (first | rw [c29b0] | rw [c29b1] | (simp only [i64_w, i32_w]; rw [c29b0]) | skip)
      have H' := Aside0.mk H
      clear H
      go_wp2
      go_meet
      case rel => exact ⟨_, (true), (by first | rfl | (simp; done) | (simp [*]; done)), H', ⟨by have := HJ7.out; first | omega | exact Nat.le_refl _⟩, ⟨by (with_reducible repeat (first | apply Kd.R_alloc | apply Kd.R_drewN | apply Kd.R_drew)); exact Kd.R_mono HO_9.out (fun _ hk => hk.2)⟩, ⟨by (with_reducible repeat (first | apply Kd.R_alloc | apply Kd.R_drewN | apply Kd.R_drew)); exact Kd.R_mono HO234.out (fun _ hk => hk.2)⟩, ⟨(belN HB.out)⟩⟩
    case rest =>
     clear HC26
     try clear c1
     try clear c2
     try clear p2
     try clear c4
     try clear p6
     try clear c15
     try clear c15b0
     try clear c15b1
     try clear c16
     try clear c16b0
     try clear c16b1
     try clear c21
     try clear c22
     try clear c23
     try clear c24
     try clear c29
     try clear c29b0
     try clear c29b1
     try clear p2
     obtain ⟨kq, x63_25, rfl, HA, HJ25, HO_9, HO_13, HB⟩ := hcut
     cases kq with
     | zero => exact absurd HA.out (by simp [marigraphlaw4_FrameApart.j1])
     | succ kj25 =>
      have H := HA.out
      clear HA
      simp only [marigraphlaw4_FrameApart.j1] at H
      by_cases c31 : x63_25 = true
      ·subst c31
       have H1 : (some false) = some r := by rw [if_pos rfl] at H; exact H
       clear H
       have H := H1
       clear H1
       obtain rfl := Option.some.inj H
       go_wp2
       go_ret
       exact ⟨by first | rfl | (simp [errW_none, errW_some] <;> rfl) | (simp [*, errW_none, errW_some] <;> rfl), (belN HB.out)⟩
      ·replace c31 := Bool.eq_false_iff.mpr c31
       subst c31
       have H1 : ((some (([] : List Int) : List Int)).bind fun y235 => (if y235.length + t231.length < 140737488355328 then ((some (y235 ++ t231 : List Int)).bind fun y238 => (if y238.length + (cutI l2 30).length < 140737488355328 then ((frame_All.f kj25 (y238 ++ (cutI l2 30))).bind fun bt245 => (if (bt245.1.length : Int) ≥ 1 then (if bt245.2.1 ≥ (t231.length : Int) then (if 0 < (bt245.1.length : Int) then (if (strOfNums (rd_L1 bt245.1 0)).toList = (strOfNums t222).toList then ((marigraphlaw4_known.f kj25).bind fun t251 => (some t251)) else (some false)) else (none)) else (some false)) else (some false))) else (none))) else (none))) = some r := by rw [if_neg (show ¬ (false = true) by decide)] at H; exact H
       clear H
       have H := H1
       clear H1
       obtain ⟨y235, hy235⟩ : ∃ y_ : List Int, y_ = (([] : List Int)) := ⟨_, rfl⟩
       replace H : (if y235.length + t231.length < 140737488355328 then ((some (y235 ++ t231 : List Int)).bind fun y238 => (if y238.length + (cutI l2 30).length < 140737488355328 then ((frame_All.f kj25 (y238 ++ (cutI l2 30))).bind fun bt245 => (if (bt245.1.length : Int) ≥ 1 then (if bt245.2.1 ≥ (t231.length : Int) then (if 0 < (bt245.1.length : Int) then (if (strOfNums (rd_L1 bt245.1 0)).toList = (strOfNums t222).toList then ((marigraphlaw4_known.f kj25).bind fun t251 => (some t251)) else (some false)) else (none)) else (some false)) else (some false))) else (none))) else (none)) = some r := by first | (rw [hy235]; with_reducible exact H) | (have H2_ := (Option.bind_some _ _).symm.trans H; rw [hy235]; with_reducible exact H2_) | (have H2_ := (Option.bind_some _ _).symm.trans H; with_reducible exact H2_) | with_reducible exact H | (rw [hy235]; exact H) | exact H
       have Ny235 := Aside0.mk hy235
       clear hy235
       by_cases c32 : y235.length + t231.length < 140737488355328
       ·rw [if_pos c32] at H
        have LMc32 := Aside0.mk c32
        clear c32
        obtain ⟨y238, hy238⟩ : ∃ y_ : List Int, y_ = (y235 ++ t231) := ⟨_, rfl⟩
        replace H : (if y238.length + (cutI l2 30).length < 140737488355328 then ((frame_All.f kj25 (y238 ++ (cutI l2 30))).bind fun bt245 => (if (bt245.1.length : Int) ≥ 1 then (if bt245.2.1 ≥ (t231.length : Int) then (if 0 < (bt245.1.length : Int) then (if (strOfNums (rd_L1 bt245.1 0)).toList = (strOfNums t222).toList then ((marigraphlaw4_known.f kj25).bind fun t251 => (some t251)) else (some false)) else (none)) else (some false)) else (some false))) else (none)) = some r := by first | (rw [hy238]; with_reducible exact H) | (have H2_ := (Option.bind_some _ _).symm.trans H; rw [hy238]; with_reducible exact H2_) | (have H2_ := (Option.bind_some _ _).symm.trans H; with_reducible exact H2_) | with_reducible exact H | (rw [hy238]; exact H) | exact H
        have Ny238 := Aside0.mk hy238
        clear hy238
        by_cases c33 : y238.length + (cutI l2 30).length < 140737488355328
        ·rw [if_pos c33] at H
         have LMc33 := Aside0.mk c33
         clear c33
         obtain ⟨y242, hy242⟩ : ∃ y_ : List Int, y_ = (y238 ++ (cutI l2 30)) := ⟨_, rfl⟩
         replace H : ((frame_All.f kj25 y242).bind fun bt245 => (if (bt245.1.length : Int) ≥ 1 then (if bt245.2.1 ≥ (t231.length : Int) then (if 0 < (bt245.1.length : Int) then (if (strOfNums (rd_L1 bt245.1 0)).toList = (strOfNums t222).toList then ((marigraphlaw4_known.f kj25).bind fun t251 => (some t251)) else (some false)) else (none)) else (some false)) else (some false))) = some r := by first | (rw [hy242]; with_reducible exact H) | (have H2_ := (Option.bind_some _ _).symm.trans H; rw [hy242]; with_reducible exact H2_) | (have H2_ := (Option.bind_some _ _).symm.trans H; with_reducible exact H2_) | with_reducible exact H | (rw [hy242]; exact H) | exact H
         have Ny242 := Aside0.mk hy242
         clear hy242
         replace H := Option.bind_eq_some_iff.mp H
         obtain ⟨⟨t245, t246, t247⟩, A340, H⟩ := H
         replace H : (if (t245.length : Int) ≥ 1 then (if t246 ≥ (t231.length : Int) then (if 0 < (t245.length : Int) then (if (strOfNums (rd_L1 t245 0)).toList = (strOfNums t222).toList then ((marigraphlaw4_known.f kj25).bind fun t251 => (some t251)) else (some false)) else (none)) else (some false)) else (some false)) = some r := H
         have A34 := Aside0.mk A340
         clear A340
         by_cases c35 : (t245.length : Int) ≥ 1
         ·rw [if_pos c35] at H
          have c35b0 : decide (1 ≤ (t245.length : Int)) = true := decide_eq_true c35
          have c35b1 : decide (1 ≤ t245.length) = true := decide_eq_true (by omega)
          clear c35
          by_cases c36 : t246 ≥ (t231.length : Int)
          ·rw [if_pos c36] at H
           have c36b0 : decide ((t231.length : Int) ≤ t246) = true := decide_eq_true c36
           clear c36
           by_cases c37 : 0 < (t245.length : Int)
           ·rw [if_pos c37] at H
            have c37b0 : decide (0 < (t245.length : Int)) = true := decide_eq_true c37
            have c37b1 : decide (0 < t245.length) = true := decide_eq_true (by omega)
            clear c37
            by_cases c38 : (strOfNums (rd_L1 t245 0)).toList = (strOfNums t222).toList
            ·rw [if_pos c38] at H
             have c38b0 : ((strOfNums (rd_L1 t245 0)).toList == (strOfNums t222).toList) = true := beq_iff_eq.mpr c38
             have c38b1 : ((strOfNums (rd_L1 t245 0)).toList != (strOfNums t222).toList) = false := bne_eq_false_iff_eq.mpr c38
             clear c38
             replace H := Option.bind_eq_some_iff.mp H
             obtain ⟨t251, A390, H⟩ := H
             replace H : (some t251) = some r := H
             have A39 := Aside0.mk A390
             clear A390
             obtain rfl := Option.some.inj H
             try go_wp2_with (first | ((with_reducible refine gate_dst (N := 65) rfl ?_); (try (refine gate_guard (by rfl) ?_; dsimp only)); refine Kd.R_lit (Kd.int .u8) _ 5 ?hg (N := 65) ?hd (xs := ([] : List Int)) (inner := []) (ok := fun _ => True) (okp := fun _ => True) ?hr ?hp (fun _ hk => hk) trivial (Below.refl _ _) (Nat.le_refl _) (by simp) ?_; (case hd => rfl); (case hg => rfl); (case hr => first | (go_simp; done) | (go_simp; rfl)); (case hp => exact (Reps.none _ _)); intro v236 w40 ho41 hb hg_ hnew_; clear hg_ hnew_; (first | rw [← Ny235.out] at ho41 | (simp only [Int.reduceToNat] at ho41; rw [← Ny235.out] at ho41)); have n0_ := Aside0.mk (Kd.R_elder' (rowN HO_9.out) (Kd.R_base ho41) hb); have n1_ := Aside0.mk (Kd.R_elder' (rowN HO_13.out) (Kd.R_base ho41) hb); have n2_ := Aside0.mk (Kd.R_lower (Kd.R_new' (Kd.R_new' ho41 (Kd.R_lt (rowN HO_9.out))) (Kd.R_lt (rowN HO_13.out))) (below_size (belN HB.out))); have n3_ := Aside0.mk (below_step (belN HB.out) hb); clear HO_9; clear HO_13; clear HB; have HO_9 := n0_; have HO_13 := n1_; have HO237 := n2_; have HB := n3_; clear n0_ n1_ n2_ n3_; clear hb ho41; obtain ⟨Ao43, co43, eo43⟩ := Kd.R_slice HO_13.out; subst eo43) | ((with_reducible refine gate_builtin (b := .append) (xs := #[.tmp 65, .tmp 66]) rfl ?_); (try (refine gate_guard (by rfl) ?_; dsimp only)); at_builtin; refine Kd.R_append_rows (Kd.int .u8) (w0 := w) w.heap.size rfl (.tmp 65) (.tmp 66) 23 5 (.int .u8 0) 1 rfl Try.underlying23 info5 rfl (by decide) (by omega) v236 y235 t231 _ _ _ (fun k_ => some k_ ≠ (.slice Ao27 t222.length co27 : Value).ownBlock ∧ some k_ ≠ (.slice Ao43 t231.length co43 : Value).ownBlock) (fun _ => False) rfl rfl ?aO ?aR (fun _ _ h => h) (fun _ h => h.elim) ?aF ?aB ?aS ?aL ?_; (case aR => repeat (first | exact (Kd.R_reads' HO_13.out).2.2 | (with_reducible refine Kd.C_alloc ?_ _) | (with_reducible refine Kd.C_drewN ?_ _) | (with_reducible refine Kd.C_drew ?_))); (case aB => exact (belN HB.out)); (case aF => exact (fun k_ hk => ⟨Kd.fresh' (Kd.R_lt (rowN HO_9.out)) k_ hk, Kd.fresh' (Kd.R_lt (rowN HO_13.out)) k_ hk⟩)); (case aO => exact (by (with_reducible repeat (first | apply Kd.R_alloc | apply Kd.R_drewN | apply Kd.R_drew)); exact Kd.R_mono HO237.out (fun _ hk => ⟨hk.1.2, hk.2⟩))); (case aS => exact (below_size (belN HB.out))); (case aL => have := LMc32.out; omega); intro v239 w42 ho hb hg hat; rw [← Ny238.out] at ho; have n0_ := Aside0.mk (Kd.R_after (ok := (fun k_ => some k_ ≠ (.slice Ao43 t231.length co43 : Value).ownBlock)) (rowN HO_9.out) hg hat); have n1_ := Aside0.mk (Kd.R_after (ok := (fun k_ => some k_ ≠ (.slice Ao27 t222.length co27 : Value).ownBlock)) (rowN HO_13.out) hg hat); have n2_ := Aside0.mk (hb); have n3_ := Aside0.mk (ho); clear HO_9; clear HO_13; clear HB; clear HO237; have HO_9 := n0_; have HO_13 := n1_; have HB := n2_; have HO240 := n3_; clear n0_ n1_ n2_ n3_; clear ho hb hg hat; have HR241 := Aside0.mk (cutI_C (n := 30) HR2.out); have HC241 := Aside0.mk (cutI_le (n := 30) HC2.out)) | ((with_reducible refine gate_callee (f := 14) rfl ?_); refine goesL_ (some 69) rfl rfl Try.func14 (by kernel_rfl) rfl #[.slice A2 l2.length c2, .int .i64 30] rfl (by (try simp only [List.map_toArray, List.map_cons, List.map_nil]); first | done | rfl) ?_; (with_reducible refine (marigraphkeep_Cut.callsR A2 c2 l2 30 30 _ HC2.out rfl).mono ?_); rintro e w' ⟨rfl, ⟨nd, rfl⟩⟩; refine ⟨_, rfl, ?_⟩) | ((with_reducible refine gate_builtin (b := .append) (xs := #[.tmp 67, .tmp 69]) rfl ?_); (try (refine gate_guard (by rfl) ?_; dsimp only)); at_builtin; refine Kd.R_append_rows (Kd.int .u8) (w0 := w) w.heap.size rfl (.tmp 67) (.tmp 69) 23 5 (.int .u8 0) 1 rfl Try.underlying23 info5 rfl (by decide) (by omega) v239 y238 (cutI l2 30) _ _ _ (fun k_ => some k_ ≠ (.slice Ao27 t222.length co27 : Value).ownBlock ∧ some k_ ≠ (.slice Ao43 t231.length co43 : Value).ownBlock) (fun _ => False) rfl rfl ?aO ?aR (fun _ _ h => h) (fun _ h => h.elim) ?aF ?aB ?aS ?aL ?_; (case aR => repeat (first | exact (Kd.C_below HR241.out (belN HB.out)) | (with_reducible refine Kd.C_alloc ?_ _) | (with_reducible refine Kd.C_drewN ?_ _) | (with_reducible refine Kd.C_drew ?_))); (case aB => exact (belN HB.out)); (case aF => exact (fun k_ hk => ⟨Kd.fresh' (Kd.R_lt (rowN HO_9.out)) k_ hk, Kd.fresh' (Kd.R_lt (rowN HO_13.out)) k_ hk⟩)); (case aO => exact (rowN HO240.out)); (case aS => exact (below_size (belN HB.out))); (case aL => have := LMc33.out; omega); intro v243 w44 ho hb hg hat; rw [← Ny242.out] at ho; have n0_ := Aside0.mk (Kd.R_after (ok := (fun k_ => some k_ ≠ (.slice Ao43 t231.length co43 : Value).ownBlock)) (rowN HO_9.out) hg hat); have n1_ := Aside0.mk (Kd.R_after (ok := (fun k_ => some k_ ≠ (.slice Ao27 t222.length co27 : Value).ownBlock)) (rowN HO_13.out) hg hat); have n2_ := Aside0.mk (hb); have n3_ := Aside0.mk (ho); clear HO_9; clear HO_13; clear HB; clear HO240; have HO_9 := n0_; have HO_13 := n1_; have HB := n2_; have HO244 := n3_; clear n0_ n1_ n2_ n3_; clear ho hb hg hat; obtain ⟨Ao45, co45, eo45⟩ := Kd.R_slice HO244.out; subst eo45) | ((with_reducible refine gate_callee (f := 24) rfl ?_); refine goesL_ (some 71) rfl rfl Try.func24 (by kernel_rfl) rfl #[.slice Ao45 y242.length co45] rfl argN ?_; (with_reducible refine (frame_All.calls kj25 _ _ y242 t245 t246 t247 _ ?side1 ?side2 A34.out).mono ?_); (case side1 => repeat (first | exact (Kd.R_reads' HO244.out).2.2 | (with_reducible refine Kd.C_alloc ?_ _) | (with_reducible refine Kd.C_drewN ?_ _) | (with_reducible refine Kd.C_drew ?_))); (case side2 => exact (Kd.R_reads' HO244.out).2.1); rintro e w46 ⟨v248, rfl, ho0, hb⟩; refine ⟨_, rfl, ?_⟩; have n0_ := Aside0.mk (Kd.R_below (rowN HO_9.out) hb); have n1_ := Aside0.mk (Kd.R_below (rowN HO_13.out) hb); have n2_ := Aside0.mk (Kd.R_below (rowN HO244.out) hb); have n3_ := Aside0.mk (Kd.N_lower (Kd.N_mono (ok' := fun k_ => some k_ ≠ (.slice Ao27 t222.length co27 : Value).ownBlock ∧ some k_ ≠ (.slice Ao43 t231.length co43 : Value).ownBlock ∧ some k_ ≠ (.slice Ao45 y242.length co45 : Value).ownBlock) (Kd.S_N (Kd.S_bound ho0)) (fun k_ hk_ => ⟨(Kd.fresh' (Kd.R_lt (rowN HO_9.out)) k_ hk_.2.1), (Kd.fresh' (Kd.R_lt (rowN HO_13.out)) k_ hk_.2.1), (Kd.fresh' (Kd.R_lt (rowN HO244.out)) k_ hk_.2.1)⟩)) (below_size (belN HB.out))); have n4_ := Aside0.mk (below_step (belN HB.out) hb); clear HO_9; clear HO_13; clear HO244; clear HB; have HO_9 := n0_; have HO_13 := n1_; have HO244 := n2_; have HO249 := n3_; have HB := n4_; clear n0_ n1_ n2_ n3_ n4_; (try clear hb); (try clear hk); (try clear ho0)))
             have n0_ := Aside0.mk (Kd.R_drew HO_9.out)
             have n1_ := Aside0.mk (Kd.R_drew HO_13.out)
             have n2_ := Aside0.mk (Kd.R_drew HO244.out)
             have n3_ := Aside0.mk (Kd.N_drew HO249.out)
             have n4_ := Aside0.mk (below_drew1 HB.out)
             clear HO_9
             clear HO_13
             clear HO244
             clear HO249
             clear HB
             have HO_9 := n0_
             have HO_13 := n1_
             have HO244 := n2_
             have HO249 := n3_
             have HB := n4_
             clear n0_ n1_ n2_ n3_ n4_
             obtain ⟨Ao48, co48, eo48⟩ := Kd.N_slice HO249.out
             (first | subst eo48 | (injection eo48 with f1_ f2_ f3_; have f4_ := f1_.symm; have f5_ := f3_.symm; clear f1_ f2_ f3_; subst f4_; subst f5_))
             have p250 : 0 ≤ (0 : Int) := (by omega)
             have q250 : 0 < (t245.length : Int) := of_decide_eq_true (by first | (with_reducible assumption) | assumption)
             obtain ⟨ad250, A250_0, c250_0, e250, hx250_0, hl250_0, hi250_0⟩ := at_L1 (Kd.N_reads' HO249.out).2.2 0 p250 q250
             cases e250
             obtain ⟨ce250, hce250, hMe250, hcc250⟩ := Kd.N_get HO249.out [] 0 p250 (by first | exact q250 | exact of_decide_eq_true (by first | (with_reducible assumption) | assumption) | (have e_ := (Kd.N_reads' HO249.out).1; omega))
             obtain ⟨ua250_0, uc250_0, rfl, ul250_0, ge250_0⟩ := Kd.FK_slice_open hMe250
             have hv250_0 := hcc250 0 _ rfl
             rw [Nat.add_zero, show ((Kd.slice 5 (Kd.int .u8))).sz = 1 from rfl, Nat.mul_one] at hv250_0
             replace hv250_0 := Option.some.inj (hv250_0.symm.trans hx250_0)
             injection hv250_0 with hva_ hvn_ hvc_
             rw [hva_] at ge250_0
             rw [hvc_] at ul250_0
             have HL250_0 := Aside0.mk (show Kd.V (Kd.int .u8) 5 _ w.heap.size _ _ (rd_L1 t245 0) from Kd.V_mk ul250_0 ge250_0)
             clear hva_ hvn_ hvc_ ge250_0 ul250_0
             clear hcc250 hce250
             have qi250 : (0 < t245.length) = True := eq_true (by omega)
             (try rw [show ((0 : Int)).toNat = 0 from rfl] at hx250_0)
             (try rw [Addr.add_zero'] at hx250_0)
             have HR250_0 := Aside0.mk hi250_0
             have HC250_0 := Aside0.mk hl250_0
             clear hi250_0 hl250_0
             replace p250 := eq_true p250
             replace q250 := eq_true q250
             refine start_ (n := 22) (S := fun w' => w'.cell? ad250 = some (.slice A250_0 (rd_L1 t245 0).length c250_0) ∧ (convert 23 9 (.slice A250_0 (rd_L1 t245 0).length c250_0)).run Try.prog w' = .ok (.string (strOfNums (rd_L1 t245 0))) w' ∧ (convert 23 9 (.slice Ao27 t222.length co27)).run Try.prog w' = .ok (.string (strOfNums t222)) w') (ds := []) #[false, false, false, false, false, false, false, false, false, false, false, false, false, false, false, false, false, false, false, false, false, false] (by kernel_rfl) rfl rfl ⟨hx250_0, (Kd.C_string (P := Try.prog) Try.underlying23 Try.underlying5 Try.underlying9 (by repeat (first | (with_reducible exact HR250_0.out) | (with_reducible refine Kd.C_alloc ?_ _) | (with_reducible refine Kd.C_drewN ?_ _) | (with_reducible refine Kd.C_drew ?_) | exact HR250_0.out))), (own_string (P := Try.prog) Try.underlying23 Try.underlying5 Try.underlying9 (Kd.own_of_R HO_9.out))⟩ (fun hHeld => ?_); refine with_tabW marigraphlaw4_FrameApart.tab10 marigraphlaw4_FrameApart.bits10 (fun HT_ HW_ => ?_)
             generalize w46.drew = w47 at HO_9 HO_13 HO244 HO249 HB HL250_0 HR250_0 hx250_0 hHeld ⊢
             have HV49 := HR250_0
             have HV50 := HO_9
             refine pA 0 (some 75) (bA 22 1) HT_.out ?_
             refine pA 1 (some 76) (bA 22 3) HT_.out ?_
             refine pA 2 (some 77) (bA 22 7) HT_.out ?_
             refine pA 3 (some 78) (bA 22 15) HT_.out ?_
             refine pA 4 (some 79) (bA 22 31) HT_.out ?_
             refine pA 5 (some 80) (bA 22 63) HT_.out ?_
             refine pA 6 (some 81) (bA 22 127) HT_.out ?_
             refine pA 7 (some 82) (bA 22 255) HT_.out ?_
             refine pA 8 (some 83) (bA 22 511) HT_.out ?_
             refine pA 9 (some 84) (bA 22 1023) HT_.out ?_
             refine pA 10 (some 85) (bA 22 2047) HT_.out ?_
             refine pA 11 (some 86) (bA 22 4095) HT_.out ?_
             refine pA 14 (some 89) (bA 22 20479) HT_.out ?_
             refine take_ (i := 12) (N := some 87) (v := ?_) (a' := ?_) (bA 22 24575) rfl rfl (take_ofW HT_.out HW_.out (by kernel_rfl)) (fun _ _ _ h => h) (Or.inl ⟨by rfl, ?_⟩) hHeld ?_ ?_
             rotate_left
             ·rintro w' ⟨s0, s1, s2⟩
              go_simp
              with_reducible rfl
             rotate_left
             ·simp only [Act.put, List.setIfInBounds_toArray, List.set_cons_zero, List.set_cons_succ, i64_w, i32_w]
              rfl
             refine take_ (i := 13) (N := some 88) (v := ?_) (a' := ?_) (bA 22 32767) rfl rfl (take_ofW HT_.out HW_.out (by kernel_rfl)) (fun _ _ _ h => h) (Or.inl ⟨by rfl, ?_⟩) hHeld ?_ ?_
             rotate_left
             ·rintro w' ⟨s0, s1, s2⟩
              go_simp
              with_reducible rfl
             rotate_left
             ·simp only [Act.put, List.setIfInBounds_toArray, List.set_cons_zero, List.set_cons_succ, i64_w, i32_w]
              rfl
             refine take_ (i := 15) (N := some 90) (v := ?_) (a' := ?_) (bA 22 65535) rfl rfl (take_ofW HT_.out HW_.out (by kernel_rfl)) (fun _ _ _ h => h) (Or.inl ⟨by rfl, ?_⟩) hHeld ?_ ?_
             rotate_left
             ·rintro w' ⟨s0, s1, s2⟩
              go_simp
              with_reducible rfl
             rotate_left
             ·simp only [Act.put, List.setIfInBounds_toArray, List.set_cons_zero, List.set_cons_succ, i64_w, i32_w]
              rfl
             refine pA 16 (some 91) (bA 22 131071) HT_.out ?_
             refine pA 17 (some 92) (bA 22 262143) HT_.out ?_
             refine pA 18 (some 93) (bA 22 524287) HT_.out ?_
             refine one_ (i := 19) (N := some 94) (bA 22 1048575) rfl rfl (one_of HT_.out (by kernel_rfl)) (by decide) (fun K hK => ?_)
             refine goes_ Try.func20 (by kernel_rfl) rfl #[] (by rfl) rfl rfl argN ?_
             with_reducible refine (marigraphlaw4_known.calls kj25  t251 _ A39.out).mono ?_
             rintro e w52 ⟨rfl, hb⟩
             have HV49 := Aside0.mk (cbN HV49.out hb)
             have HV50 := Aside0.mk (Kd.R_below (rowN HV50.out) hb)
             have HS0_ := (hb.cell (World.block_lt_of_cell? _ _ (hHeld.1))).trans (hHeld.1)
             refine ⟨_, rfl, ?_⟩
             have n0_ := Aside0.mk (Kd.R_below (rowN HO_9.out) hb)
             have n1_ := Aside0.mk (Kd.R_below (rowN HO_13.out) hb)
             have n2_ := Aside0.mk (Kd.R_below (rowN HO244.out) hb)
             have n3_ := Aside0.mk (Kd.N_below (by (with_reducible repeat (first | apply Kd.N_alloc | apply Kd.N_drewN | apply Kd.N_drew)); exact HO249.out) hb)
             have n4_ := Aside0.mk (Kd.V_below (by (with_reducible repeat (first | apply Kd.V_alloc | apply Kd.V_drewN | apply Kd.V_drew)); exact HL250_0.out) hb)
             have n5_ := Aside0.mk (below_step (belN HB.out) hb)
             clear HO_9
             clear HO_13
             clear HO244
             clear HO249
             clear HL250_0
             clear HB
             have HO_9 := n0_
             have HO_13 := n1_
             have HO244 := n2_
             have HO249 := n3_
             have HL250_0 := n4_
             have HB := n5_
             clear n0_ n1_ n2_ n3_ n4_ n5_
             (try clear hb)
             (try clear hk)
             refine hK.out _ _ ⟨HS0_, (Kd.C_string (P := Try.prog) Try.underlying23 Try.underlying5 Try.underlying9 (by repeat (first | (with_reducible exact HV49.out) | (with_reducible refine Kd.C_alloc ?_ _) | (with_reducible refine Kd.C_drewN ?_ _) | (with_reducible refine Kd.C_drew ?_) | exact HV49.out))), (own_string (P := Try.prog) Try.underlying23 Try.underlying5 Try.underlying9 (Kd.own_of_R (rowN HV50.out)))⟩ (fun hHeld => ?_)
             clear hK K
             refine norm_ (a' := ?_) ?_ ?_
             rotate_left
             ·show Act.put _ (some 94) _ = _
              simp only [Act.put, List.setIfInBounds_toArray, List.set_cons_zero, List.set_cons_succ, i64_w, i32_w]
              rfl
             refine pA 20 (some 95) (bA 22 2097151) HT_.out ?_
             refine pA 21 (some 6) (bA 22 4194303) HT_.out ?_
             refine done_ (done_of HT_.out (by kernel_rfl)) ?_
             try go_wp2
             go_ret
             exact ⟨by first | rfl | (simp [errW_none, errW_some] <;> rfl) | (simp [*, errW_none, errW_some] <;> rfl), (belN HB.out)⟩
            ·rw [if_neg c38] at H
             have c38b0 : ((strOfNums (rd_L1 t245 0)).toList == (strOfNums t222).toList) = false := beq_eq_false_iff_ne.mpr c38
             have c38b1 : ((strOfNums (rd_L1 t245 0)).toList != (strOfNums t222).toList) = true := bne_iff_ne.mpr c38
             obtain rfl := Option.some.inj H
             try go_wp2_with (first | ((with_reducible refine gate_dst (N := 65) rfl ?_); (try (refine gate_guard (by rfl) ?_; dsimp only)); refine Kd.R_lit (Kd.int .u8) _ 5 ?hg (N := 65) ?hd (xs := ([] : List Int)) (inner := []) (ok := fun _ => True) (okp := fun _ => True) ?hr ?hp (fun _ hk => hk) trivial (Below.refl _ _) (Nat.le_refl _) (by simp) ?_; (case hd => rfl); (case hg => rfl); (case hr => first | (go_simp; done) | (go_simp; rfl)); (case hp => exact (Reps.none _ _)); intro v236 w53 ho54 hb hg_ hnew_; clear hg_ hnew_; (first | rw [← Ny235.out] at ho54 | (simp only [Int.reduceToNat] at ho54; rw [← Ny235.out] at ho54)); have n0_ := Aside0.mk (Kd.R_elder' (rowN HO_9.out) (Kd.R_base ho54) hb); have n1_ := Aside0.mk (Kd.R_elder' (rowN HO_13.out) (Kd.R_base ho54) hb); have n2_ := Aside0.mk (Kd.R_lower (Kd.R_new' (Kd.R_new' ho54 (Kd.R_lt (rowN HO_9.out))) (Kd.R_lt (rowN HO_13.out))) (below_size (belN HB.out))); have n3_ := Aside0.mk (below_step (belN HB.out) hb); clear HO_9; clear HO_13; clear HB; have HO_9 := n0_; have HO_13 := n1_; have HO237 := n2_; have HB := n3_; clear n0_ n1_ n2_ n3_; clear hb ho54; obtain ⟨Ao56, co56, eo56⟩ := Kd.R_slice HO_13.out; subst eo56) | ((with_reducible refine gate_builtin (b := .append) (xs := #[.tmp 65, .tmp 66]) rfl ?_); (try (refine gate_guard (by rfl) ?_; dsimp only)); at_builtin; refine Kd.R_append_rows (Kd.int .u8) (w0 := w) w.heap.size rfl (.tmp 65) (.tmp 66) 23 5 (.int .u8 0) 1 rfl Try.underlying23 info5 rfl (by decide) (by omega) v236 y235 t231 _ _ _ (fun k_ => some k_ ≠ (.slice Ao27 t222.length co27 : Value).ownBlock ∧ some k_ ≠ (.slice Ao56 t231.length co56 : Value).ownBlock) (fun _ => False) rfl rfl ?aO ?aR (fun _ _ h => h) (fun _ h => h.elim) ?aF ?aB ?aS ?aL ?_; (case aR => repeat (first | exact (Kd.R_reads' HO_13.out).2.2 | (with_reducible refine Kd.C_alloc ?_ _) | (with_reducible refine Kd.C_drewN ?_ _) | (with_reducible refine Kd.C_drew ?_))); (case aB => exact (belN HB.out)); (case aF => exact (fun k_ hk => ⟨Kd.fresh' (Kd.R_lt (rowN HO_9.out)) k_ hk, Kd.fresh' (Kd.R_lt (rowN HO_13.out)) k_ hk⟩)); (case aO => exact (by (with_reducible repeat (first | apply Kd.R_alloc | apply Kd.R_drewN | apply Kd.R_drew)); exact Kd.R_mono HO237.out (fun _ hk => ⟨hk.1.2, hk.2⟩))); (case aS => exact (below_size (belN HB.out))); (case aL => have := LMc32.out; omega); intro v239 w55 ho hb hg hat; rw [← Ny238.out] at ho; have n0_ := Aside0.mk (Kd.R_after (ok := (fun k_ => some k_ ≠ (.slice Ao56 t231.length co56 : Value).ownBlock)) (rowN HO_9.out) hg hat); have n1_ := Aside0.mk (Kd.R_after (ok := (fun k_ => some k_ ≠ (.slice Ao27 t222.length co27 : Value).ownBlock)) (rowN HO_13.out) hg hat); have n2_ := Aside0.mk (hb); have n3_ := Aside0.mk (ho); clear HO_9; clear HO_13; clear HB; clear HO237; have HO_9 := n0_; have HO_13 := n1_; have HB := n2_; have HO240 := n3_; clear n0_ n1_ n2_ n3_; clear ho hb hg hat; have HR241 := Aside0.mk (cutI_C (n := 30) HR2.out); have HC241 := Aside0.mk (cutI_le (n := 30) HC2.out)) | ((with_reducible refine gate_callee (f := 14) rfl ?_); refine goesL_ (some 69) rfl rfl Try.func14 (by kernel_rfl) rfl #[.slice A2 l2.length c2, .int .i64 30] rfl (by (try simp only [List.map_toArray, List.map_cons, List.map_nil]); first | done | rfl) ?_; (with_reducible refine (marigraphkeep_Cut.callsR A2 c2 l2 30 30 _ HC2.out rfl).mono ?_); rintro e w' ⟨rfl, ⟨nd, rfl⟩⟩; refine ⟨_, rfl, ?_⟩) | ((with_reducible refine gate_builtin (b := .append) (xs := #[.tmp 67, .tmp 69]) rfl ?_); (try (refine gate_guard (by rfl) ?_; dsimp only)); at_builtin; refine Kd.R_append_rows (Kd.int .u8) (w0 := w) w.heap.size rfl (.tmp 67) (.tmp 69) 23 5 (.int .u8 0) 1 rfl Try.underlying23 info5 rfl (by decide) (by omega) v239 y238 (cutI l2 30) _ _ _ (fun k_ => some k_ ≠ (.slice Ao27 t222.length co27 : Value).ownBlock ∧ some k_ ≠ (.slice Ao56 t231.length co56 : Value).ownBlock) (fun _ => False) rfl rfl ?aO ?aR (fun _ _ h => h) (fun _ h => h.elim) ?aF ?aB ?aS ?aL ?_; (case aR => repeat (first | exact (Kd.C_below HR241.out (belN HB.out)) | (with_reducible refine Kd.C_alloc ?_ _) | (with_reducible refine Kd.C_drewN ?_ _) | (with_reducible refine Kd.C_drew ?_))); (case aB => exact (belN HB.out)); (case aF => exact (fun k_ hk => ⟨Kd.fresh' (Kd.R_lt (rowN HO_9.out)) k_ hk, Kd.fresh' (Kd.R_lt (rowN HO_13.out)) k_ hk⟩)); (case aO => exact (rowN HO240.out)); (case aS => exact (below_size (belN HB.out))); (case aL => have := LMc33.out; omega); intro v243 w57 ho hb hg hat; rw [← Ny242.out] at ho; have n0_ := Aside0.mk (Kd.R_after (ok := (fun k_ => some k_ ≠ (.slice Ao56 t231.length co56 : Value).ownBlock)) (rowN HO_9.out) hg hat); have n1_ := Aside0.mk (Kd.R_after (ok := (fun k_ => some k_ ≠ (.slice Ao27 t222.length co27 : Value).ownBlock)) (rowN HO_13.out) hg hat); have n2_ := Aside0.mk (hb); have n3_ := Aside0.mk (ho); clear HO_9; clear HO_13; clear HB; clear HO240; have HO_9 := n0_; have HO_13 := n1_; have HB := n2_; have HO244 := n3_; clear n0_ n1_ n2_ n3_; clear ho hb hg hat; obtain ⟨Ao58, co58, eo58⟩ := Kd.R_slice HO244.out; subst eo58) | ((with_reducible refine gate_callee (f := 24) rfl ?_); refine goesL_ (some 71) rfl rfl Try.func24 (by kernel_rfl) rfl #[.slice Ao58 y242.length co58] rfl argN ?_; (with_reducible refine (frame_All.calls kj25 _ _ y242 t245 t246 t247 _ ?side1 ?side2 A34.out).mono ?_); (case side1 => repeat (first | exact (Kd.R_reads' HO244.out).2.2 | (with_reducible refine Kd.C_alloc ?_ _) | (with_reducible refine Kd.C_drewN ?_ _) | (with_reducible refine Kd.C_drew ?_))); (case side2 => exact (Kd.R_reads' HO244.out).2.1); rintro e w59 ⟨v248, rfl, ho0, hb⟩; refine ⟨_, rfl, ?_⟩; have n0_ := Aside0.mk (Kd.R_below (rowN HO_9.out) hb); have n1_ := Aside0.mk (Kd.R_below (rowN HO_13.out) hb); have n2_ := Aside0.mk (Kd.R_below (rowN HO244.out) hb); have n3_ := Aside0.mk (Kd.N_lower (Kd.N_mono (ok' := fun k_ => some k_ ≠ (.slice Ao27 t222.length co27 : Value).ownBlock ∧ some k_ ≠ (.slice Ao56 t231.length co56 : Value).ownBlock ∧ some k_ ≠ (.slice Ao58 y242.length co58 : Value).ownBlock) (Kd.S_N (Kd.S_bound ho0)) (fun k_ hk_ => ⟨(Kd.fresh' (Kd.R_lt (rowN HO_9.out)) k_ hk_.2.1), (Kd.fresh' (Kd.R_lt (rowN HO_13.out)) k_ hk_.2.1), (Kd.fresh' (Kd.R_lt (rowN HO244.out)) k_ hk_.2.1)⟩)) (below_size (belN HB.out))); have n4_ := Aside0.mk (below_step (belN HB.out) hb); clear HO_9; clear HO_13; clear HO244; clear HB; have HO_9 := n0_; have HO_13 := n1_; have HO244 := n2_; have HO249 := n3_; have HB := n4_; clear n0_ n1_ n2_ n3_ n4_; (try clear hb); (try clear hk); (try clear ho0)))
             have n0_ := Aside0.mk (Kd.R_drew HO_9.out)
             have n1_ := Aside0.mk (Kd.R_drew HO_13.out)
             have n2_ := Aside0.mk (Kd.R_drew HO244.out)
             have n3_ := Aside0.mk (Kd.N_drew HO249.out)
             have n4_ := Aside0.mk (below_drew1 HB.out)
             clear HO_9
             clear HO_13
             clear HO244
             clear HO249
             clear HB
             have HO_9 := n0_
             have HO_13 := n1_
             have HO244 := n2_
             have HO249 := n3_
             have HB := n4_
             clear n0_ n1_ n2_ n3_ n4_
             obtain ⟨Ao61, co61, eo61⟩ := Kd.N_slice HO249.out
             (first | subst eo61 | (injection eo61 with f1_ f2_ f3_; have f4_ := f1_.symm; have f5_ := f3_.symm; clear f1_ f2_ f3_; subst f4_; subst f5_))
             have p250 : 0 ≤ (0 : Int) := (by omega)
             have q250 : 0 < (t245.length : Int) := of_decide_eq_true (by first | (with_reducible assumption) | assumption)
             obtain ⟨ad250, A250_0, c250_0, e250, hx250_0, hl250_0, hi250_0⟩ := at_L1 (Kd.N_reads' HO249.out).2.2 0 p250 q250
             cases e250
             obtain ⟨ce250, hce250, hMe250, hcc250⟩ := Kd.N_get HO249.out [] 0 p250 (by first | exact q250 | exact of_decide_eq_true (by first | (with_reducible assumption) | assumption) | (have e_ := (Kd.N_reads' HO249.out).1; omega))
             obtain ⟨ua250_0, uc250_0, rfl, ul250_0, ge250_0⟩ := Kd.FK_slice_open hMe250
             have hv250_0 := hcc250 0 _ rfl
             rw [Nat.add_zero, show ((Kd.slice 5 (Kd.int .u8))).sz = 1 from rfl, Nat.mul_one] at hv250_0
             replace hv250_0 := Option.some.inj (hv250_0.symm.trans hx250_0)
             injection hv250_0 with hva_ hvn_ hvc_
             rw [hva_] at ge250_0
             rw [hvc_] at ul250_0
             have HL250_0 := Aside0.mk (show Kd.V (Kd.int .u8) 5 _ w.heap.size _ _ (rd_L1 t245 0) from Kd.V_mk ul250_0 ge250_0)
             clear hva_ hvn_ hvc_ ge250_0 ul250_0
             clear hcc250 hce250
             have qi250 : (0 < t245.length) = True := eq_true (by omega)
             (try rw [show ((0 : Int)).toNat = 0 from rfl] at hx250_0)
             (try rw [Addr.add_zero'] at hx250_0)
             have HR250_0 := Aside0.mk hi250_0
             have HC250_0 := Aside0.mk hl250_0
             clear hi250_0 hl250_0
             replace p250 := eq_true p250
             replace q250 := eq_true q250
             refine start_ (n := 22) (S := fun w' => w'.cell? ad250 = some (.slice A250_0 (rd_L1 t245 0).length c250_0) ∧ (convert 23 9 (.slice A250_0 (rd_L1 t245 0).length c250_0)).run Try.prog w' = .ok (.string (strOfNums (rd_L1 t245 0))) w' ∧ (convert 23 9 (.slice Ao27 t222.length co27)).run Try.prog w' = .ok (.string (strOfNums t222)) w') (ds := []) #[false, false, false, false, false, false, false, false, false, false, false, false, false, false, false, false, false, false, false, false, false, false] (by kernel_rfl) rfl rfl ⟨hx250_0, (Kd.C_string (P := Try.prog) Try.underlying23 Try.underlying5 Try.underlying9 (by repeat (first | (with_reducible exact HR250_0.out) | (with_reducible refine Kd.C_alloc ?_ _) | (with_reducible refine Kd.C_drewN ?_ _) | (with_reducible refine Kd.C_drew ?_) | exact HR250_0.out))), (own_string (P := Try.prog) Try.underlying23 Try.underlying5 Try.underlying9 (Kd.own_of_R HO_9.out))⟩ (fun hHeld => ?_); refine with_tabW marigraphlaw4_FrameApart.tab10 marigraphlaw4_FrameApart.bits10 (fun HT_ HW_ => ?_)
             generalize w59.drew = w60 at HO_9 HO_13 HO244 HO249 HB HL250_0 HR250_0 hx250_0 hHeld ⊢
             have HV62 := HR250_0
             have HV63 := HO_9
             refine pA 0 (some 75) (bA 22 1) HT_.out ?_
             refine pA 1 (some 76) (bA 22 3) HT_.out ?_
             refine pA 2 (some 77) (bA 22 7) HT_.out ?_
             refine pA 3 (some 78) (bA 22 15) HT_.out ?_
             refine pA 4 (some 79) (bA 22 31) HT_.out ?_
             refine pA 5 (some 80) (bA 22 63) HT_.out ?_
             refine pA 6 (some 81) (bA 22 127) HT_.out ?_
             refine pA 7 (some 82) (bA 22 255) HT_.out ?_
             refine pA 8 (some 83) (bA 22 511) HT_.out ?_
             refine pA 9 (some 84) (bA 22 1023) HT_.out ?_
             refine pA 10 (some 85) (bA 22 2047) HT_.out ?_
             refine pA 11 (some 86) (bA 22 4095) HT_.out ?_
             refine pA 14 (some 89) (bA 22 20479) HT_.out ?_
             refine take_ (i := 12) (N := some 87) (v := ?_) (a' := ?_) (bA 22 24575) rfl rfl (take_ofW HT_.out HW_.out (by kernel_rfl)) (fun _ _ _ h => h) (Or.inl ⟨by rfl, ?_⟩) hHeld ?_ ?_
             rotate_left
             ·rintro w' ⟨s0, s1, s2⟩
              go_simp
              with_reducible rfl
             rotate_left
             ·simp only [Act.put, List.setIfInBounds_toArray, List.set_cons_zero, List.set_cons_succ, i64_w, i32_w]
              rfl
             refine take_ (i := 13) (N := some 88) (v := ?_) (a' := ?_) (bA 22 32767) rfl rfl (take_ofW HT_.out HW_.out (by kernel_rfl)) (fun _ _ _ h => h) (Or.inl ⟨by rfl, ?_⟩) hHeld ?_ ?_
             rotate_left
             ·rintro w' ⟨s0, s1, s2⟩
              go_simp
              with_reducible rfl
             rotate_left
             ·simp only [Act.put, List.setIfInBounds_toArray, List.set_cons_zero, List.set_cons_succ, i64_w, i32_w]
              rfl
             refine take_ (i := 15) (N := some 90) (v := ?_) (a' := ?_) (bA 22 65535) rfl rfl (take_ofW HT_.out HW_.out (by kernel_rfl)) (fun _ _ _ h => h) (Or.inl ⟨by rfl, ?_⟩) hHeld ?_ ?_
             rotate_left
             ·rintro w' ⟨s0, s1, s2⟩
              go_simp
              with_reducible rfl
             rotate_left
             ·simp only [Act.put, List.setIfInBounds_toArray, List.set_cons_zero, List.set_cons_succ, i64_w, i32_w]
              rfl
             refine pA 16 (some 91) (bA 22 131071) HT_.out ?_
             refine pA 17 (some 92) (bA 22 262143) HT_.out ?_
             refine pA 18 (some 93) (bA 22 524287) HT_.out ?_
             refine pU 19 (some 94) (bA 22 1048575) HT_.out ?_
             refine pA 20 (some 95) (bA 22 2097151) HT_.out ?_
             refine pA 21 (some 6) (bA 22 4194303) HT_.out ?_
             refine done_ (done_of HT_.out (by kernel_rfl)) ?_
             try go_wp2
             go_ret
             exact ⟨by first | rfl | (simp [errW_none, errW_some] <;> rfl) | (simp [*, errW_none, errW_some] <;> rfl), (belN HB.out)⟩
           ·rw [if_neg c37] at H
            exact absurd H (by simp)
          ·rw [if_neg c36] at H
           have c36b0 : decide ((t231.length : Int) ≤ t246) = false := decide_eq_false c36
           clear c36
           obtain rfl := Option.some.inj H
           try go_wp2_with (first | ((with_reducible refine gate_dst (N := 65) rfl ?_); (try (refine gate_guard (by rfl) ?_; dsimp only)); refine Kd.R_lit (Kd.int .u8) _ 5 ?hg (N := 65) ?hd (xs := ([] : List Int)) (inner := []) (ok := fun _ => True) (okp := fun _ => True) ?hr ?hp (fun _ hk => hk) trivial (Below.refl _ _) (Nat.le_refl _) (by simp) ?_; (case hd => rfl); (case hg => rfl); (case hr => first | (go_simp; done) | (go_simp; rfl)); (case hp => exact (Reps.none _ _)); intro v236 w65 ho66 hb hg_ hnew_; clear hg_ hnew_; (first | rw [← Ny235.out] at ho66 | (simp only [Int.reduceToNat] at ho66; rw [← Ny235.out] at ho66)); have n0_ := Aside0.mk (Kd.R_elder' (rowN HO_9.out) (Kd.R_base ho66) hb); have n1_ := Aside0.mk (Kd.R_elder' (rowN HO_13.out) (Kd.R_base ho66) hb); have n2_ := Aside0.mk (Kd.R_lower (Kd.R_new' (Kd.R_new' ho66 (Kd.R_lt (rowN HO_9.out))) (Kd.R_lt (rowN HO_13.out))) (below_size (belN HB.out))); have n3_ := Aside0.mk (below_step (belN HB.out) hb); clear HO_9; clear HO_13; clear HB; have HO_9 := n0_; have HO_13 := n1_; have HO237 := n2_; have HB := n3_; clear n0_ n1_ n2_ n3_; clear hb ho66; obtain ⟨Ao68, co68, eo68⟩ := Kd.R_slice HO_13.out; subst eo68) | ((with_reducible refine gate_builtin (b := .append) (xs := #[.tmp 65, .tmp 66]) rfl ?_); (try (refine gate_guard (by rfl) ?_; dsimp only)); at_builtin; refine Kd.R_append_rows (Kd.int .u8) (w0 := w) w.heap.size rfl (.tmp 65) (.tmp 66) 23 5 (.int .u8 0) 1 rfl Try.underlying23 info5 rfl (by decide) (by omega) v236 y235 t231 _ _ _ (fun k_ => some k_ ≠ (.slice Ao27 t222.length co27 : Value).ownBlock ∧ some k_ ≠ (.slice Ao68 t231.length co68 : Value).ownBlock) (fun _ => False) rfl rfl ?aO ?aR (fun _ _ h => h) (fun _ h => h.elim) ?aF ?aB ?aS ?aL ?_; (case aR => repeat (first | exact (Kd.R_reads' HO_13.out).2.2 | (with_reducible refine Kd.C_alloc ?_ _) | (with_reducible refine Kd.C_drewN ?_ _) | (with_reducible refine Kd.C_drew ?_))); (case aB => exact (belN HB.out)); (case aF => exact (fun k_ hk => ⟨Kd.fresh' (Kd.R_lt (rowN HO_9.out)) k_ hk, Kd.fresh' (Kd.R_lt (rowN HO_13.out)) k_ hk⟩)); (case aO => exact (by (with_reducible repeat (first | apply Kd.R_alloc | apply Kd.R_drewN | apply Kd.R_drew)); exact Kd.R_mono HO237.out (fun _ hk => ⟨hk.1.2, hk.2⟩))); (case aS => exact (below_size (belN HB.out))); (case aL => have := LMc32.out; omega); intro v239 w67 ho hb hg hat; rw [← Ny238.out] at ho; have n0_ := Aside0.mk (Kd.R_after (ok := (fun k_ => some k_ ≠ (.slice Ao68 t231.length co68 : Value).ownBlock)) (rowN HO_9.out) hg hat); have n1_ := Aside0.mk (Kd.R_after (ok := (fun k_ => some k_ ≠ (.slice Ao27 t222.length co27 : Value).ownBlock)) (rowN HO_13.out) hg hat); have n2_ := Aside0.mk (hb); have n3_ := Aside0.mk (ho); clear HO_9; clear HO_13; clear HB; clear HO237; have HO_9 := n0_; have HO_13 := n1_; have HB := n2_; have HO240 := n3_; clear n0_ n1_ n2_ n3_; clear ho hb hg hat; have HR241 := Aside0.mk (cutI_C (n := 30) HR2.out); have HC241 := Aside0.mk (cutI_le (n := 30) HC2.out)) | ((with_reducible refine gate_callee (f := 14) rfl ?_); refine goesL_ (some 69) rfl rfl Try.func14 (by kernel_rfl) rfl #[.slice A2 l2.length c2, .int .i64 30] rfl (by (try simp only [List.map_toArray, List.map_cons, List.map_nil]); first | done | rfl) ?_; (with_reducible refine (marigraphkeep_Cut.callsR A2 c2 l2 30 30 _ HC2.out rfl).mono ?_); rintro e w' ⟨rfl, ⟨nd, rfl⟩⟩; refine ⟨_, rfl, ?_⟩) | ((with_reducible refine gate_builtin (b := .append) (xs := #[.tmp 67, .tmp 69]) rfl ?_); (try (refine gate_guard (by rfl) ?_; dsimp only)); at_builtin; refine Kd.R_append_rows (Kd.int .u8) (w0 := w) w.heap.size rfl (.tmp 67) (.tmp 69) 23 5 (.int .u8 0) 1 rfl Try.underlying23 info5 rfl (by decide) (by omega) v239 y238 (cutI l2 30) _ _ _ (fun k_ => some k_ ≠ (.slice Ao27 t222.length co27 : Value).ownBlock ∧ some k_ ≠ (.slice Ao68 t231.length co68 : Value).ownBlock) (fun _ => False) rfl rfl ?aO ?aR (fun _ _ h => h) (fun _ h => h.elim) ?aF ?aB ?aS ?aL ?_; (case aR => repeat (first | exact (Kd.C_below HR241.out (belN HB.out)) | (with_reducible refine Kd.C_alloc ?_ _) | (with_reducible refine Kd.C_drewN ?_ _) | (with_reducible refine Kd.C_drew ?_))); (case aB => exact (belN HB.out)); (case aF => exact (fun k_ hk => ⟨Kd.fresh' (Kd.R_lt (rowN HO_9.out)) k_ hk, Kd.fresh' (Kd.R_lt (rowN HO_13.out)) k_ hk⟩)); (case aO => exact (rowN HO240.out)); (case aS => exact (below_size (belN HB.out))); (case aL => have := LMc33.out; omega); intro v243 w69 ho hb hg hat; rw [← Ny242.out] at ho; have n0_ := Aside0.mk (Kd.R_after (ok := (fun k_ => some k_ ≠ (.slice Ao68 t231.length co68 : Value).ownBlock)) (rowN HO_9.out) hg hat); have n1_ := Aside0.mk (Kd.R_after (ok := (fun k_ => some k_ ≠ (.slice Ao27 t222.length co27 : Value).ownBlock)) (rowN HO_13.out) hg hat); have n2_ := Aside0.mk (hb); have n3_ := Aside0.mk (ho); clear HO_9; clear HO_13; clear HB; clear HO240; have HO_9 := n0_; have HO_13 := n1_; have HB := n2_; have HO244 := n3_; clear n0_ n1_ n2_ n3_; clear ho hb hg hat; obtain ⟨Ao70, co70, eo70⟩ := Kd.R_slice HO244.out; subst eo70) | ((with_reducible refine gate_callee (f := 24) rfl ?_); refine goesL_ (some 71) rfl rfl Try.func24 (by kernel_rfl) rfl #[.slice Ao70 y242.length co70] rfl argN ?_; (with_reducible refine (frame_All.calls kj25 _ _ y242 t245 t246 t247 _ ?side1 ?side2 A34.out).mono ?_); (case side1 => repeat (first | exact (Kd.R_reads' HO244.out).2.2 | (with_reducible refine Kd.C_alloc ?_ _) | (with_reducible refine Kd.C_drewN ?_ _) | (with_reducible refine Kd.C_drew ?_))); (case side2 => exact (Kd.R_reads' HO244.out).2.1); rintro e w71 ⟨v248, rfl, ho0, hb⟩; refine ⟨_, rfl, ?_⟩; have n0_ := Aside0.mk (Kd.R_below (rowN HO_9.out) hb); have n1_ := Aside0.mk (Kd.R_below (rowN HO_13.out) hb); have n2_ := Aside0.mk (Kd.R_below (rowN HO244.out) hb); have n3_ := Aside0.mk (Kd.N_lower (Kd.N_mono (ok' := fun k_ => some k_ ≠ (.slice Ao27 t222.length co27 : Value).ownBlock ∧ some k_ ≠ (.slice Ao68 t231.length co68 : Value).ownBlock ∧ some k_ ≠ (.slice Ao70 y242.length co70 : Value).ownBlock) (Kd.S_N (Kd.S_bound ho0)) (fun k_ hk_ => ⟨(Kd.fresh' (Kd.R_lt (rowN HO_9.out)) k_ hk_.2.1), (Kd.fresh' (Kd.R_lt (rowN HO_13.out)) k_ hk_.2.1), (Kd.fresh' (Kd.R_lt (rowN HO244.out)) k_ hk_.2.1)⟩)) (below_size (belN HB.out))); have n4_ := Aside0.mk (below_step (belN HB.out) hb); clear HO_9; clear HO_13; clear HO244; clear HB; have HO_9 := n0_; have HO_13 := n1_; have HO244 := n2_; have HO249 := n3_; have HB := n4_; clear n0_ n1_ n2_ n3_ n4_; (try clear hb); (try clear hk); (try clear ho0)))
           have n0_ := Aside0.mk (Kd.R_drew HO_9.out)
           have n1_ := Aside0.mk (Kd.R_drew HO_13.out)
           have n2_ := Aside0.mk (Kd.R_drew HO244.out)
           have n3_ := Aside0.mk (Kd.N_drew HO249.out)
           have n4_ := Aside0.mk (below_drew1 HB.out)
           clear HO_9
           clear HO_13
           clear HO244
           clear HO249
           clear HB
           have HO_9 := n0_
           have HO_13 := n1_
           have HO244 := n2_
           have HO249 := n3_
           have HB := n4_
           clear n0_ n1_ n2_ n3_ n4_
           obtain ⟨Ao73, co73, eo73⟩ := Kd.N_slice HO249.out
           (first | subst eo73 | (injection eo73 with f1_ f2_ f3_; have f4_ := f1_.symm; have f5_ := f3_.symm; clear f1_ f2_ f3_; subst f4_; subst f5_))
           refine start_ (n := 22) (S := fun w' => True) (ds := []) #[false, false, false, false, false, false, false, false, false, false, false, false, false, false, false, false, false, false, false, false, false, false] (by kernel_rfl) rfl rfl trivial (fun hHeld => ?_); refine with_tabW marigraphlaw4_FrameApart.tab10 marigraphlaw4_FrameApart.bits10 (fun HT_ HW_ => ?_)
           generalize w71.drew = w72 at HO_9 HO_13 HO244 HO249 HB hHeld ⊢
           refine pA 0 (some 75) (bA 22 1) HT_.out ?_
           refine pA 1 (some 76) (bA 22 3) HT_.out ?_
           refine pA 2 (some 77) (bA 22 7) HT_.out ?_
           refine pA 3 (some 78) (bA 22 15) HT_.out ?_
           refine pA 4 (some 79) (bA 22 31) HT_.out ?_
           refine pA 5 (some 80) (bA 22 63) HT_.out ?_
           refine pA 6 (some 81) (bA 22 127) HT_.out ?_
           refine pA 7 (some 82) (bA 22 255) HT_.out ?_
           refine pA 8 (some 83) (bA 22 511) HT_.out ?_
           refine pA 9 (some 84) (bA 22 1023) HT_.out ?_
           refine pU 10 (some 85) (bA 22 2047) HT_.out ?_
           refine pU 11 (some 86) (bA 22 4095) HT_.out ?_
           refine pU 12 (some 87) (bA 22 8191) HT_.out ?_
           refine pU 13 (some 88) (bA 22 16383) HT_.out ?_
           refine pU 14 (some 89) (bA 22 32767) HT_.out ?_
           refine pU 15 (some 90) (bA 22 65535) HT_.out ?_
           refine pU 16 (some 91) (bA 22 131071) HT_.out ?_
           refine pA 17 (some 92) (bA 22 262143) HT_.out ?_
           refine pA 18 (some 93) (bA 22 524287) HT_.out ?_
           refine pU 19 (some 94) (bA 22 1048575) HT_.out ?_
           refine pA 20 (some 95) (bA 22 2097151) HT_.out ?_
           refine pA 21 (some 6) (bA 22 4194303) HT_.out ?_
           refine done_ (done_of HT_.out (by kernel_rfl)) ?_
           try go_wp2
           go_ret
           exact ⟨by first | rfl | (simp [errW_none, errW_some] <;> rfl) | (simp [*, errW_none, errW_some] <;> rfl), (belN HB.out)⟩
         ·rw [if_neg c35] at H
          have c35b0 : decide (1 ≤ (t245.length : Int)) = false := decide_eq_false c35
          have c35b1 : decide (1 ≤ t245.length) = false := decide_eq_false (by omega)
          clear c35
          obtain rfl := Option.some.inj H
          try go_wp2_with (first | ((with_reducible refine gate_dst (N := 65) rfl ?_); (try (refine gate_guard (by rfl) ?_; dsimp only)); refine Kd.R_lit (Kd.int .u8) _ 5 ?hg (N := 65) ?hd (xs := ([] : List Int)) (inner := []) (ok := fun _ => True) (okp := fun _ => True) ?hr ?hp (fun _ hk => hk) trivial (Below.refl _ _) (Nat.le_refl _) (by simp) ?_; (case hd => rfl); (case hg => rfl); (case hr => first | (go_simp; done) | (go_simp; rfl)); (case hp => exact (Reps.none _ _)); intro v236 w74 ho75 hb hg_ hnew_; clear hg_ hnew_; (first | rw [← Ny235.out] at ho75 | (simp only [Int.reduceToNat] at ho75; rw [← Ny235.out] at ho75)); have n0_ := Aside0.mk (Kd.R_elder' (rowN HO_9.out) (Kd.R_base ho75) hb); have n1_ := Aside0.mk (Kd.R_elder' (rowN HO_13.out) (Kd.R_base ho75) hb); have n2_ := Aside0.mk (Kd.R_lower (Kd.R_new' (Kd.R_new' ho75 (Kd.R_lt (rowN HO_9.out))) (Kd.R_lt (rowN HO_13.out))) (below_size (belN HB.out))); have n3_ := Aside0.mk (below_step (belN HB.out) hb); clear HO_9; clear HO_13; clear HB; have HO_9 := n0_; have HO_13 := n1_; have HO237 := n2_; have HB := n3_; clear n0_ n1_ n2_ n3_; clear hb ho75; obtain ⟨Ao77, co77, eo77⟩ := Kd.R_slice HO_13.out; subst eo77) | ((with_reducible refine gate_builtin (b := .append) (xs := #[.tmp 65, .tmp 66]) rfl ?_); (try (refine gate_guard (by rfl) ?_; dsimp only)); at_builtin; refine Kd.R_append_rows (Kd.int .u8) (w0 := w) w.heap.size rfl (.tmp 65) (.tmp 66) 23 5 (.int .u8 0) 1 rfl Try.underlying23 info5 rfl (by decide) (by omega) v236 y235 t231 _ _ _ (fun k_ => some k_ ≠ (.slice Ao27 t222.length co27 : Value).ownBlock ∧ some k_ ≠ (.slice Ao77 t231.length co77 : Value).ownBlock) (fun _ => False) rfl rfl ?aO ?aR (fun _ _ h => h) (fun _ h => h.elim) ?aF ?aB ?aS ?aL ?_; (case aR => repeat (first | exact (Kd.R_reads' HO_13.out).2.2 | (with_reducible refine Kd.C_alloc ?_ _) | (with_reducible refine Kd.C_drewN ?_ _) | (with_reducible refine Kd.C_drew ?_))); (case aB => exact (belN HB.out)); (case aF => exact (fun k_ hk => ⟨Kd.fresh' (Kd.R_lt (rowN HO_9.out)) k_ hk, Kd.fresh' (Kd.R_lt (rowN HO_13.out)) k_ hk⟩)); (case aO => exact (by (with_reducible repeat (first | apply Kd.R_alloc | apply Kd.R_drewN | apply Kd.R_drew)); exact Kd.R_mono HO237.out (fun _ hk => ⟨hk.1.2, hk.2⟩))); (case aS => exact (below_size (belN HB.out))); (case aL => have := LMc32.out; omega); intro v239 w76 ho hb hg hat; rw [← Ny238.out] at ho; have n0_ := Aside0.mk (Kd.R_after (ok := (fun k_ => some k_ ≠ (.slice Ao77 t231.length co77 : Value).ownBlock)) (rowN HO_9.out) hg hat); have n1_ := Aside0.mk (Kd.R_after (ok := (fun k_ => some k_ ≠ (.slice Ao27 t222.length co27 : Value).ownBlock)) (rowN HO_13.out) hg hat); have n2_ := Aside0.mk (hb); have n3_ := Aside0.mk (ho); clear HO_9; clear HO_13; clear HB; clear HO237; have HO_9 := n0_; have HO_13 := n1_; have HB := n2_; have HO240 := n3_; clear n0_ n1_ n2_ n3_; clear ho hb hg hat; have HR241 := Aside0.mk (cutI_C (n := 30) HR2.out); have HC241 := Aside0.mk (cutI_le (n := 30) HC2.out)) | ((with_reducible refine gate_callee (f := 14) rfl ?_); refine goesL_ (some 69) rfl rfl Try.func14 (by kernel_rfl) rfl #[.slice A2 l2.length c2, .int .i64 30] rfl (by (try simp only [List.map_toArray, List.map_cons, List.map_nil]); first | done | rfl) ?_; (with_reducible refine (marigraphkeep_Cut.callsR A2 c2 l2 30 30 _ HC2.out rfl).mono ?_); rintro e w' ⟨rfl, ⟨nd, rfl⟩⟩; refine ⟨_, rfl, ?_⟩) | ((with_reducible refine gate_builtin (b := .append) (xs := #[.tmp 67, .tmp 69]) rfl ?_); (try (refine gate_guard (by rfl) ?_; dsimp only)); at_builtin; refine Kd.R_append_rows (Kd.int .u8) (w0 := w) w.heap.size rfl (.tmp 67) (.tmp 69) 23 5 (.int .u8 0) 1 rfl Try.underlying23 info5 rfl (by decide) (by omega) v239 y238 (cutI l2 30) _ _ _ (fun k_ => some k_ ≠ (.slice Ao27 t222.length co27 : Value).ownBlock ∧ some k_ ≠ (.slice Ao77 t231.length co77 : Value).ownBlock) (fun _ => False) rfl rfl ?aO ?aR (fun _ _ h => h) (fun _ h => h.elim) ?aF ?aB ?aS ?aL ?_; (case aR => repeat (first | exact (Kd.C_below HR241.out (belN HB.out)) | (with_reducible refine Kd.C_alloc ?_ _) | (with_reducible refine Kd.C_drewN ?_ _) | (with_reducible refine Kd.C_drew ?_))); (case aB => exact (belN HB.out)); (case aF => exact (fun k_ hk => ⟨Kd.fresh' (Kd.R_lt (rowN HO_9.out)) k_ hk, Kd.fresh' (Kd.R_lt (rowN HO_13.out)) k_ hk⟩)); (case aO => exact (rowN HO240.out)); (case aS => exact (below_size (belN HB.out))); (case aL => have := LMc33.out; omega); intro v243 w78 ho hb hg hat; rw [← Ny242.out] at ho; have n0_ := Aside0.mk (Kd.R_after (ok := (fun k_ => some k_ ≠ (.slice Ao77 t231.length co77 : Value).ownBlock)) (rowN HO_9.out) hg hat); have n1_ := Aside0.mk (Kd.R_after (ok := (fun k_ => some k_ ≠ (.slice Ao27 t222.length co27 : Value).ownBlock)) (rowN HO_13.out) hg hat); have n2_ := Aside0.mk (hb); have n3_ := Aside0.mk (ho); clear HO_9; clear HO_13; clear HB; clear HO240; have HO_9 := n0_; have HO_13 := n1_; have HB := n2_; have HO244 := n3_; clear n0_ n1_ n2_ n3_; clear ho hb hg hat; obtain ⟨Ao79, co79, eo79⟩ := Kd.R_slice HO244.out; subst eo79) | ((with_reducible refine gate_callee (f := 24) rfl ?_); refine goesL_ (some 71) rfl rfl Try.func24 (by kernel_rfl) rfl #[.slice Ao79 y242.length co79] rfl argN ?_; (with_reducible refine (frame_All.calls kj25 _ _ y242 t245 t246 t247 _ ?side1 ?side2 A34.out).mono ?_); (case side1 => repeat (first | exact (Kd.R_reads' HO244.out).2.2 | (with_reducible refine Kd.C_alloc ?_ _) | (with_reducible refine Kd.C_drewN ?_ _) | (with_reducible refine Kd.C_drew ?_))); (case side2 => exact (Kd.R_reads' HO244.out).2.1); rintro e w80 ⟨v248, rfl, ho0, hb⟩; refine ⟨_, rfl, ?_⟩; have n0_ := Aside0.mk (Kd.R_below (rowN HO_9.out) hb); have n1_ := Aside0.mk (Kd.R_below (rowN HO_13.out) hb); have n2_ := Aside0.mk (Kd.R_below (rowN HO244.out) hb); have n3_ := Aside0.mk (Kd.N_lower (Kd.N_mono (ok' := fun k_ => some k_ ≠ (.slice Ao27 t222.length co27 : Value).ownBlock ∧ some k_ ≠ (.slice Ao77 t231.length co77 : Value).ownBlock ∧ some k_ ≠ (.slice Ao79 y242.length co79 : Value).ownBlock) (Kd.S_N (Kd.S_bound ho0)) (fun k_ hk_ => ⟨(Kd.fresh' (Kd.R_lt (rowN HO_9.out)) k_ hk_.2.1), (Kd.fresh' (Kd.R_lt (rowN HO_13.out)) k_ hk_.2.1), (Kd.fresh' (Kd.R_lt (rowN HO244.out)) k_ hk_.2.1)⟩)) (below_size (belN HB.out))); have n4_ := Aside0.mk (below_step (belN HB.out) hb); clear HO_9; clear HO_13; clear HO244; clear HB; have HO_9 := n0_; have HO_13 := n1_; have HO244 := n2_; have HO249 := n3_; have HB := n4_; clear n0_ n1_ n2_ n3_ n4_; (try clear hb); (try clear hk); (try clear ho0)))
          have n0_ := Aside0.mk (Kd.R_drew HO_9.out)
          have n1_ := Aside0.mk (Kd.R_drew HO_13.out)
          have n2_ := Aside0.mk (Kd.R_drew HO244.out)
          have n3_ := Aside0.mk (Kd.N_drew HO249.out)
          have n4_ := Aside0.mk (below_drew1 HB.out)
          clear HO_9
          clear HO_13
          clear HO244
          clear HO249
          clear HB
          have HO_9 := n0_
          have HO_13 := n1_
          have HO244 := n2_
          have HO249 := n3_
          have HB := n4_
          clear n0_ n1_ n2_ n3_ n4_
          obtain ⟨Ao82, co82, eo82⟩ := Kd.N_slice HO249.out
          (first | subst eo82 | (injection eo82 with f1_ f2_ f3_; have f4_ := f1_.symm; have f5_ := f3_.symm; clear f1_ f2_ f3_; subst f4_; subst f5_))
          refine start_ (n := 22) (S := fun w' => True) (ds := []) #[false, false, false, false, false, false, false, false, false, false, false, false, false, false, false, false, false, false, false, false, false, false] (by kernel_rfl) rfl rfl trivial (fun hHeld => ?_); refine with_tabW marigraphlaw4_FrameApart.tab10 marigraphlaw4_FrameApart.bits10 (fun HT_ HW_ => ?_)
          generalize w80.drew = w81 at HO_9 HO_13 HO244 HO249 HB hHeld ⊢
          refine pA 0 (some 75) (bA 22 1) HT_.out ?_
          refine pA 1 (some 76) (bA 22 3) HT_.out ?_
          refine pA 2 (some 77) (bA 22 7) HT_.out ?_
          refine pA 3 (some 78) (bA 22 15) HT_.out ?_
          refine pU 4 (some 79) (bA 22 31) HT_.out ?_
          refine pU 5 (some 80) (bA 22 63) HT_.out ?_
          refine pU 6 (some 81) (bA 22 127) HT_.out ?_
          refine pU 7 (some 82) (bA 22 255) HT_.out ?_
          refine pA 8 (some 83) (bA 22 511) HT_.out ?_
          refine pA 9 (some 84) (bA 22 1023) HT_.out ?_
          refine pU 10 (some 85) (bA 22 2047) HT_.out ?_
          refine pU 11 (some 86) (bA 22 4095) HT_.out ?_
          refine pU 12 (some 87) (bA 22 8191) HT_.out ?_
          refine pU 13 (some 88) (bA 22 16383) HT_.out ?_
          refine pU 14 (some 89) (bA 22 32767) HT_.out ?_
          refine pU 15 (some 90) (bA 22 65535) HT_.out ?_
          refine pU 16 (some 91) (bA 22 131071) HT_.out ?_
          refine pA 17 (some 92) (bA 22 262143) HT_.out ?_
          refine pA 18 (some 93) (bA 22 524287) HT_.out ?_
          refine pU 19 (some 94) (bA 22 1048575) HT_.out ?_
          refine pA 20 (some 95) (bA 22 2097151) HT_.out ?_
          refine pA 21 (some 6) (bA 22 4194303) HT_.out ?_
          refine done_ (done_of HT_.out (by kernel_rfl)) ?_
          try go_wp2
          go_ret
          exact ⟨by first | rfl | (simp [errW_none, errW_some] <;> rfl) | (simp [*, errW_none, errW_some] <;> rfl), (belN HB.out)⟩
        ·rw [if_neg c33] at H
         exact absurd H (by simp)
       ·rw [if_neg c32] at H
        exact absurd H (by simp)

end Go.Proofs.Ytmimfnangdabmaa.PFrameApart

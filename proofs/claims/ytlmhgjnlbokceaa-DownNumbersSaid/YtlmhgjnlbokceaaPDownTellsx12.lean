/- The walk of the Go functions that a law reaches, told as plain functions; a program of this session has written it. No condition beyond the statement's own. -/
import Derived.Test.YtlmhgjnlbokceaaPDownTellsx0
import Derived.Test.YtlmhgjnlbokceaaPDownTellsx3
import Derived.Test.YtlmhgjnlbokceaaPDownTellsx11
namespace Go.Proofs.Ytlmhgjnlbokceaa.PDownTells
open Go.RowKit Go.Proofs.YtlmhgjnlbokceaaW.PrintWords Go.Proofs.YtlmhgjnlbokceaaW.PrintLast Go.Proofs.YtlmhgjnlbokceaaW.PrintMore
attribute [local go_sem] max2_int min2_int max_two min_two max_three min_three max_four min_four   -- for this text's walks alone
set_option linter.unusedVariables false
set_option linter.unusedSimpArgs false

/-! ### marigraphref1_Op: function 29 -/
def marigraphref1_Op.j0 : Nat → Int → Bool → Int → Int → Int → Int → Option (Int × Int × Int)
 | 0, _, _, _, _, _, _ => none
 | k + 1, x0, x24, x264000, x264001, x265000, x265001 => if x24 = true then (some (0, 0, 1)) else (if x0 = 43 then ((marigraphref1_New.f k (wrap64 ((wrap64 (x264000 * x265001)) + (wrap64 (x265000 * x264001)))) (wrap64 (x264001 * x265001))).bind fun bt268 => (some (bt268.1, bt268.2.1, bt268.2.2))) else (if x0 = 45 then ((marigraphref1_New.f k (wrap64 ((wrap64 (x264000 * x265001)) - (wrap64 (x265000 * x264001)))) (wrap64 (x264001 * x265001))).bind fun bt271 => (some (bt271.1, bt271.2.1, bt271.2.2))) else (if x0 = 42 then ((marigraphref1_New.f k (wrap64 (x264000 * x265000)) (wrap64 (x264001 * x265001))).bind fun bt274 => (some (bt274.1, bt274.2.1, bt274.2.2))) else ((marigraphref1_New.f k (wrap64 (x264000 * x265001)) (wrap64 (x264001 * x265000))).bind fun bt277 => (some (bt277.1, bt277.2.1, bt277.2.2))))))
def marigraphref1_Op.f (k : Nat) (a0 : Int) (a1_0 : Int) (a1_1 : Int) (a2_0 : Int) (a2_1 : Int) : Option (Int × Int × Int) := (marigraphref1_Right.f k a1_0 a1_1).bind fun t266 => (if t266 = true then ((marigraphref1_Right.f k a2_0 a2_1).bind fun t267 => (if t267 = true then (if a0 = 47 then (marigraphref1_Op.j0 k a0 (a2_0 == 0) a1_0 a1_1 a2_0 a2_1) else (marigraphref1_Op.j0 k a0 false a1_0 a1_1 a2_0 a2_1)) else (marigraphref1_Op.j0 k a0 true a1_0 a1_1 a2_0 a2_1))) else (marigraphref1_Op.j0 k a0 true a1_0 a1_1 a2_0 a2_1))
theorem marigraphref1_Op.mono_l : ∀ k, (∀ y0 y1 y2 y3 y4 y5, LeO (marigraphref1_Op.j0 k y0 y1 y2 y3 y4 y5) (marigraphref1_Op.j0 (k + 1) y0 y1 y2 y3 y4 y5))
 | 0 => fun _ _ _ _ _ _ r h => by simp [marigraphref1_Op.j0] at h
 | k + 1 => by
  have ih0 := marigraphref1_Op.mono_l k
  ·intro y0 y1 y2 y3 y4 y5
   unfold marigraphref1_Op.j0
   repeat' first
   | (with_reducible exact ih0 _ _ _ _ _ _)
   | (with_reducible exact marigraphref1_New.mono _ _ _)
   | (with_reducible exact marigraphref1_Right.mono _ _ _)
   | (with_reducible exact LeO.refl _)
   | (with_reducible exact LeO.none _)
   | (with_reducible refine LeO.ite ?_ ?_)
   | (with_reducible refine LeO.bind ?_ (fun _ => ?_))
   | exact ih0 _ _ _ _ _ _
   | exact marigraphref1_New.mono _ _ _
   | exact marigraphref1_Right.mono _ _ _
   | exact LeO.none _
   | refine LeO.ite ?_ ?_
   | refine LeO.bind ?_ (fun _ => ?_)
theorem marigraphref1_Op.mono : ∀ a0 a1 a2 a3 a4 k, LeO (marigraphref1_Op.f k a0 a1 a2 a3 a4) (marigraphref1_Op.f (k + 1) a0 a1 a2 a3 a4) := by
 intro a0 a1 a2 a3 a4 k
 have ih0 := marigraphref1_Op.mono_l k
 unfold marigraphref1_Op.f
 repeat' first
   | (with_reducible exact ih0 _ _ _ _ _ _)
   | (with_reducible exact marigraphref1_New.mono _ _ _)
   | (with_reducible exact marigraphref1_Right.mono _ _ _)
   | (with_reducible exact LeO.refl _)
   | (with_reducible exact LeO.none _)
   | (with_reducible refine LeO.ite ?_ ?_)
   | (with_reducible refine LeO.bind ?_ (fun _ => ?_))
   | exact ih0 _ _ _ _ _ _
   | exact marigraphref1_New.mono _ _ _
   | exact marigraphref1_Right.mono _ _ _
   | exact LeO.none _
   | refine LeO.ite ?_ ?_
   | refine LeO.bind ?_ (fun _ => ?_)
set_option maxHeartbeats 8000000 in
set_option maxRecDepth 100000 in
theorem marigraphref1_Op.calls (k : Nat) (a0 : Int) (a1_0 : Int) (a1_1 : Int) (a2_0 : Int) (a2_1 : Int) (r1 : Int) (r2 : Int) (r3 : Int) (w : World) (h : marigraphref1_Op.f k a0 a1_0 a1_1 a2_0 a2_1 = some (r1, r2, r3)) :
  Calls Try.prog 29 #[.int .u8 a0, .agg #[.int .i64 a1_0, .int .i64 a1_1], .agg #[.int .i64 a2_0, .int .i64 a2_1]] w fun e w' => e = .returned (.tuple #[.agg #[.int .i64 r1, .int .i64 r2], .int .i64 r3]) ∧ Below w.heap.size w w' := by
 have hu29 := Try.underlying29
 have HB := Aside0.mk (Below.refl w.heap.size w)
 have H : ((marigraphref1_Right.f k a1_0 a1_1).bind fun t266 => (if t266 = true then ((marigraphref1_Right.f k a2_0 a2_1).bind fun t267 => (if t267 = true then (if a0 = 47 then (marigraphref1_Op.j0 k a0 (a2_0 == 0) a1_0 a1_1 a2_0 a2_1) else (marigraphref1_Op.j0 k a0 false a1_0 a1_1 a2_0 a2_1)) else (marigraphref1_Op.j0 k a0 true a1_0 a1_1 a2_0 a2_1))) else (marigraphref1_Op.j0 k a0 true a1_0 a1_1 a2_0 a2_1))) = some (r1, r2, r3) := h
 clear h
 have HC4 := Aside0.mk H
 clear H
 go_enter Try.func29, Try.ntmps29
 go_upto_region 1 with (first | ((with_reducible refine gate_dst (N := 4) rfl ?_); refine box_event ?hg (N := 4) ?hd (cs := #[.int .i64 a1_0, .int .i64 a1_1]) (t := 29) ?hr ?_; (case hd => rfl); (case hg => rfl); (case hr => first | (go_simp; done) | (go_simp; rfl)); intro gb263 hg w5 hbox hb; have n0_ := Aside0.mk (below_step (belN HB.out) hb); have n1_ := Aside0.mk (hbox); have n2_ := Aside0.mk (szB hg HB.out); have n3_ := Aside0.mk (szB hg HB.out); clear HB; have HB := n0_; have BK263 := n1_; have GW263 := n2_; have GE263 := n3_; clear n0_ n1_ n2_ n3_; clear hb hbox hg) | ((with_reducible refine gate_dst (N := 5) rfl ?_); refine box_event ?hg (N := 5) ?hd (cs := #[.int .i64 a2_0, .int .i64 a2_1]) (t := 29) ?hr ?_; (case hd => rfl); (case hg => rfl); (case hr => first | (go_simp; done) | (go_simp; rfl)); intro gb264 hg w6 hbox hb; have n0_ := Aside0.mk (bkB BK263.out hb); have n1_ := Aside0.mk (below_step (belS HB.out) hb); have n2_ := Aside0.mk (hbox); have n3_ := Aside0.mk (szB hg HB.out); have n4_ := Aside0.mk (szB hg HB.out); have n5_ := Aside0.mk ((bk1 hg BK263.out)); have n6_ := Aside0.mk ((bk2 hg BK263.out)); clear BK263; clear HB; have BK263 := n0_; have HB := n1_; have BK264 := n2_; have GW264 := n3_; have GE264 := n4_; have NB263_264 := n5_; have NB264_263 := n6_; clear n0_ n1_ n2_ n3_ n4_ n5_ n6_; clear hb hbox hg) | ((with_reducible refine gate_dst (N := 6) rfl ?_); refine box_event ?hg (N := 6) ?hd (cs := #[.int .i64 0, .int .i64 0]) (t := 29) ?hr ?_; (case hd => rfl); (case hg => rfl); (case hr => first | (go_simp; done) | (go_simp; rfl)); intro gb265 hg w7 hbox hb; have n0_ := Aside0.mk (bkB BK263.out hb); have n1_ := Aside0.mk (bkB BK264.out hb); have n2_ := Aside0.mk (below_step (belS HB.out) hb); have n3_ := Aside0.mk (hbox); have n4_ := Aside0.mk (szB hg HB.out); have n5_ := Aside0.mk (szB hg HB.out); have n6_ := Aside0.mk ((bk1 hg BK263.out)); have n7_ := Aside0.mk ((bk2 hg BK263.out)); have n8_ := Aside0.mk ((bk1 hg BK264.out)); have n9_ := Aside0.mk ((bk2 hg BK264.out)); clear BK263; clear BK264; clear HB; have BK263 := n0_; have BK264 := n1_; have HB := n2_; have BK265 := n3_; have GW265 := n4_; have GE265 := n5_; have NB263_265 := n6_; have NB265_263 := n7_; have NB264_265 := n8_; have NB265_264 := n9_; clear n0_ n1_ n2_ n3_ n4_ n5_ n6_ n7_ n8_ n9_; clear hb hbox hg))
 (try simp only [Act.put, List.setIfInBounds_toArray, List.set_cons_zero, List.set_cons_succ])
 go_cut [24] (fun v24 wc => ∃ (kq : Nat) (x24_3 : Bool), v24 = .bool x24_3 ∧ Aside0 (marigraphref1_Op.j0 kq a0 x24_3 a1_0 a1_1 a2_0 a2_1 = some (r1, r2, r3)) ∧ Aside0 (kq ≤ k) ∧ Aside0 (wc.heap[gb263]? = some (.cells #[.int .i64 a1_0, .int .i64 a1_1] 29 (0, 0))) ∧ Aside0 (wc.heap[gb264]? = some (.cells #[.int .i64 a2_0, .int .i64 a2_1] 29 (0, 0))) ∧ Aside0 (wc.heap[gb265]? = some (.cells #[.int .i64 0, .int .i64 0] 29 (0, 0))) ∧ Aside0 (Below w.heap.size w wc))
 case first =>
  have H := HC4.out
  clear HC4
  replace H := Option.bind_eq_some_iff.mp H
  obtain ⟨t266, A80, H⟩ := H
  replace H : (if t266 = true then ((marigraphref1_Right.f k a2_0 a2_1).bind fun t267 => (if t267 = true then (if a0 = 47 then (marigraphref1_Op.j0 k a0 (a2_0 == 0) a1_0 a1_1 a2_0 a2_1) else (marigraphref1_Op.j0 k a0 false a1_0 a1_1 a2_0 a2_1)) else (marigraphref1_Op.j0 k a0 true a1_0 a1_1 a2_0 a2_1))) else (marigraphref1_Op.j0 k a0 true a1_0 a1_1 a2_0 a2_1)) = some (r1, r2, r3) := H
  have A8 := Aside0.mk A80
  clear A80
  by_cases c9 : t266 = true
  ·subst c9
   have H1 : ((marigraphref1_Right.f k a2_0 a2_1).bind fun t267 => (if t267 = true then (if a0 = 47 then (marigraphref1_Op.j0 k a0 (a2_0 == 0) a1_0 a1_1 a2_0 a2_1) else (marigraphref1_Op.j0 k a0 false a1_0 a1_1 a2_0 a2_1)) else (marigraphref1_Op.j0 k a0 true a1_0 a1_1 a2_0 a2_1))) = some (r1, r2, r3) := by rw [if_pos rfl] at H; exact H
   clear H
   have H := H1
   clear H1
   replace H := Option.bind_eq_some_iff.mp H
   obtain ⟨t267, A100, H⟩ := H
   replace H : (if t267 = true then (if a0 = 47 then (marigraphref1_Op.j0 k a0 (a2_0 == 0) a1_0 a1_1 a2_0 a2_1) else (marigraphref1_Op.j0 k a0 false a1_0 a1_1 a2_0 a2_1)) else (marigraphref1_Op.j0 k a0 true a1_0 a1_1 a2_0 a2_1)) = some (r1, r2, r3) := H
   have A10 := Aside0.mk A100
   clear A100
   by_cases c11 : t267 = true
   ·subst c11
    have H1 : (if a0 = 47 then (marigraphref1_Op.j0 k a0 (a2_0 == 0) a1_0 a1_1 a2_0 a2_1) else (marigraphref1_Op.j0 k a0 false a1_0 a1_1 a2_0 a2_1)) = some (r1, r2, r3) := by rw [if_pos rfl] at H; exact H
    clear H
    have H := H1
    clear H1
    by_cases c12 : a0 = 47
    ·rw [if_pos c12] at H
     have c12b0 : (a0 == 47) = true := beq_iff_eq.mpr c12
     have c12b1 : (a0 != 47) = false := bne_eq_false_iff_eq.mpr c12
     clear c12
     (first | rw [c12b0] | rw [c12b1] | (simp only [i64_w, i32_w]; rw [c12b0]) | skip)
     have H' := Aside0.mk H
     clear H
     have hnb13 := NB263_264.out
     have hnc13 := NB264_263.out
     have hnb14 := NB263_265.out
     have hnc14 := NB265_263.out
     have hcz15_0 : w7.cell? ⟨gb263, 0, none⟩ = some (.int .i64 a1_0) := (blk_cell BK263.out 0).trans rfl
     have hcz15_1 : w7.cell? ⟨gb263, 1, none⟩ = some (.int .i64 a1_1) := (blk_cell BK263.out 1).trans rfl
     have hfz15_0 := blk_frozen BK263.out 0
     have hfz15_1 := blk_frozen BK263.out 1
     go_wp2_with (first | ((with_reducible refine gate_callee (f := 13) rfl ?_); refine goesL_ (some 9) rfl rfl Try.func13 (by kernel_rfl) rfl #[.agg #[.int .i64 a1_0, .int .i64 a1_1]] rfl argN ?_; (with_reducible refine (marigraphref1_Right.calls k a1_0 a1_1 true _ A8.out).mono ?_); rintro e w16 ⟨rfl, hb⟩; refine ⟨_, rfl, ?_⟩; have n0_ := Aside0.mk (bkB BK263.out hb); have n1_ := Aside0.mk (bkB BK264.out hb); have n2_ := Aside0.mk (bkB BK265.out hb); have n3_ := Aside0.mk (below_step (belS HB.out) hb); clear BK263; clear BK264; clear BK265; clear HB; have BK263 := n0_; have BK264 := n1_; have BK265 := n2_; have HB := n3_; clear n0_ n1_ n2_ n3_; (try clear hb); have hnb17 := NB264_265.out; have hnc17 := NB265_264.out; have hcz18_0 : w16.cell? ⟨gb264, 0, none⟩ = some (.int .i64 a2_0) := (blk_cell BK264.out 0).trans rfl; have hcz18_1 : w16.cell? ⟨gb264, 1, none⟩ = some (.int .i64 a2_1) := (blk_cell BK264.out 1).trans rfl; have hfz18_0 := blk_frozen BK264.out 0; have hfz18_1 := blk_frozen BK264.out 1) | (go_at_call 13; (with_reducible refine (marigraphref1_Right.calls k a2_0 a2_1 true _ A10.out).mono ?_); rintro e w19 ⟨rfl, hb⟩; have n0_ := Aside0.mk (bkB BK263.out hb); have n1_ := Aside0.mk (bkB BK264.out hb); have n2_ := Aside0.mk (bkB BK265.out hb); have n3_ := Aside0.mk (below_step (belS HB.out) hb); clear BK263; clear BK264; clear BK265; clear HB; have BK263 := n0_; have BK264 := n1_; have BK265 := n2_; have HB := n3_; clear n0_ n1_ n2_ n3_; (try clear hb); have hcz20_0 : w19.cell? ⟨gb264, 0, none⟩ = some (.int .i64 a2_0) := (blk_cell BK264.out 0).trans rfl; have hcz20_1 : w19.cell? ⟨gb264, 1, none⟩ = some (.int .i64 a2_1) := (blk_cell BK264.out 1).trans rfl; have hfz20_0 := blk_frozen BK264.out 0; have hfz20_1 := blk_frozen BK264.out 1))
     go_meet
     case rel => exact ⟨_, ((a2_0 == 0)), (by first | rfl | (simp; done) | (simp [*]; done)), H', ⟨by first | omega | exact Nat.le_refl _⟩, ⟨blkN BK263.out⟩, ⟨blkN BK264.out⟩, ⟨blkN BK265.out⟩, ⟨(belS HB.out)⟩⟩
    ·rw [if_neg c12] at H
     have c12b0 : (a0 == 47) = false := beq_eq_false_iff_ne.mpr c12
     have c12b1 : (a0 != 47) = true := bne_iff_ne.mpr c12
     (first | rw [c12b0] | rw [c12b1] | (simp only [i64_w, i32_w]; rw [c12b0]) | skip)
     have H' := Aside0.mk H
     clear H
     have hnb21 := NB263_264.out
     have hnc21 := NB264_263.out
     have hnb22 := NB263_265.out
     have hnc22 := NB265_263.out
     have hcz23_0 : w7.cell? ⟨gb263, 0, none⟩ = some (.int .i64 a1_0) := (blk_cell BK263.out 0).trans rfl
     have hcz23_1 : w7.cell? ⟨gb263, 1, none⟩ = some (.int .i64 a1_1) := (blk_cell BK263.out 1).trans rfl
     have hfz23_0 := blk_frozen BK263.out 0
     have hfz23_1 := blk_frozen BK263.out 1
     go_wp2_with (first | ((with_reducible refine gate_callee (f := 13) rfl ?_); refine goesL_ (some 9) rfl rfl Try.func13 (by kernel_rfl) rfl #[.agg #[.int .i64 a1_0, .int .i64 a1_1]] rfl argN ?_; (with_reducible refine (marigraphref1_Right.calls k a1_0 a1_1 true _ A8.out).mono ?_); rintro e w24 ⟨rfl, hb⟩; refine ⟨_, rfl, ?_⟩; have n0_ := Aside0.mk (bkB BK263.out hb); have n1_ := Aside0.mk (bkB BK264.out hb); have n2_ := Aside0.mk (bkB BK265.out hb); have n3_ := Aside0.mk (below_step (belS HB.out) hb); clear BK263; clear BK264; clear BK265; clear HB; have BK263 := n0_; have BK264 := n1_; have BK265 := n2_; have HB := n3_; clear n0_ n1_ n2_ n3_; (try clear hb); have hnb25 := NB264_265.out; have hnc25 := NB265_264.out; have hcz26_0 : w24.cell? ⟨gb264, 0, none⟩ = some (.int .i64 a2_0) := (blk_cell BK264.out 0).trans rfl; have hcz26_1 : w24.cell? ⟨gb264, 1, none⟩ = some (.int .i64 a2_1) := (blk_cell BK264.out 1).trans rfl; have hfz26_0 := blk_frozen BK264.out 0; have hfz26_1 := blk_frozen BK264.out 1) | (go_at_call 13; (with_reducible refine (marigraphref1_Right.calls k a2_0 a2_1 true _ A10.out).mono ?_); rintro e w27 ⟨rfl, hb⟩; have n0_ := Aside0.mk (bkB BK263.out hb); have n1_ := Aside0.mk (bkB BK264.out hb); have n2_ := Aside0.mk (bkB BK265.out hb); have n3_ := Aside0.mk (below_step (belS HB.out) hb); clear BK263; clear BK264; clear BK265; clear HB; have BK263 := n0_; have BK264 := n1_; have BK265 := n2_; have HB := n3_; clear n0_ n1_ n2_ n3_; (try clear hb)))
     go_meet
     case rel => exact ⟨_, (false), (by first | rfl | (simp; done) | (simp [*]; done)), H', ⟨by first | omega | exact Nat.le_refl _⟩, ⟨blkN BK263.out⟩, ⟨blkN BK264.out⟩, ⟨blkN BK265.out⟩, ⟨(belS HB.out)⟩⟩
   ·replace c11 := Bool.eq_false_iff.mpr c11
    subst c11
    have H1 : (marigraphref1_Op.j0 k a0 true a1_0 a1_1 a2_0 a2_1) = some (r1, r2, r3) := by rw [if_neg (show ¬ (false = true) by decide)] at H; exact H
    clear H
    have H := H1
    clear H1
    have H' := Aside0.mk H
    clear H
    have hnb28 := NB263_264.out
    have hnc28 := NB264_263.out
    have hnb29 := NB263_265.out
    have hnc29 := NB265_263.out
    have hcz30_0 : w7.cell? ⟨gb263, 0, none⟩ = some (.int .i64 a1_0) := (blk_cell BK263.out 0).trans rfl
    have hcz30_1 : w7.cell? ⟨gb263, 1, none⟩ = some (.int .i64 a1_1) := (blk_cell BK263.out 1).trans rfl
    have hfz30_0 := blk_frozen BK263.out 0
    have hfz30_1 := blk_frozen BK263.out 1
    go_wp2_with (first | ((with_reducible refine gate_callee (f := 13) rfl ?_); refine goesL_ (some 9) rfl rfl Try.func13 (by kernel_rfl) rfl #[.agg #[.int .i64 a1_0, .int .i64 a1_1]] rfl argN ?_; (with_reducible refine (marigraphref1_Right.calls k a1_0 a1_1 true _ A8.out).mono ?_); rintro e w31 ⟨rfl, hb⟩; refine ⟨_, rfl, ?_⟩; have n0_ := Aside0.mk (bkB BK263.out hb); have n1_ := Aside0.mk (bkB BK264.out hb); have n2_ := Aside0.mk (bkB BK265.out hb); have n3_ := Aside0.mk (below_step (belS HB.out) hb); clear BK263; clear BK264; clear BK265; clear HB; have BK263 := n0_; have BK264 := n1_; have BK265 := n2_; have HB := n3_; clear n0_ n1_ n2_ n3_; (try clear hb); have hnb32 := NB264_265.out; have hnc32 := NB265_264.out; have hcz33_0 : w31.cell? ⟨gb264, 0, none⟩ = some (.int .i64 a2_0) := (blk_cell BK264.out 0).trans rfl; have hcz33_1 : w31.cell? ⟨gb264, 1, none⟩ = some (.int .i64 a2_1) := (blk_cell BK264.out 1).trans rfl; have hfz33_0 := blk_frozen BK264.out 0; have hfz33_1 := blk_frozen BK264.out 1) | (go_at_call 13; (with_reducible refine (marigraphref1_Right.calls k a2_0 a2_1 false _ A10.out).mono ?_); rintro e w34 ⟨rfl, hb⟩; have n0_ := Aside0.mk (bkB BK263.out hb); have n1_ := Aside0.mk (bkB BK264.out hb); have n2_ := Aside0.mk (bkB BK265.out hb); have n3_ := Aside0.mk (below_step (belS HB.out) hb); clear BK263; clear BK264; clear BK265; clear HB; have BK263 := n0_; have BK264 := n1_; have BK265 := n2_; have HB := n3_; clear n0_ n1_ n2_ n3_; (try clear hb)))
    go_meet
    case rel => exact ⟨_, (true), (by first | rfl | (simp; done) | (simp [*]; done)), H', ⟨by first | omega | exact Nat.le_refl _⟩, ⟨blkN BK263.out⟩, ⟨blkN BK264.out⟩, ⟨blkN BK265.out⟩, ⟨(belS HB.out)⟩⟩
  ·replace c9 := Bool.eq_false_iff.mpr c9
   subst c9
   have H1 : (marigraphref1_Op.j0 k a0 true a1_0 a1_1 a2_0 a2_1) = some (r1, r2, r3) := by rw [if_neg (show ¬ (false = true) by decide)] at H; exact H
   clear H
   have H := H1
   clear H1
   have H' := Aside0.mk H
   clear H
   have hnb35 := NB263_264.out
   have hnc35 := NB264_263.out
   have hnb36 := NB263_265.out
   have hnc36 := NB265_263.out
   have hcz37_0 : w7.cell? ⟨gb263, 0, none⟩ = some (.int .i64 a1_0) := (blk_cell BK263.out 0).trans rfl
   have hcz37_1 : w7.cell? ⟨gb263, 1, none⟩ = some (.int .i64 a1_1) := (blk_cell BK263.out 1).trans rfl
   have hfz37_0 := blk_frozen BK263.out 0
   have hfz37_1 := blk_frozen BK263.out 1
   go_wp2_with (first | ((with_reducible refine gate_callee (f := 13) rfl ?_); refine goesL_ (some 9) rfl rfl Try.func13 (by kernel_rfl) rfl #[.agg #[.int .i64 a1_0, .int .i64 a1_1]] rfl argN ?_; (with_reducible refine (marigraphref1_Right.calls k a1_0 a1_1 false _ A8.out).mono ?_); rintro e w38 ⟨rfl, hb⟩; refine ⟨_, rfl, ?_⟩; have n0_ := Aside0.mk (bkB BK263.out hb); have n1_ := Aside0.mk (bkB BK264.out hb); have n2_ := Aside0.mk (bkB BK265.out hb); have n3_ := Aside0.mk (below_step (belS HB.out) hb); clear BK263; clear BK264; clear BK265; clear HB; have BK263 := n0_; have BK264 := n1_; have BK265 := n2_; have HB := n3_; clear n0_ n1_ n2_ n3_; (try clear hb)))
   go_meet
   case rel => exact ⟨_, (true), (by first | rfl | (simp; done) | (simp [*]; done)), H', ⟨by first | omega | exact Nat.le_refl _⟩, ⟨blkN BK263.out⟩, ⟨blkN BK264.out⟩, ⟨blkN BK265.out⟩, ⟨(belS HB.out)⟩⟩
 case rest =>
  clear HC4
  try clear c1
  try clear c2
  try clear p2
  try clear c3
  try clear c9
  try clear c11
  try clear c12
  try clear c12b0
  try clear c12b1
  try clear c13
  try clear c14
  try clear c17
  try clear c21
  try clear c22
  try clear c25
  try clear c28
  try clear c29
  try clear c32
  try clear c35
  try clear c36
  try clear hcz15_0
  try clear hcz15_1
  try clear hcz18_0
  try clear hcz18_1
  try clear hcz20_0
  try clear hcz20_1
  try clear hcz23_0
  try clear hcz23_1
  try clear hcz26_0
  try clear hcz26_1
  try clear hcz30_0
  try clear hcz30_1
  try clear hcz33_0
  try clear hcz33_1
  try clear hcz37_0
  try clear hcz37_1
  try clear hfz15_0
  try clear hfz15_1
  try clear hfz18_0
  try clear hfz18_1
  try clear hfz20_0
  try clear hfz20_1
  try clear hfz23_0
  try clear hfz23_1
  try clear hfz26_0
  try clear hfz26_1
  try clear hfz30_0
  try clear hfz30_1
  try clear hfz33_0
  try clear hfz33_1
  try clear hfz37_0
  try clear hfz37_1
  obtain ⟨kq, x24_3, rfl, HA, HJ3, BK263, BK264, BK265, HB⟩ := hcut
  cases kq with
  | zero => exact absurd HA.out (by simp [marigraphref1_Op.j0])
  | succ kj3 =>
   have H := HA.out
   clear HA
   simp only [marigraphref1_Op.j0] at H
   by_cases c39 : x24_3 = true
   ·subst c39
    have H1 : (some (0, 0, 1)) = some (r1, r2, r3) := by rw [if_pos rfl] at H; exact H
    clear H
    have H := H1
    clear H1
    simp only [Option.some.injEq, Prod.mk.injEq] at H
    obtain ⟨rfl, rfl, rfl⟩ := H
    have hnb40 := NB265_263.out
    have hnc40 := NB263_265.out
    have hnb41 := NB265_264.out
    have hnc41 := NB264_265.out
    have hcz42_0 : wc.cell? ⟨gb265, 0, none⟩ = some (.int .i64 0) := (blk_cell BK265.out 0).trans rfl
    have hcz42_1 : wc.cell? ⟨gb265, 1, none⟩ = some (.int .i64 0) := (blk_cell BK265.out 1).trans rfl
    have hfz42_0 := blk_frozen BK265.out 0
    have hfz42_1 := blk_frozen BK265.out 1
    go_wp2
    refine bodyPost_ret (results_ct rfl _ _ gb265 29 #[.int .i64 0, .int .i64 0] (0, 0) _ rfl (by (with_reducible repeat (first | refine blk_drewN ?_ _ | refine blk_drew ?_ | refine blk_alloc ?_ _)); refine blk_put (cs := #[.int .i64 0, .int .i64 0]) ?_ 1 _ rfl; (with_reducible repeat (first | refine blk_drewN ?_ _ | refine blk_drew ?_ | refine blk_alloc ?_ _)); refine blk_put (cs := #[.int .i64 0, .int .i64 0]) ?_ 0 _ rfl; (with_reducible repeat (first | refine blk_drewN ?_ _ | refine blk_drew ?_ | refine blk_alloc ?_ _)); exact BK265.out) Try.underlying29 rfl (by kernel_rfl)) rfl ?_
    exact ⟨by first | rfl | (simp [errW_none, errW_some] <;> rfl) | (simp [*, errW_none, errW_some] <;> rfl), (belS HB.out)⟩
   ·replace c39 := Bool.eq_false_iff.mpr c39
    subst c39
    have H1 : (if a0 = 43 then ((marigraphref1_New.f kj3 (wrap64 ((wrap64 (a1_0 * a2_1)) + (wrap64 (a2_0 * a1_1)))) (wrap64 (a1_1 * a2_1))).bind fun bt268 => (some (bt268.1, bt268.2.1, bt268.2.2))) else (if a0 = 45 then ((marigraphref1_New.f kj3 (wrap64 ((wrap64 (a1_0 * a2_1)) - (wrap64 (a2_0 * a1_1)))) (wrap64 (a1_1 * a2_1))).bind fun bt271 => (some (bt271.1, bt271.2.1, bt271.2.2))) else (if a0 = 42 then ((marigraphref1_New.f kj3 (wrap64 (a1_0 * a2_0)) (wrap64 (a1_1 * a2_1))).bind fun bt274 => (some (bt274.1, bt274.2.1, bt274.2.2))) else ((marigraphref1_New.f kj3 (wrap64 (a1_0 * a2_1)) (wrap64 (a1_1 * a2_0))).bind fun bt277 => (some (bt277.1, bt277.2.1, bt277.2.2)))))) = some (r1, r2, r3) := by rw [if_neg (show ¬ (false = true) by decide)] at H; exact H
    clear H
    have H := H1
    clear H1
    by_cases c43 : a0 = 43
    ·rw [if_pos c43] at H
     have c43b0 : (a0 == 43) = true := beq_iff_eq.mpr c43
     have c43b1 : (a0 != 43) = false := bne_eq_false_iff_eq.mpr c43
     clear c43
     replace H := Option.bind_eq_some_iff.mp H
     obtain ⟨⟨t268, t269, t270⟩, A440, H⟩ := H
     replace H : (some (t268, t269, t270)) = some (r1, r2, r3) := H
     have A44 := Aside0.mk A440
     clear A440
     simp only [Option.some.injEq, Prod.mk.injEq] at H
     obtain ⟨rfl, rfl, rfl⟩ := H
     have hnb45 := NB263_264.out
     have hnc45 := NB264_263.out
     have hnb46 := NB263_265.out
     have hnc46 := NB265_263.out
     have hcz47_0 : wc.cell? ⟨gb263, 0, none⟩ = some (.int .i64 a1_0) := (blk_cell BK263.out 0).trans rfl
     have hcz47_1 : wc.cell? ⟨gb263, 1, none⟩ = some (.int .i64 a1_1) := (blk_cell BK263.out 1).trans rfl
     have hfz47_0 := blk_frozen BK263.out 0
     have hfz47_1 := blk_frozen BK263.out 1
     have hnb48 := NB264_265.out
     have hnc48 := NB265_264.out
     have hcz49_0 : wc.cell? ⟨gb264, 0, none⟩ = some (.int .i64 a2_0) := (blk_cell BK264.out 0).trans rfl
     have hcz49_1 : wc.cell? ⟨gb264, 1, none⟩ = some (.int .i64 a2_1) := (blk_cell BK264.out 1).trans rfl
     have hfz49_0 := blk_frozen BK264.out 0
     have hfz49_1 := blk_frozen BK264.out 1
     go_wp2_with (first | ((with_reducible refine gate_callee (f := 27) rfl ?_); refine goesL_ (some 45) rfl rfl Try.func27 (by kernel_rfl) rfl #[.int .i64 (wrap64 ((wrap64 (a1_0 * a2_1)) + (wrap64 (a2_0 * a1_1)))), .int .i64 (wrap64 (a1_1 * a2_1))] rfl argN ?_; (with_reducible refine (marigraphref1_New.calls kj3 (wrap64 ((wrap64 (a1_0 * a2_1)) + (wrap64 (a2_0 * a1_1)))) (wrap64 (a1_1 * a2_1)) t268 t269 t270 _ A44.out).mono ?_); rintro e w50 ⟨rfl, hb⟩; refine ⟨_, rfl, ?_⟩; have n0_ := Aside0.mk (bkB BK263.out hb); have n1_ := Aside0.mk (bkB BK264.out hb); have n2_ := Aside0.mk (bkB BK265.out hb); have n3_ := Aside0.mk (below_step (belS HB.out) hb); clear BK263; clear BK264; clear BK265; clear HB; have BK263 := n0_; have BK264 := n1_; have BK265 := n2_; have HB := n3_; clear n0_ n1_ n2_ n3_; (try clear hb); have hcz51_0 : w50.cell? ⟨gb265, 0, none⟩ = some (.int .i64 0) := (blk_cell BK265.out 0).trans rfl; have hcz51_1 : w50.cell? ⟨gb265, 1, none⟩ = some (.int .i64 0) := (blk_cell BK265.out 1).trans rfl; have hfz51_0 := blk_frozen BK265.out 0; have hfz51_1 := blk_frozen BK265.out 1))
     refine bodyPost_ret (results_ct rfl _ _ gb265 29 #[.int .i64 t268, .int .i64 t269] (0, 0) _ rfl (by (with_reducible repeat (first | refine blk_drewN ?_ _ | refine blk_drew ?_ | refine blk_alloc ?_ _)); refine blk_put (cs := #[.int .i64 t268, .int .i64 0]) ?_ 1 _ rfl; (with_reducible repeat (first | refine blk_drewN ?_ _ | refine blk_drew ?_ | refine blk_alloc ?_ _)); refine blk_put (cs := #[.int .i64 0, .int .i64 0]) ?_ 0 _ rfl; (with_reducible repeat (first | refine blk_drewN ?_ _ | refine blk_drew ?_ | refine blk_alloc ?_ _)); exact BK265.out) Try.underlying29 rfl (by kernel_rfl)) rfl ?_
     exact ⟨by first | rfl | (simp [errW_none, errW_some] <;> rfl) | (simp [*, errW_none, errW_some] <;> rfl), (belS HB.out)⟩
    ·rw [if_neg c43] at H
     have c43b0 : (a0 == 43) = false := beq_eq_false_iff_ne.mpr c43
     have c43b1 : (a0 != 43) = true := bne_iff_ne.mpr c43
     by_cases c52 : a0 = 45
     ·rw [if_pos c52] at H
      have c52b0 : (a0 == 45) = true := beq_iff_eq.mpr c52
      have c52b1 : (a0 != 45) = false := bne_eq_false_iff_eq.mpr c52
      clear c52
      replace H := Option.bind_eq_some_iff.mp H
      obtain ⟨⟨t271, t272, t273⟩, A530, H⟩ := H
      replace H : (some (t271, t272, t273)) = some (r1, r2, r3) := H
      have A53 := Aside0.mk A530
      clear A530
      simp only [Option.some.injEq, Prod.mk.injEq] at H
      obtain ⟨rfl, rfl, rfl⟩ := H
      have hnb54 := NB263_264.out
      have hnc54 := NB264_263.out
      have hnb55 := NB263_265.out
      have hnc55 := NB265_263.out
      have hcz56_0 : wc.cell? ⟨gb263, 0, none⟩ = some (.int .i64 a1_0) := (blk_cell BK263.out 0).trans rfl
      have hcz56_1 : wc.cell? ⟨gb263, 1, none⟩ = some (.int .i64 a1_1) := (blk_cell BK263.out 1).trans rfl
      have hfz56_0 := blk_frozen BK263.out 0
      have hfz56_1 := blk_frozen BK263.out 1
      have hnb57 := NB264_265.out
      have hnc57 := NB265_264.out
      have hcz58_0 : wc.cell? ⟨gb264, 0, none⟩ = some (.int .i64 a2_0) := (blk_cell BK264.out 0).trans rfl
      have hcz58_1 : wc.cell? ⟨gb264, 1, none⟩ = some (.int .i64 a2_1) := (blk_cell BK264.out 1).trans rfl
      have hfz58_0 := blk_frozen BK264.out 0
      have hfz58_1 := blk_frozen BK264.out 1
      go_wp2_with (first | ((with_reducible refine gate_callee (f := 27) rfl ?_); refine goesL_ (some 66) rfl rfl Try.func27 (by kernel_rfl) rfl #[.int .i64 (wrap64 ((wrap64 (a1_0 * a2_1)) - (wrap64 (a2_0 * a1_1)))), .int .i64 (wrap64 (a1_1 * a2_1))] rfl argN ?_; (with_reducible refine (marigraphref1_New.calls kj3 (wrap64 ((wrap64 (a1_0 * a2_1)) - (wrap64 (a2_0 * a1_1)))) (wrap64 (a1_1 * a2_1)) t271 t272 t273 _ A53.out).mono ?_); rintro e w59 ⟨rfl, hb⟩; refine ⟨_, rfl, ?_⟩; have n0_ := Aside0.mk (bkB BK263.out hb); have n1_ := Aside0.mk (bkB BK264.out hb); have n2_ := Aside0.mk (bkB BK265.out hb); have n3_ := Aside0.mk (below_step (belS HB.out) hb); clear BK263; clear BK264; clear BK265; clear HB; have BK263 := n0_; have BK264 := n1_; have BK265 := n2_; have HB := n3_; clear n0_ n1_ n2_ n3_; (try clear hb); have hcz60_0 : w59.cell? ⟨gb265, 0, none⟩ = some (.int .i64 0) := (blk_cell BK265.out 0).trans rfl; have hcz60_1 : w59.cell? ⟨gb265, 1, none⟩ = some (.int .i64 0) := (blk_cell BK265.out 1).trans rfl; have hfz60_0 := blk_frozen BK265.out 0; have hfz60_1 := blk_frozen BK265.out 1))
      refine bodyPost_ret (results_ct rfl _ _ gb265 29 #[.int .i64 t271, .int .i64 t272] (0, 0) _ rfl (by (with_reducible repeat (first | refine blk_drewN ?_ _ | refine blk_drew ?_ | refine blk_alloc ?_ _)); refine blk_put (cs := #[.int .i64 t271, .int .i64 0]) ?_ 1 _ rfl; (with_reducible repeat (first | refine blk_drewN ?_ _ | refine blk_drew ?_ | refine blk_alloc ?_ _)); refine blk_put (cs := #[.int .i64 0, .int .i64 0]) ?_ 0 _ rfl; (with_reducible repeat (first | refine blk_drewN ?_ _ | refine blk_drew ?_ | refine blk_alloc ?_ _)); exact BK265.out) Try.underlying29 rfl (by kernel_rfl)) rfl ?_
      exact ⟨by first | rfl | (simp [errW_none, errW_some] <;> rfl) | (simp [*, errW_none, errW_some] <;> rfl), (belS HB.out)⟩
     ·rw [if_neg c52] at H
      have c52b0 : (a0 == 45) = false := beq_eq_false_iff_ne.mpr c52
      have c52b1 : (a0 != 45) = true := bne_iff_ne.mpr c52
      by_cases c61 : a0 = 42
      ·rw [if_pos c61] at H
       have c61b0 : (a0 == 42) = true := beq_iff_eq.mpr c61
       have c61b1 : (a0 != 42) = false := bne_eq_false_iff_eq.mpr c61
       clear c61
       replace H := Option.bind_eq_some_iff.mp H
       obtain ⟨⟨t274, t275, t276⟩, A620, H⟩ := H
       replace H : (some (t274, t275, t276)) = some (r1, r2, r3) := H
       have A62 := Aside0.mk A620
       clear A620
       simp only [Option.some.injEq, Prod.mk.injEq] at H
       obtain ⟨rfl, rfl, rfl⟩ := H
       have hnb63 := NB263_264.out
       have hnc63 := NB264_263.out
       have hnb64 := NB263_265.out
       have hnc64 := NB265_263.out
       have hcz65_0 : wc.cell? ⟨gb263, 0, none⟩ = some (.int .i64 a1_0) := (blk_cell BK263.out 0).trans rfl
       have hcz65_1 : wc.cell? ⟨gb263, 1, none⟩ = some (.int .i64 a1_1) := (blk_cell BK263.out 1).trans rfl
       have hfz65_0 := blk_frozen BK263.out 0
       have hfz65_1 := blk_frozen BK263.out 1
       have hnb66 := NB264_265.out
       have hnc66 := NB265_264.out
       have hcz67_0 : wc.cell? ⟨gb264, 0, none⟩ = some (.int .i64 a2_0) := (blk_cell BK264.out 0).trans rfl
       have hcz67_1 : wc.cell? ⟨gb264, 1, none⟩ = some (.int .i64 a2_1) := (blk_cell BK264.out 1).trans rfl
       have hfz67_0 := blk_frozen BK264.out 0
       have hfz67_1 := blk_frozen BK264.out 1
       go_wp2_with (first | ((with_reducible refine gate_callee (f := 27) rfl ?_); refine goesL_ (some 81) rfl rfl Try.func27 (by kernel_rfl) rfl #[.int .i64 (wrap64 (a1_0 * a2_0)), .int .i64 (wrap64 (a1_1 * a2_1))] rfl argN ?_; (with_reducible refine (marigraphref1_New.calls kj3 (wrap64 (a1_0 * a2_0)) (wrap64 (a1_1 * a2_1)) t274 t275 t276 _ A62.out).mono ?_); rintro e w68 ⟨rfl, hb⟩; refine ⟨_, rfl, ?_⟩; have n0_ := Aside0.mk (bkB BK263.out hb); have n1_ := Aside0.mk (bkB BK264.out hb); have n2_ := Aside0.mk (bkB BK265.out hb); have n3_ := Aside0.mk (below_step (belS HB.out) hb); clear BK263; clear BK264; clear BK265; clear HB; have BK263 := n0_; have BK264 := n1_; have BK265 := n2_; have HB := n3_; clear n0_ n1_ n2_ n3_; (try clear hb); have hcz69_0 : w68.cell? ⟨gb265, 0, none⟩ = some (.int .i64 0) := (blk_cell BK265.out 0).trans rfl; have hcz69_1 : w68.cell? ⟨gb265, 1, none⟩ = some (.int .i64 0) := (blk_cell BK265.out 1).trans rfl; have hfz69_0 := blk_frozen BK265.out 0; have hfz69_1 := blk_frozen BK265.out 1))
       refine bodyPost_ret (results_ct rfl _ _ gb265 29 #[.int .i64 t274, .int .i64 t275] (0, 0) _ rfl (by (with_reducible repeat (first | refine blk_drewN ?_ _ | refine blk_drew ?_ | refine blk_alloc ?_ _)); refine blk_put (cs := #[.int .i64 t274, .int .i64 0]) ?_ 1 _ rfl; (with_reducible repeat (first | refine blk_drewN ?_ _ | refine blk_drew ?_ | refine blk_alloc ?_ _)); refine blk_put (cs := #[.int .i64 0, .int .i64 0]) ?_ 0 _ rfl; (with_reducible repeat (first | refine blk_drewN ?_ _ | refine blk_drew ?_ | refine blk_alloc ?_ _)); exact BK265.out) Try.underlying29 rfl (by kernel_rfl)) rfl ?_
       exact ⟨by first | rfl | (simp [errW_none, errW_some] <;> rfl) | (simp [*, errW_none, errW_some] <;> rfl), (belS HB.out)⟩
      ·rw [if_neg c61] at H
       have c61b0 : (a0 == 42) = false := beq_eq_false_iff_ne.mpr c61
       have c61b1 : (a0 != 42) = true := bne_iff_ne.mpr c61
       replace H := Option.bind_eq_some_iff.mp H
       obtain ⟨⟨t277, t278, t279⟩, A700, H⟩ := H
       replace H : (some (t277, t278, t279)) = some (r1, r2, r3) := H
       have A70 := Aside0.mk A700
       clear A700
       simp only [Option.some.injEq, Prod.mk.injEq] at H
       obtain ⟨rfl, rfl, rfl⟩ := H
       have hnb71 := NB263_264.out
       have hnc71 := NB264_263.out
       have hnb72 := NB263_265.out
       have hnc72 := NB265_263.out
       have hcz73_0 : wc.cell? ⟨gb263, 0, none⟩ = some (.int .i64 a1_0) := (blk_cell BK263.out 0).trans rfl
       have hcz73_1 : wc.cell? ⟨gb263, 1, none⟩ = some (.int .i64 a1_1) := (blk_cell BK263.out 1).trans rfl
       have hfz73_0 := blk_frozen BK263.out 0
       have hfz73_1 := blk_frozen BK263.out 1
       have hnb74 := NB264_265.out
       have hnc74 := NB265_264.out
       have hcz75_0 : wc.cell? ⟨gb264, 0, none⟩ = some (.int .i64 a2_0) := (blk_cell BK264.out 0).trans rfl
       have hcz75_1 : wc.cell? ⟨gb264, 1, none⟩ = some (.int .i64 a2_1) := (blk_cell BK264.out 1).trans rfl
       have hfz75_0 := blk_frozen BK264.out 0
       have hfz75_1 := blk_frozen BK264.out 1
       go_wp2_with (first | ((with_reducible refine gate_callee (f := 27) rfl ?_); refine goesL_ (some 94) rfl rfl Try.func27 (by kernel_rfl) rfl #[.int .i64 (wrap64 (a1_0 * a2_1)), .int .i64 (wrap64 (a1_1 * a2_0))] rfl argN ?_; (with_reducible refine (marigraphref1_New.calls kj3 (wrap64 (a1_0 * a2_1)) (wrap64 (a1_1 * a2_0)) t277 t278 t279 _ A70.out).mono ?_); rintro e w76 ⟨rfl, hb⟩; refine ⟨_, rfl, ?_⟩; have n0_ := Aside0.mk (bkB BK263.out hb); have n1_ := Aside0.mk (bkB BK264.out hb); have n2_ := Aside0.mk (bkB BK265.out hb); have n3_ := Aside0.mk (below_step (belS HB.out) hb); clear BK263; clear BK264; clear BK265; clear HB; have BK263 := n0_; have BK264 := n1_; have BK265 := n2_; have HB := n3_; clear n0_ n1_ n2_ n3_; (try clear hb); have hcz77_0 : w76.cell? ⟨gb265, 0, none⟩ = some (.int .i64 0) := (blk_cell BK265.out 0).trans rfl; have hcz77_1 : w76.cell? ⟨gb265, 1, none⟩ = some (.int .i64 0) := (blk_cell BK265.out 1).trans rfl; have hfz77_0 := blk_frozen BK265.out 0; have hfz77_1 := blk_frozen BK265.out 1))
       refine bodyPost_ret (results_ct rfl _ _ gb265 29 #[.int .i64 t277, .int .i64 t278] (0, 0) _ rfl (by (with_reducible repeat (first | refine blk_drewN ?_ _ | refine blk_drew ?_ | refine blk_alloc ?_ _)); refine blk_put (cs := #[.int .i64 t277, .int .i64 0]) ?_ 1 _ rfl; (with_reducible repeat (first | refine blk_drewN ?_ _ | refine blk_drew ?_ | refine blk_alloc ?_ _)); refine blk_put (cs := #[.int .i64 0, .int .i64 0]) ?_ 0 _ rfl; (with_reducible repeat (first | refine blk_drewN ?_ _ | refine blk_drew ?_ | refine blk_alloc ?_ _)); exact BK265.out) Try.underlying29 rfl (by kernel_rfl)) rfl ?_
       exact ⟨by first | rfl | (simp [errW_none, errW_some] <;> rfl) | (simp [*, errW_none, errW_some] <;> rfl), (belS HB.out)⟩

end Go.Proofs.Ytlmhgjnlbokceaa.PDownTells

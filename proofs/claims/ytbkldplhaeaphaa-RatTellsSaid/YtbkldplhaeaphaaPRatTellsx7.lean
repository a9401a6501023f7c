/- The walk of the Go functions that a law reaches, told as plain functions; a program of this session has written it. No condition beyond the statement's own. -/
import Derived.Test.YtbkldplhaeaphaaPRatTellsx0
import Derived.Test.YtbkldplhaeaphaaPRatTellsx1
import Derived.Test.YtbkldplhaeaphaaPRatTellsx2
import Derived.Test.YtbkldplhaeaphaaPRatTellsx3
import Derived.Test.YtbkldplhaeaphaaPRatTellsx4
import Derived.Test.YtbkldplhaeaphaaPRatTellsx5
import Derived.Test.YtbkldplhaeaphaaPRatTellsx6
namespace Go.Proofs.Ytbkldplhaeaphaa.PRatTells
open Go.RowKit Go.Proofs.YtbkldplhaeaphaaW.PrintWords Go.Proofs.YtbkldplhaeaphaaW.PrintLast Go.Proofs.YtbkldplhaeaphaaW.PrintMore
attribute [local go_sem] max2_int min2_int max_two min_two max_three min_three max_four min_four   -- for this text's walks alone
set_option linter.unusedVariables false
set_option linter.unusedSimpArgs false

/-! ### marigraphref1_Cmp: function 20 -/
def marigraphref1_Cmp.j0 : Nat → Bool → Bool → Bool → Int → Int → Int → Int → Option (Int)
 | 0, _, _, _, _, _, _, _ => none
 | k + 1, x5, x6, x11, x227000, x227001, x228000, x228001 => if x11 = true then (some 0) else (if x5 = true then (if x6 = true then (if (wrap64 (x227000 * x228001)) < (wrap64 (x228000 * x227001)) then (some (-1)) else (if (wrap64 (x227000 * x228001)) > (wrap64 (x228000 * x227001)) then (some 1) else (some 0))) else (some 1)) else (some (-1)))
def marigraphref1_Cmp.f (k : Nat) (a0_0 : Int) (a0_1 : Int) (a1_0 : Int) (a1_1 : Int) : Option (Int) := (marigraphref1_Right.f k a0_0 a0_1).bind fun t228 => ((marigraphref1_Right.f k a1_0 a1_1).bind fun t229 => (if t228 = true then (marigraphref1_Cmp.j0 k t228 t229 false a0_0 a0_1 a1_0 a1_1) else (marigraphref1_Cmp.j0 k t228 t229 (!t229) a0_0 a0_1 a1_0 a1_1)))
theorem marigraphref1_Cmp.mono_l : ∀ k, (∀ y0 y1 y2 y3 y4 y5 y6, LeO (marigraphref1_Cmp.j0 k y0 y1 y2 y3 y4 y5 y6) (marigraphref1_Cmp.j0 (k + 1) y0 y1 y2 y3 y4 y5 y6))
 | 0 => fun _ _ _ _ _ _ _ r h => by simp [marigraphref1_Cmp.j0] at h
 | k + 1 => by
  have ih0 := marigraphref1_Cmp.mono_l k
  ·intro y0 y1 y2 y3 y4 y5 y6
   unfold marigraphref1_Cmp.j0
   repeat' first
   | (with_reducible exact ih0 _ _ _ _ _ _ _)
   | (with_reducible exact marigraphref1_Right.mono _ _ _)
   | (with_reducible exact LeO.refl _)
   | (with_reducible exact LeO.none _)
   | (with_reducible refine LeO.ite ?_ ?_)
   | (with_reducible refine LeO.bind ?_ (fun _ => ?_))
   | exact ih0 _ _ _ _ _ _ _
   | exact marigraphref1_Right.mono _ _ _
   | exact LeO.none _
   | refine LeO.ite ?_ ?_
   | refine LeO.bind ?_ (fun _ => ?_)
theorem marigraphref1_Cmp.mono : ∀ a0 a1 a2 a3 k, LeO (marigraphref1_Cmp.f k a0 a1 a2 a3) (marigraphref1_Cmp.f (k + 1) a0 a1 a2 a3) := by
 intro a0 a1 a2 a3 k
 have ih0 := marigraphref1_Cmp.mono_l k
 unfold marigraphref1_Cmp.f
 repeat' first
   | (with_reducible exact ih0 _ _ _ _ _ _ _)
   | (with_reducible exact marigraphref1_Right.mono _ _ _)
   | (with_reducible exact LeO.refl _)
   | (with_reducible exact LeO.none _)
   | (with_reducible refine LeO.ite ?_ ?_)
   | (with_reducible refine LeO.bind ?_ (fun _ => ?_))
   | exact ih0 _ _ _ _ _ _ _
   | exact marigraphref1_Right.mono _ _ _
   | exact LeO.none _
   | refine LeO.ite ?_ ?_
   | refine LeO.bind ?_ (fun _ => ?_)
set_option maxHeartbeats 8000000 in
set_option maxRecDepth 100000 in
theorem marigraphref1_Cmp.calls (k : Nat) (a0_0 : Int) (a0_1 : Int) (a1_0 : Int) (a1_1 : Int) (r : Int) (w : World) (h : marigraphref1_Cmp.f k a0_0 a0_1 a1_0 a1_1 = some r) :
  Calls Try.prog 20 #[.agg #[.int .i64 a0_0, .int .i64 a0_1], .agg #[.int .i64 a1_0, .int .i64 a1_1]] w fun e w' => e = .returned (.int .i64 r) ∧ Below w.heap.size w w' := by
 have hu23 := Try.underlying23
 have HB := Aside0.mk (Below.refl w.heap.size w)
 have H : ((marigraphref1_Right.f k a0_0 a0_1).bind fun t228 => ((marigraphref1_Right.f k a1_0 a1_1).bind fun t229 => (if t228 = true then (marigraphref1_Cmp.j0 k t228 t229 false a0_0 a0_1 a1_0 a1_1) else (marigraphref1_Cmp.j0 k t228 t229 (!t229) a0_0 a0_1 a1_0 a1_1)))) = some r := h
 clear h
 replace H := Option.bind_eq_some_iff.mp H
 obtain ⟨t228, A30, H⟩ := H
 replace H : ((marigraphref1_Right.f k a1_0 a1_1).bind fun t229 => (if t228 = true then (marigraphref1_Cmp.j0 k t228 t229 false a0_0 a0_1 a1_0 a1_1) else (marigraphref1_Cmp.j0 k t228 t229 (!t229) a0_0 a0_1 a1_0 a1_1))) = some r := H
 have A3 := Aside0.mk A30
 clear A30
 replace H := Option.bind_eq_some_iff.mp H
 obtain ⟨t229, A40, H⟩ := H
 replace H : (if t228 = true then (marigraphref1_Cmp.j0 k t228 t229 false a0_0 a0_1 a1_0 a1_1) else (marigraphref1_Cmp.j0 k t228 t229 (!t229) a0_0 a0_1 a1_0 a1_1)) = some r := H
 have A4 := Aside0.mk A40
 clear A40
 have HC5 := Aside0.mk H
 clear H
 go_enter Try.func20, Try.ntmps20
 try go_wp2_with (first | ((with_reducible refine gate_dst (N := 2) rfl ?_); refine box_event ?hg (N := 2) ?hd (cs := #[.int .i64 a0_0, .int .i64 a0_1]) (t := 23) ?hr ?_; (case hd => rfl); (case hg => rfl); (case hr => first | (go_simp; done) | (go_simp; rfl)); intro gb226 hg w6 hbox hb; have n0_ := Aside0.mk (below_step (belN HB.out) hb); have n1_ := Aside0.mk (hbox); have n2_ := Aside0.mk (szB hg HB.out); have n3_ := Aside0.mk (szB hg HB.out); clear HB; have HB := n0_; have BK226 := n1_; have GW226 := n2_; have GE226 := n3_; clear n0_ n1_ n2_ n3_; clear hb hbox hg) | ((with_reducible refine gate_dst (N := 3) rfl ?_); refine box_event ?hg (N := 3) ?hd (cs := #[.int .i64 a1_0, .int .i64 a1_1]) (t := 23) ?hr ?_; (case hd => rfl); (case hg => rfl); (case hr => first | (go_simp; done) | (go_simp; rfl)); intro gb227 hg w7 hbox hb; have n0_ := Aside0.mk (bkB BK226.out hb); have n1_ := Aside0.mk (below_step (belS HB.out) hb); have n2_ := Aside0.mk (hbox); have n3_ := Aside0.mk (szB hg HB.out); have n4_ := Aside0.mk (szB hg HB.out); have n5_ := Aside0.mk ((bk1 hg BK226.out)); have n6_ := Aside0.mk ((bk2 hg BK226.out)); clear BK226; clear HB; have BK226 := n0_; have HB := n1_; have BK227 := n2_; have GW227 := n3_; have GE227 := n4_; have NB226_227 := n5_; have NB227_226 := n6_; clear n0_ n1_ n2_ n3_ n4_ n5_ n6_; clear hb hbox hg))
 have n0_ := Aside0.mk (blk_drew BK226.out)
 have n1_ := Aside0.mk (blk_drew BK227.out)
 have n2_ := Aside0.mk (below_drew1 HB.out)
 clear BK226
 clear BK227
 clear HB
 have BK226 := n0_
 have BK227 := n1_
 have HB := n2_
 clear n0_ n1_ n2_
 refine start_ (n := 6) (S := fun w' => w'.cell? ⟨gb226, 0, none⟩ = some (.int .i64 a0_0) ∧ w'.cell? ⟨gb226, 1, none⟩ = some (.int .i64 a0_1) ∧ w'.cell? ⟨gb227, 0, none⟩ = some (.int .i64 a1_0) ∧ w'.cell? ⟨gb227, 1, none⟩ = some (.int .i64 a1_1)) (ds := []) #[false, false, false, false, false, false] (by kernel_rfl) rfl rfl ⟨(blk_cell BK226.out 0).trans rfl, (blk_cell BK226.out 1).trans rfl, (blk_cell BK227.out 0).trans rfl, (blk_cell BK227.out 1).trans rfl⟩ (fun hHeld => ?_)
 generalize w7.drew = w8 at BK226 BK227 HB hHeld ⊢
 refine take_ (i := 0) (N := some 7) (v := ?_) (a' := ?_) (bA 6 1) rfl rfl (by kernel_rfl) (fun _ _ _ h => h) (Or.inl ⟨by rfl, ?_⟩) hHeld ?_ ?_
 rotate_left
 ·rintro w' ⟨s0, s1, s2, s3⟩
  go_simp
  with_reducible rfl
 rotate_left
 ·simp only [Act.put, List.setIfInBounds_toArray, List.set_cons_zero, List.set_cons_succ, i64_w, i32_w]
  rfl
 refine take_ (i := 2) (N := some 9) (v := ?_) (a' := ?_) (bA 6 5) rfl rfl (by kernel_rfl) (fun _ _ _ h => h) (Or.inl ⟨by rfl, ?_⟩) hHeld ?_ ?_
 rotate_left
 ·rintro w' ⟨s0, s1, s2, s3⟩
  go_simp
  with_reducible rfl
 rotate_left
 ·simp only [Act.put, List.setIfInBounds_toArray, List.set_cons_zero, List.set_cons_succ, i64_w, i32_w]
  rfl
 refine one_ (i := 1) (N := some 8) (bA 6 7) rfl rfl (by kernel_rfl) (by decide) (fun K hK => ?_)
 refine goes_ Try.func22 (by kernel_rfl) rfl #[.agg #[.int .i64 a0_0, .int .i64 a0_1]] (by rfl) rfl rfl argN ?_
 with_reducible refine (marigraphref1_Right.calls k a0_0 a0_1 t228 _ A3.out).mono ?_
 rintro e w9 ⟨rfl, hb⟩
 refine ⟨_, rfl, ?_⟩
 have n0_ := Aside0.mk (bkB BK226.out hb)
 have n1_ := Aside0.mk (bkB BK227.out hb)
 have n2_ := Aside0.mk (below_step (belS HB.out) hb)
 clear BK226
 clear BK227
 clear HB
 have BK226 := n0_
 have BK227 := n1_
 have HB := n2_
 clear n0_ n1_ n2_
 (try clear hb)
 refine hK.out _ _ ⟨(blk_cell BK226.out 0).trans rfl, (blk_cell BK226.out 1).trans rfl, (blk_cell BK227.out 0).trans rfl, (blk_cell BK227.out 1).trans rfl⟩ (fun hHeld => ?_)
 clear hK K
 refine norm_ (a' := ?_) ?_ ?_
 rotate_left
 ·show Act.put _ (some 8) _ = _
  simp only [Act.put, List.setIfInBounds_toArray, List.set_cons_zero, List.set_cons_succ, i64_w, i32_w]
  rfl
 refine one_ (i := 3) (N := some 10) (bA 6 15) rfl rfl (by kernel_rfl) (by decide) (fun K hK => ?_)
 refine goes_ Try.func22 (by kernel_rfl) rfl #[.agg #[.int .i64 a1_0, .int .i64 a1_1]] (by rfl) rfl rfl argN ?_
 with_reducible refine (marigraphref1_Right.calls k a1_0 a1_1 t229 _ A4.out).mono ?_
 rintro e w10 ⟨rfl, hb⟩
 refine ⟨_, rfl, ?_⟩
 have n0_ := Aside0.mk (bkB BK226.out hb)
 have n1_ := Aside0.mk (bkB BK227.out hb)
 have n2_ := Aside0.mk (below_step (belS HB.out) hb)
 clear BK226
 clear BK227
 clear HB
 have BK226 := n0_
 have BK227 := n1_
 have HB := n2_
 clear n0_ n1_ n2_
 (try clear hb)
 refine hK.out _ _ ⟨(blk_cell BK226.out 0).trans rfl, (blk_cell BK226.out 1).trans rfl, (blk_cell BK227.out 0).trans rfl, (blk_cell BK227.out 1).trans rfl⟩ (fun hHeld => ?_)
 clear hK K
 refine norm_ (a' := ?_) ?_ ?_
 rotate_left
 ·show Act.put _ (some 10) _ = _
  simp only [Act.put, List.setIfInBounds_toArray, List.set_cons_zero, List.set_cons_succ, i64_w, i32_w]
  rfl
 refine pure_ (i := 4) (N := some 5) (v := ?_) (a' := ?_) (bA 6 31) rfl rfl (by kernel_rfl) (fun _ _ _ h => h) (Or.inl ⟨by rfl, ?_⟩) ?_ ?_
 rotate_left
 ·intro w'
  go_simp
  with_reducible rfl
 rotate_left
 ·simp only [Act.put, List.setIfInBounds_toArray, List.set_cons_zero, List.set_cons_succ, i64_w, i32_w]
  rfl
 refine pure_ (i := 5) (N := some 6) (v := ?_) (a' := ?_) (bA 6 63) rfl rfl (by kernel_rfl) (fun _ _ _ h => h) (Or.inl ⟨by rfl, ?_⟩) ?_ ?_
 rotate_left
 ·intro w'
  go_simp
  with_reducible rfl
 rotate_left
 ·simp only [Act.put, List.setIfInBounds_toArray, List.set_cons_zero, List.set_cons_succ, i64_w, i32_w]
  rfl
 refine done_ (by kernel_rfl) ?_
 go_upto_region 2 with (fail)
 go_cut [11] (fun v11 wc => ∃ (kq : Nat) (x11_4 : Bool), v11 = .bool x11_4 ∧ Aside0 (marigraphref1_Cmp.j0 kq t228 t229 x11_4 a0_0 a0_1 a1_0 a1_1 = some r) ∧ Aside0 (kq ≤ k) ∧ Aside0 (wc.heap[gb226]? = some (.cells #[.int .i64 a0_0, .int .i64 a0_1] 23 (0, 0))) ∧ Aside0 (wc.heap[gb227]? = some (.cells #[.int .i64 a1_0, .int .i64 a1_1] 23 (0, 0))) ∧ Aside0 (Below w.heap.size w wc))
 case first =>
  have H := HC5.out
  clear HC5
  by_cases c11 : t228 = true
  ·subst c11
   have H1 : (marigraphref1_Cmp.j0 k true t229 false a0_0 a0_1 a1_0 a1_1) = some r := by rw [if_pos rfl] at H; exact H
   clear H
   have H := H1
   clear H1
   have H' := Aside0.mk H
   clear H
   go_wp2
   go_meet
   case rel => exact ⟨_, (false), (by first | rfl | (simp; done) | (simp [*]; done)), H', ⟨by first | omega | exact Nat.le_refl _⟩, ⟨blkN BK226.out⟩, ⟨blkN BK227.out⟩, ⟨(belS HB.out)⟩⟩
  ·replace c11 := Bool.eq_false_iff.mpr c11
   subst c11
   have H1 : (marigraphref1_Cmp.j0 k false t229 (!t229) a0_0 a0_1 a1_0 a1_1) = some r := by rw [if_neg (show ¬ (false = true) by decide)] at H; exact H
   clear H
   have H := H1
   clear H1
   have H' := Aside0.mk H
   clear H
   go_wp2
   go_meet
   case rel => exact ⟨_, (!t229), (by first | rfl | (simp; done) | (simp [*]; done)), H', ⟨by first | omega | exact Nat.le_refl _⟩, ⟨blkN BK226.out⟩, ⟨blkN BK227.out⟩, ⟨(belS HB.out)⟩⟩
 case rest =>
  clear HC5
  try clear c1
  try clear c2
  try clear p2
  try clear c11
  obtain ⟨kq, x11_4, rfl, HA, HJ4, BK226, BK227, HB⟩ := hcut
  cases kq with
  | zero => exact absurd HA.out (by simp [marigraphref1_Cmp.j0])
  | succ kj4 =>
   have H := HA.out
   clear HA
   simp only [marigraphref1_Cmp.j0] at H
   by_cases c12 : x11_4 = true
   ·subst c12
    have H1 : (some 0) = some r := by rw [if_pos rfl] at H; exact H
    clear H
    have H := H1
    clear H1
    obtain rfl := Option.some.inj H
    go_wp2
    go_ret
    exact ⟨by first | rfl | (simp [errW_none, errW_some] <;> rfl) | (simp [*, errW_none, errW_some] <;> rfl), (belS HB.out)⟩
   ·replace c12 := Bool.eq_false_iff.mpr c12
    subst c12
    have H1 : (if t228 = true then (if t229 = true then (if (wrap64 (a0_0 * a1_1)) < (wrap64 (a1_0 * a0_1)) then (some (-1)) else (if (wrap64 (a0_0 * a1_1)) > (wrap64 (a1_0 * a0_1)) then (some 1) else (some 0))) else (some 1)) else (some (-1))) = some r := by rw [if_neg (show ¬ (false = true) by decide)] at H; exact H
    clear H
    have H := H1
    clear H1
    by_cases c13 : t228 = true
    ·subst c13
     have H1 : (if t229 = true then (if (wrap64 (a0_0 * a1_1)) < (wrap64 (a1_0 * a0_1)) then (some (-1)) else (if (wrap64 (a0_0 * a1_1)) > (wrap64 (a1_0 * a0_1)) then (some 1) else (some 0))) else (some 1)) = some r := by rw [if_pos rfl] at H; exact H
     clear H
     have H := H1
     clear H1
     by_cases c14 : t229 = true
     ·subst c14
      have H1 : (if (wrap64 (a0_0 * a1_1)) < (wrap64 (a1_0 * a0_1)) then (some (-1)) else (if (wrap64 (a0_0 * a1_1)) > (wrap64 (a1_0 * a0_1)) then (some 1) else (some 0))) = some r := by rw [if_pos rfl] at H; exact H
      clear H
      have H := H1
      clear H1
      by_cases c15 : (wrap64 (a0_0 * a1_1)) < (wrap64 (a1_0 * a0_1))
      ·rw [if_pos c15] at H
       have c15b0 : decide ((wrap64 (a0_0 * a1_1)) < (wrap64 (a1_0 * a0_1))) = true := decide_eq_true c15
       clear c15
       obtain rfl := Option.some.inj H
       have hnb16 := NB226_227.out
       have hnc16 := NB227_226.out
       have hcz17_0 : wc.cell? ⟨gb226, 0, none⟩ = some (.int .i64 a0_0) := (blk_cell BK226.out 0).trans rfl
       have hcz17_1 : wc.cell? ⟨gb226, 1, none⟩ = some (.int .i64 a0_1) := (blk_cell BK226.out 1).trans rfl
       have hfz17_0 := blk_frozen BK226.out 0
       have hfz17_1 := blk_frozen BK226.out 1
       have hcz18_0 : wc.cell? ⟨gb227, 0, none⟩ = some (.int .i64 a1_0) := (blk_cell BK227.out 0).trans rfl
       have hcz18_1 : wc.cell? ⟨gb227, 1, none⟩ = some (.int .i64 a1_1) := (blk_cell BK227.out 1).trans rfl
       have hfz18_0 := blk_frozen BK227.out 0
       have hfz18_1 := blk_frozen BK227.out 1
       go_wp2
       go_ret
       exact ⟨by first | rfl | (simp [errW_none, errW_some] <;> rfl) | (simp [*, errW_none, errW_some] <;> rfl), (belS HB.out)⟩
      ·rw [if_neg c15] at H
       have c15b0 : decide ((wrap64 (a0_0 * a1_1)) < (wrap64 (a1_0 * a0_1))) = false := decide_eq_false c15
       clear c15
       by_cases c19 : (wrap64 (a0_0 * a1_1)) > (wrap64 (a1_0 * a0_1))
       ·rw [if_pos c19] at H
        have c19b0 : decide ((wrap64 (a1_0 * a0_1)) < (wrap64 (a0_0 * a1_1))) = true := decide_eq_true c19
        clear c19
        obtain rfl := Option.some.inj H
        have hnb20 := NB226_227.out
        have hnc20 := NB227_226.out
        have hcz21_0 : wc.cell? ⟨gb226, 0, none⟩ = some (.int .i64 a0_0) := (blk_cell BK226.out 0).trans rfl
        have hcz21_1 : wc.cell? ⟨gb226, 1, none⟩ = some (.int .i64 a0_1) := (blk_cell BK226.out 1).trans rfl
        have hfz21_0 := blk_frozen BK226.out 0
        have hfz21_1 := blk_frozen BK226.out 1
        have hcz22_0 : wc.cell? ⟨gb227, 0, none⟩ = some (.int .i64 a1_0) := (blk_cell BK227.out 0).trans rfl
        have hcz22_1 : wc.cell? ⟨gb227, 1, none⟩ = some (.int .i64 a1_1) := (blk_cell BK227.out 1).trans rfl
        have hfz22_0 := blk_frozen BK227.out 0
        have hfz22_1 := blk_frozen BK227.out 1
        go_wp2
        go_ret
        exact ⟨by first | rfl | (simp [errW_none, errW_some] <;> rfl) | (simp [*, errW_none, errW_some] <;> rfl), (belS HB.out)⟩
       ·rw [if_neg c19] at H
        have c19b0 : decide ((wrap64 (a1_0 * a0_1)) < (wrap64 (a0_0 * a1_1))) = false := decide_eq_false c19
        clear c19
        obtain rfl := Option.some.inj H
        have hnb23 := NB226_227.out
        have hnc23 := NB227_226.out
        have hcz24_0 : wc.cell? ⟨gb226, 0, none⟩ = some (.int .i64 a0_0) := (blk_cell BK226.out 0).trans rfl
        have hcz24_1 : wc.cell? ⟨gb226, 1, none⟩ = some (.int .i64 a0_1) := (blk_cell BK226.out 1).trans rfl
        have hfz24_0 := blk_frozen BK226.out 0
        have hfz24_1 := blk_frozen BK226.out 1
        have hcz25_0 : wc.cell? ⟨gb227, 0, none⟩ = some (.int .i64 a1_0) := (blk_cell BK227.out 0).trans rfl
        have hcz25_1 : wc.cell? ⟨gb227, 1, none⟩ = some (.int .i64 a1_1) := (blk_cell BK227.out 1).trans rfl
        have hfz25_0 := blk_frozen BK227.out 0
        have hfz25_1 := blk_frozen BK227.out 1
        go_wp2
        go_ret
        exact ⟨by first | rfl | (simp [errW_none, errW_some] <;> rfl) | (simp [*, errW_none, errW_some] <;> rfl), (belS HB.out)⟩
     ·replace c14 := Bool.eq_false_iff.mpr c14
      subst c14
      have H1 : (some 1) = some r := by rw [if_neg (show ¬ (false = true) by decide)] at H; exact H
      clear H
      have H := H1
      clear H1
      obtain rfl := Option.some.inj H
      go_wp2
      go_ret
      exact ⟨by first | rfl | (simp [errW_none, errW_some] <;> rfl) | (simp [*, errW_none, errW_some] <;> rfl), (belS HB.out)⟩
    ·replace c13 := Bool.eq_false_iff.mpr c13
     subst c13
     have H1 : (some (-1)) = some r := by rw [if_neg (show ¬ (false = true) by decide)] at H; exact H
     clear H
     have H := H1
     clear H1
     obtain rfl := Option.some.inj H
     go_wp2
     go_ret
     exact ⟨by first | rfl | (simp [errW_none, errW_some] <;> rfl) | (simp [*, errW_none, errW_some] <;> rfl), (belS HB.out)⟩

/-! ### rat_digits: function 41 -/
def rat_digits.l0 : Nat → Int → List Int → Option (ByteArray)
 | 0, _, _ => none
 | k + 1, x0, x3 => (some (([(wrap64 (48 + (Int.tmod x0 10))) % 256] : List Int) : List Int)).bind fun y230 => (if y230.length + x3.length < 140737488355328 then ((some (y230 ++ x3 : List Int)).bind fun y233 => (if (wrap64 (Int.tdiv x0 10)) = 0 then (some (strOfNums y233)) else (rat_digits.l0 k (wrap64 (Int.tdiv x0 10)) y233))) else (none))
def rat_digits.f (k : Nat) (a0 : Int) : Option (ByteArray) := rat_digits.l0 k a0 ([] : List Int)
theorem rat_digits.mono_l : ∀ k, (∀ y0 y1, LeO (rat_digits.l0 k y0 y1) (rat_digits.l0 (k + 1) y0 y1))
 | 0 => fun _ _ r h => by simp [rat_digits.l0] at h
 | k + 1 => by
  have ih0 := rat_digits.mono_l k
  ·intro y0 y1
   unfold rat_digits.l0
   repeat' first
   | (with_reducible exact ih0 _ _)
   | (with_reducible exact LeO.refl _)
   | (with_reducible exact LeO.none _)
   | (with_reducible refine LeO.ite ?_ ?_)
   | (with_reducible refine LeO.bind ?_ (fun _ => ?_))
   | exact ih0 _ _
   | exact LeO.none _
   | refine LeO.ite ?_ ?_
   | refine LeO.bind ?_ (fun _ => ?_)
theorem rat_digits.mono : ∀ a0 k, LeO (rat_digits.f k a0) (rat_digits.f (k + 1) a0) := by
 intro a0 k
 have ih0 := rat_digits.mono_l k
 unfold rat_digits.f
 repeat' first
   | (with_reducible exact ih0 _ _)
   | (with_reducible exact LeO.refl _)
   | (with_reducible exact LeO.none _)
   | (with_reducible refine LeO.ite ?_ ?_)
   | (with_reducible refine LeO.bind ?_ (fun _ => ?_))
   | exact ih0 _ _
   | exact LeO.none _
   | refine LeO.ite ?_ ?_
   | refine LeO.bind ?_ (fun _ => ?_)
set_option maxHeartbeats 8000000 in
set_option maxRecDepth 100000 in
theorem rat_digits.calls (k : Nat) (a0 : Int) (r : ByteArray) (w : World) (h : rat_digits.f k a0 = some r) :
  Calls Try.prog 41 #[.int .i64 a0] w fun e w' => e = .returned (.string r) ∧ Below w.heap.size w w' := by
 have HB := Aside0.mk (Below.refl w.heap.size w)
 have H : (rat_digits.l0 k a0 ([] : List Int)) = some r := h
 clear h
 have H' := Aside0.mk H
 clear H
 go_enter Try.func41, Try.ntmps41
 go_wp2
 go_loopg [0, 3] k (fun kq v0 v3 w' => ∃ (x0_1 : Int) (x3_1 : List Int), v0 = .int .i64 x0_1 ∧ Aside0 (rat_digits.l0 kq x0_1 x3_1 = some r) ∧ Aside0 (kq ≤ k) ∧ Aside0 (Kd.R (Kd.int .u8) 5 w' w.heap.size (fun _ => True) v3 x3_1) ∧ Aside0 (Below w.heap.size w w'))
 case atStart => exact ⟨(a0), (([] : List Int)), (by first | rfl | (simp; done) | (simp [*]; done)), H', ⟨Nat.le_refl _⟩, ⟨by first | exact Kd.R_nil _ _ _ _ _ | exact Kd.N_nil _ _ _ _ _ | exact Kd.V_nil _ _ _ _ _ | exact Kd.Q_nil _ _ _ _ _ | exact Kd.S_nil _ _ _ _ _⟩, ⟨(belN HB.out)⟩⟩
 case round =>
  clear H'
  obtain ⟨x0_1, x3_1, rfl, HA, HK1, HO_3, HB⟩ := hrel
  cases gk with
  | zero => exact absurd HA.out (by simp [rat_digits.l0])
  | succ k1 =>
   have H := HA.out
   clear HA
   simp only [rat_digits.l0] at H
   obtain ⟨y230, hy230⟩ : ∃ y_ : List Int, y_ = (([(wrap64 (48 + (Int.tmod x0_1 10))) % 256] : List Int)) := ⟨_, rfl⟩
   replace H : (if y230.length + x3_1.length < 140737488355328 then ((some (y230 ++ x3_1 : List Int)).bind fun y233 => (if (wrap64 (Int.tdiv x0_1 10)) = 0 then (some (strOfNums y233)) else (rat_digits.l0 k1 (wrap64 (Int.tdiv x0_1 10)) y233))) else (none)) = some r := by first | (rw [hy230]; with_reducible exact H) | (have H2_ := (Option.bind_some _ _).symm.trans H; rw [hy230]; with_reducible exact H2_) | (have H2_ := (Option.bind_some _ _).symm.trans H; with_reducible exact H2_) | with_reducible exact H | (rw [hy230]; exact H) | exact H
   have Ny230 := Aside0.mk hy230
   clear hy230
   by_cases c2 : y230.length + x3_1.length < 140737488355328
   ·rw [if_pos c2] at H
    have LMc2 := Aside0.mk c2
    clear c2
    obtain ⟨y233, hy233⟩ : ∃ y_ : List Int, y_ = (y230 ++ x3_1) := ⟨_, rfl⟩
    replace H : (if (wrap64 (Int.tdiv x0_1 10)) = 0 then (some (strOfNums y233)) else (rat_digits.l0 k1 (wrap64 (Int.tdiv x0_1 10)) y233)) = some r := by first | (rw [hy233]; with_reducible exact H) | (have H2_ := (Option.bind_some _ _).symm.trans H; rw [hy233]; with_reducible exact H2_) | (have H2_ := (Option.bind_some _ _).symm.trans H; with_reducible exact H2_) | with_reducible exact H | (rw [hy233]; exact H) | exact H
    have Ny233 := Aside0.mk hy233
    clear hy233
    by_cases c3 : (wrap64 (Int.tdiv x0_1 10)) = 0
    ·rw [if_pos c3] at H
     have c3b0 : ((wrap64 (Int.tdiv x0_1 10)) == 0) = true := beq_iff_eq.mpr c3
     have c3b1 : ((wrap64 (Int.tdiv x0_1 10)) != 0) = false := bne_eq_false_iff_eq.mpr c3
     clear c3
     obtain rfl := Option.some.inj H
     go_wp2_with (first | ((with_reducible refine gate_dst (N := 8) rfl ?_); refine Kd.R_lit (Kd.int .u8) _ 5 ?hg (N := 8) ?hd (xs := ([(wrap64 (48 + (Int.tmod x0_1 10))) % 256] : List Int)) (inner := [.int .u8 ((wrap64 (48 + (Int.tmod x0_1 10))) % 256)]) (ok := fun _ => True) (okp := fun _ => True) ?hr ?hp (fun _ hk => hk) trivial (Below.refl _ _) (Nat.le_refl _) (by simp) ?_; (case hd => rfl); (case hg => rfl); (case hr => first | (go_simp; done) | (go_simp; rfl)); (case hp => exact (Reps.one (show Kd.M (Kd.int .u8) _ _ _ ((wrap64 (48 + (Int.tmod x0_1 10))) % 256) [.int .u8 ((wrap64 (48 + (Int.tmod x0_1 10))) % 256)] from rfl) (Reps.none _ _))); intro v231 w4 ho5 hb hg_ hnew_; clear hg_ hnew_; (first | rw [← Ny230.out] at ho5 | (simp only [Int.reduceToNat] at ho5; rw [← Ny230.out] at ho5)); have n0_ := Aside0.mk (Kd.R_elder' (rowN HO_3.out) (Kd.R_base ho5) hb); have n1_ := Aside0.mk (Kd.R_lower (Kd.R_new' ho5 (Kd.R_lt (rowN HO_3.out))) (below_size (belN HB.out))); have n2_ := Aside0.mk (below_step (belN HB.out) hb); clear HO_3; clear HB; have HO_3 := n0_; have HO232 := n1_; have HB := n2_; clear n0_ n1_ n2_; clear hb ho5; obtain ⟨Ao7, co7, eo7⟩ := Kd.R_slice HO_3.out; subst eo7) | ((with_reducible refine gate_builtin (b := .append) (xs := #[.tmp 8, .tmp 9]) rfl ?_); at_builtin; refine Kd.R_append_rows (Kd.int .u8) (w0 := w) w.heap.size rfl (.tmp 8) (.tmp 9) 61 5 (.int .u8 0) 1 rfl Try.underlying61 info5 rfl (by decide) (by omega) v231 y230 x3_1 _ _ _ (fun k_ => some k_ ≠ (.slice Ao7 x3_1.length co7 : Value).ownBlock) (fun _ => False) rfl rfl ?aO ?aR (fun _ _ h => h) (fun _ h => h.elim) ?aF ?aB ?aS ?aL ?_; (case aR => repeat (first | exact (Kd.R_reads' HO_3.out).2.2 | (with_reducible refine Kd.C_alloc ?_ _) | (with_reducible refine Kd.C_drewN ?_ _) | (with_reducible refine Kd.C_drew ?_))); (case aB => exact (belN HB.out)); (case aF => exact (fun k_ hk => Kd.fresh' (Kd.R_lt (rowN HO_3.out)) k_ hk)); (case aO => exact (by (with_reducible repeat (first | apply Kd.R_alloc | apply Kd.R_drewN | apply Kd.R_drew)); exact Kd.R_mono HO232.out (fun _ hk => hk.2))); (case aS => exact (below_size (belN HB.out))); (case aL => have := LMc2.out; omega); intro v234 w6 ho hb hg hat; rw [← Ny233.out] at ho; have n0_ := Aside0.mk (Kd.R_after (ok := (fun _ => True)) (rowN HO_3.out) hg hat); have n1_ := Aside0.mk (hb); have n2_ := Aside0.mk (ho); clear HO_3; clear HB; clear HO232; have HO_3 := n0_; have HB := n1_; have HO235 := n2_; clear n0_ n1_ n2_; clear ho hb hg hat; have hcv8 := own_string (P := Try.prog) Try.underlying61 Try.underlying5 Try.underlying9 (Kd.own_of_R HO235.out)))
     go_ret
     exact ⟨by first | rfl | (simp [errW_none, errW_some] <;> rfl) | (simp [*, errW_none, errW_some] <;> rfl), (belN HB.out)⟩
    ·rw [if_neg c3] at H
     have c3b0 : ((wrap64 (Int.tdiv x0_1 10)) == 0) = false := beq_eq_false_iff_ne.mpr c3
     have c3b1 : ((wrap64 (Int.tdiv x0_1 10)) != 0) = true := bne_iff_ne.mpr c3
     have H' := Aside0.mk H
     clear H
     go_wp2_with (first | ((with_reducible refine gate_dst (N := 8) rfl ?_); refine Kd.R_lit (Kd.int .u8) _ 5 ?hg (N := 8) ?hd (xs := ([(wrap64 (48 + (Int.tmod x0_1 10))) % 256] : List Int)) (inner := [.int .u8 ((wrap64 (48 + (Int.tmod x0_1 10))) % 256)]) (ok := fun _ => True) (okp := fun _ => True) ?hr ?hp (fun _ hk => hk) trivial (Below.refl _ _) (Nat.le_refl _) (by simp) ?_; (case hd => rfl); (case hg => rfl); (case hr => first | (go_simp; done) | (go_simp; rfl)); (case hp => exact (Reps.one (show Kd.M (Kd.int .u8) _ _ _ ((wrap64 (48 + (Int.tmod x0_1 10))) % 256) [.int .u8 ((wrap64 (48 + (Int.tmod x0_1 10))) % 256)] from rfl) (Reps.none _ _))); intro v231 w9 ho10 hb hg_ hnew_; clear hg_ hnew_; (first | rw [← Ny230.out] at ho10 | (simp only [Int.reduceToNat] at ho10; rw [← Ny230.out] at ho10)); have n0_ := Aside0.mk (Kd.R_elder' (rowN HO_3.out) (Kd.R_base ho10) hb); have n1_ := Aside0.mk (Kd.R_lower (Kd.R_new' ho10 (Kd.R_lt (rowN HO_3.out))) (below_size (belN HB.out))); have n2_ := Aside0.mk (below_step (belN HB.out) hb); clear HO_3; clear HB; have HO_3 := n0_; have HO232 := n1_; have HB := n2_; clear n0_ n1_ n2_; clear hb ho10; obtain ⟨Ao12, co12, eo12⟩ := Kd.R_slice HO_3.out; subst eo12) | ((with_reducible refine gate_builtin (b := .append) (xs := #[.tmp 8, .tmp 9]) rfl ?_); at_builtin; refine Kd.R_append_rows (Kd.int .u8) (w0 := w) w.heap.size rfl (.tmp 8) (.tmp 9) 61 5 (.int .u8 0) 1 rfl Try.underlying61 info5 rfl (by decide) (by omega) v231 y230 x3_1 _ _ _ (fun k_ => some k_ ≠ (.slice Ao12 x3_1.length co12 : Value).ownBlock) (fun _ => False) rfl rfl ?aO ?aR (fun _ _ h => h) (fun _ h => h.elim) ?aF ?aB ?aS ?aL ?_; (case aR => repeat (first | exact (Kd.R_reads' HO_3.out).2.2 | (with_reducible refine Kd.C_alloc ?_ _) | (with_reducible refine Kd.C_drewN ?_ _) | (with_reducible refine Kd.C_drew ?_))); (case aB => exact (belN HB.out)); (case aF => exact (fun k_ hk => Kd.fresh' (Kd.R_lt (rowN HO_3.out)) k_ hk)); (case aO => exact (by (with_reducible repeat (first | apply Kd.R_alloc | apply Kd.R_drewN | apply Kd.R_drew)); exact Kd.R_mono HO232.out (fun _ hk => hk.2))); (case aS => exact (below_size (belN HB.out))); (case aL => have := LMc2.out; omega); intro v234 w11 ho hb hg hat; rw [← Ny233.out] at ho; have n0_ := Aside0.mk (Kd.R_after (ok := (fun _ => True)) (rowN HO_3.out) hg hat); have n1_ := Aside0.mk (hb); have n2_ := Aside0.mk (ho); clear HO_3; clear HB; clear HO232; have HO_3 := n0_; have HB := n1_; have HO235 := n2_; clear n0_ n1_ n2_; clear ho hb hg hat))
     go_roundg k1
     case measure => have := HK1.out; omega
     case rel => exact ⟨(wrap64 (Int.tdiv x0_1 10)), (y233), (by first | rfl | (simp; done) | (simp [*]; done)), H', ⟨by have := HK1.out; omega⟩, ⟨by (with_reducible repeat (first | apply Kd.R_alloc | apply Kd.R_drewN | apply Kd.R_drew)); exact Kd.R_mono HO235.out (fun _ hk => trivial)⟩, ⟨(belN HB.out)⟩⟩
   ·rw [if_neg c2] at H
    exact absurd H (by simp)

/-! ### rat_Text: function 23 -/
def rat_Text.f : Nat → Int → Int → Option (ByteArray)
 | 0, _, _ => none
 | k + 1, a0_0, a0_1 => (rat_Right.f k a0_0 a0_1).bind fun t237 => (if t237 = true then (if a0_0 < 0 then ((rat_Text.f k (wrap64 (-a0_0)) a0_1).bind fun t238 => (if 1 + t238.size ≤ 9223372036854775807 then (some ((⟨#[45]⟩ : ByteArray) ++ t238)) else (none))) else (if a0_1 > 1 then ((rat_digits.f k a0_0).bind fun t239 => (if t239.size + 1 ≤ 9223372036854775807 then ((rat_digits.f k a0_1).bind fun t240 => (if (t239 ++ (⟨#[47]⟩ : ByteArray)).size + t240.size ≤ 9223372036854775807 then (some ((t239 ++ (⟨#[47]⟩ : ByteArray)) ++ t240)) else (none))) else (none))) else ((rat_digits.f k a0_0).bind fun t241 => (some t241)))) else (some (⟨#[63]⟩ : ByteArray)))
theorem rat_Text.mono_l : ∀ k, (∀ y0 y1, LeO (rat_Text.f k y0 y1) (rat_Text.f (k + 1) y0 y1))
 | 0 => fun _ _ r h => by simp [rat_Text.f] at h
 | k + 1 => by
  have ih0 := rat_Text.mono_l k
  ·intro y0 y1
   unfold rat_Text.f
   repeat' first
   | (with_reducible exact ih0 _ _)
   | (with_reducible exact rat_Right.mono _ _ _)
   | (with_reducible exact rat_digits.mono _ _)
   | (with_reducible exact LeO.refl _)
   | (with_reducible exact LeO.none _)
   | (with_reducible refine LeO.ite ?_ ?_)
   | (with_reducible refine LeO.bind ?_ (fun _ => ?_))
   | exact ih0 _ _
   | exact rat_Right.mono _ _ _
   | exact rat_digits.mono _ _
   | exact LeO.none _
   | refine LeO.ite ?_ ?_
   | refine LeO.bind ?_ (fun _ => ?_)
theorem rat_Text.mono : ∀ a0 a1 k, LeO (rat_Text.f k a0 a1) (rat_Text.f (k + 1) a0 a1) := by
 intro a0 a1 k
 have ih0 := rat_Text.mono_l k
 exact ih0 a0 a1
def rat_Text.T6 : Bool × List (List Nat × List Nat) := (true, [([], []), ([0], [0]), ([1], [1]), ([2], [2]), ([], []), ([4], [4]), ([5, 2], [5]), ([3, 6], [3, 6]), ([7, 6, 0, 1, 2, 3, 4, 5, 6, 7], [7])])
def rat_Text.B6 : List Nat := [0, 1, 3, 7, 0, 16, 55, 127, 255]
theorem rat_Text.tab6 : rtab .any (opsOf Try.f23 6) = rat_Text.T6 := by kernel_rfl
theorem rat_Text.bits6 : waitsOk rat_Text.T6.2 rat_Text.B6 = true := by kernel_rfl
set_option maxHeartbeats 8000000 in
set_option maxRecDepth 100000 in
theorem rat_Text.calls (k : Nat) : ∀ (a0_0 : Int) (a0_1 : Int) (r : ByteArray) (w : World) (h : rat_Text.f k a0_0 a0_1 = some r),
  Calls Try.prog 23 #[.agg #[.int .i64 a0_0, .int .i64 a0_1]] w fun e w' => e = .returned (.string r) ∧ Below w.heap.size w w' := by
 induction k using Nat.strongRecOn with
 | _ k ih =>
 intro a0_0 a0_1 r w h
 cases k with
 | zero => exact absurd h (by simp [rat_Text.f])
 | succ k =>
 simp only [rat_Text.f] at h
 have hu23 := Try.underlying23
 have HB := Aside0.mk (Below.refl w.heap.size w)
 have H : ((rat_Right.f k a0_0 a0_1).bind fun t237 => (if t237 = true then (if a0_0 < 0 then ((rat_Text.f k (wrap64 (-a0_0)) a0_1).bind fun t238 => (if 1 + t238.size ≤ 9223372036854775807 then (some ((⟨#[45]⟩ : ByteArray) ++ t238)) else (none))) else (if a0_1 > 1 then ((rat_digits.f k a0_0).bind fun t239 => (if t239.size + 1 ≤ 9223372036854775807 then ((rat_digits.f k a0_1).bind fun t240 => (if (t239 ++ (⟨#[47]⟩ : ByteArray)).size + t240.size ≤ 9223372036854775807 then (some ((t239 ++ (⟨#[47]⟩ : ByteArray)) ++ t240)) else (none))) else (none))) else ((rat_digits.f k a0_0).bind fun t241 => (some t241)))) else (some (⟨#[63]⟩ : ByteArray)))) = some r := h
 clear h
 replace H := Option.bind_eq_some_iff.mp H
 obtain ⟨t237, A20, H⟩ := H
 replace H : (if t237 = true then (if a0_0 < 0 then ((rat_Text.f k (wrap64 (-a0_0)) a0_1).bind fun t238 => (if 1 + t238.size ≤ 9223372036854775807 then (some ((⟨#[45]⟩ : ByteArray) ++ t238)) else (none))) else (if a0_1 > 1 then ((rat_digits.f k a0_0).bind fun t239 => (if t239.size + 1 ≤ 9223372036854775807 then ((rat_digits.f k a0_1).bind fun t240 => (if (t239 ++ (⟨#[47]⟩ : ByteArray)).size + t240.size ≤ 9223372036854775807 then (some ((t239 ++ (⟨#[47]⟩ : ByteArray)) ++ t240)) else (none))) else (none))) else ((rat_digits.f k a0_0).bind fun t241 => (some t241)))) else (some (⟨#[63]⟩ : ByteArray))) = some r := H
 have A2 := Aside0.mk A20
 clear A20
 by_cases c3 : t237 = true
 ·subst c3
  have H1 : (if a0_0 < 0 then ((rat_Text.f k (wrap64 (-a0_0)) a0_1).bind fun t238 => (if 1 + t238.size ≤ 9223372036854775807 then (some ((⟨#[45]⟩ : ByteArray) ++ t238)) else (none))) else (if a0_1 > 1 then ((rat_digits.f k a0_0).bind fun t239 => (if t239.size + 1 ≤ 9223372036854775807 then ((rat_digits.f k a0_1).bind fun t240 => (if (t239 ++ (⟨#[47]⟩ : ByteArray)).size + t240.size ≤ 9223372036854775807 then (some ((t239 ++ (⟨#[47]⟩ : ByteArray)) ++ t240)) else (none))) else (none))) else ((rat_digits.f k a0_0).bind fun t241 => (some t241)))) = some r := by rw [if_pos rfl] at H; exact H
  clear H
  have H := H1
  clear H1
  by_cases c4 : a0_0 < 0
  ·rw [if_pos c4] at H
   have c4b0 : decide (a0_0 < 0) = true := decide_eq_true c4
   clear c4
   replace H := Option.bind_eq_some_iff.mp H
   obtain ⟨t238, A50, H⟩ := H
   replace H : (if 1 + t238.size ≤ 9223372036854775807 then (some ((⟨#[45]⟩ : ByteArray) ++ t238)) else (none)) = some r := H
   have A5 := Aside0.mk A50
   clear A50
   by_cases c6 : 1 + t238.size ≤ 9223372036854775807
   ·rw [if_pos c6] at H
    have c6b0 := eq_true c6
    have c6b1 : decide (1 + t238.size ≤ 9223372036854775807) = true := decide_eq_true c6
    try have c6b2 : (9223372036854775807 < 1 + t238.size) = False := eq_false (Nat.not_lt.2 c6)
    obtain rfl := Option.some.inj H
    go_enter Try.func23, Try.ntmps23
    go_wp2_with (first | ((with_reducible refine gate_dst (N := 1) rfl ?_); refine box_event ?hg (N := 1) ?hd (cs := #[.int .i64 a0_0, .int .i64 a0_1]) (t := 23) ?hr ?_; (case hd => rfl); (case hg => rfl); (case hr => first | (go_simp; done) | (go_simp; rfl)); intro gb236 hg w7 hbox hb; have n0_ := Aside0.mk (below_step (belN HB.out) hb); have n1_ := Aside0.mk (hbox); have n2_ := Aside0.mk (szB hg HB.out); have n3_ := Aside0.mk (szB hg HB.out); clear HB; have HB := n0_; have BK236 := n1_; have GW236 := n2_; have GE236 := n3_; clear n0_ n1_ n2_ n3_; clear hb hbox hg; have hcz8_0 : w7.cell? ⟨gb236, 0, none⟩ = some (.int .i64 a0_0) := (blk_cell BK236.out 0).trans rfl; have hcz8_1 : w7.cell? ⟨gb236, 1, none⟩ = some (.int .i64 a0_1) := (blk_cell BK236.out 1).trans rfl; have hfz8_0 := blk_frozen BK236.out 0; have hfz8_1 := blk_frozen BK236.out 1) | ((with_reducible refine gate_callee (f := 21) rfl ?_); refine goesL_ (some 5) rfl rfl Try.func21 (by kernel_rfl) rfl #[.agg #[.int .i64 a0_0, .int .i64 a0_1]] rfl argN ?_; (with_reducible refine (rat_Right.calls k a0_0 a0_1 true _ A2.out).mono ?_); rintro e w9 ⟨rfl, hb⟩; refine ⟨_, rfl, ?_⟩; have n0_ := Aside0.mk (bkB BK236.out hb); have n1_ := Aside0.mk (below_step (belS HB.out) hb); clear BK236; clear HB; have BK236 := n0_; have HB := n1_; clear n0_ n1_; (try clear hb); have hcz10_0 : w9.cell? ⟨gb236, 0, none⟩ = some (.int .i64 a0_0) := (blk_cell BK236.out 0).trans rfl; have hcz10_1 : w9.cell? ⟨gb236, 1, none⟩ = some (.int .i64 a0_1) := (blk_cell BK236.out 1).trans rfl; have hfz10_0 := blk_frozen BK236.out 0; have hfz10_1 := blk_frozen BK236.out 1) | ((with_reducible refine gate_callee (f := 23) rfl ?_); refine goesL_ (some 17) rfl rfl Try.func23 (by kernel_rfl) rfl #[.agg #[.int .i64 (wrap64 (-a0_0)), .int .i64 a0_1]] rfl argN ?_; (with_reducible refine (ih k (by omega) (wrap64 (-a0_0)) a0_1 t238 _ A5.out).mono ?_); rintro e w11 ⟨rfl, hb⟩; refine ⟨_, rfl, ?_⟩; have n0_ := Aside0.mk (bkB BK236.out hb); have n1_ := Aside0.mk (below_step (belS HB.out) hb); clear BK236; clear HB; have BK236 := n0_; have HB := n1_; clear n0_ n1_; (try clear hb)))
    go_ret
    exact ⟨by first | rfl | (simp [errW_none, errW_some] <;> rfl) | (simp [*, errW_none, errW_some] <;> rfl), (belS HB.out)⟩
   ·rw [if_neg c6] at H
    exact absurd H (by simp)
  ·rw [if_neg c4] at H
   have c4b0 : decide (a0_0 < 0) = false := decide_eq_false c4
   clear c4
   by_cases c12 : a0_1 > 1
   ·rw [if_pos c12] at H
    have c12b0 : decide (1 < a0_1) = true := decide_eq_true c12
    clear c12
    replace H := Option.bind_eq_some_iff.mp H
    obtain ⟨t239, A130, H⟩ := H
    replace H : (if t239.size + 1 ≤ 9223372036854775807 then ((rat_digits.f k a0_1).bind fun t240 => (if (t239 ++ (⟨#[47]⟩ : ByteArray)).size + t240.size ≤ 9223372036854775807 then (some ((t239 ++ (⟨#[47]⟩ : ByteArray)) ++ t240)) else (none))) else (none)) = some r := H
    have A13 := Aside0.mk A130
    clear A130
    by_cases c14 : t239.size + 1 ≤ 9223372036854775807
    ·rw [if_pos c14] at H
     have c14b0 := eq_true c14
     have c14b1 : decide (t239.size + 1 ≤ 9223372036854775807) = true := decide_eq_true c14
     try have c14b2 : (9223372036854775807 < t239.size + 1) = False := eq_false (Nat.not_lt.2 c14)
     replace H := Option.bind_eq_some_iff.mp H
     obtain ⟨t240, A150, H⟩ := H
     replace H : (if (t239 ++ (⟨#[47]⟩ : ByteArray)).size + t240.size ≤ 9223372036854775807 then (some ((t239 ++ (⟨#[47]⟩ : ByteArray)) ++ t240)) else (none)) = some r := H
     have A15 := Aside0.mk A150
     clear A150
     by_cases c16 : (t239 ++ (⟨#[47]⟩ : ByteArray)).size + t240.size ≤ 9223372036854775807
     ·rw [if_pos c16] at H
      have c16b0 := eq_true c16
      have c16b1 : decide ((t239 ++ (⟨#[47]⟩ : ByteArray)).size + t240.size ≤ 9223372036854775807) = true := decide_eq_true c16
      try have c16b2 : (9223372036854775807 < (t239 ++ (⟨#[47]⟩ : ByteArray)).size + t240.size) = False := eq_false (Nat.not_lt.2 c16)
      have c16b3 : (9223372036854775807 < t239.size + 1 + t240.size) = False := by have h_ := c16b2; rw [ByteArray.size_append] at h_; exact h_
      obtain rfl := Option.some.inj H
      go_enter Try.func23, Try.ntmps23
      try go_wp2_with (first | ((with_reducible refine gate_dst (N := 1) rfl ?_); refine box_event ?hg (N := 1) ?hd (cs := #[.int .i64 a0_0, .int .i64 a0_1]) (t := 23) ?hr ?_; (case hd => rfl); (case hg => rfl); (case hr => first | (go_simp; done) | (go_simp; rfl)); intro gb236 hg w17 hbox hb; have n0_ := Aside0.mk (below_step (belN HB.out) hb); have n1_ := Aside0.mk (hbox); have n2_ := Aside0.mk (szB hg HB.out); have n3_ := Aside0.mk (szB hg HB.out); clear HB; have HB := n0_; have BK236 := n1_; have GW236 := n2_; have GE236 := n3_; clear n0_ n1_ n2_ n3_; clear hb hbox hg; have hcz18_0 : w17.cell? ⟨gb236, 0, none⟩ = some (.int .i64 a0_0) := (blk_cell BK236.out 0).trans rfl; have hcz18_1 : w17.cell? ⟨gb236, 1, none⟩ = some (.int .i64 a0_1) := (blk_cell BK236.out 1).trans rfl; have hfz18_0 := blk_frozen BK236.out 0; have hfz18_1 := blk_frozen BK236.out 1) | ((with_reducible refine gate_callee (f := 21) rfl ?_); refine goesL_ (some 5) rfl rfl Try.func21 (by kernel_rfl) rfl #[.agg #[.int .i64 a0_0, .int .i64 a0_1]] rfl argN ?_; (with_reducible refine (rat_Right.calls k a0_0 a0_1 true _ A2.out).mono ?_); rintro e w19 ⟨rfl, hb⟩; refine ⟨_, rfl, ?_⟩; have n0_ := Aside0.mk (bkB BK236.out hb); have n1_ := Aside0.mk (below_step (belS HB.out) hb); clear BK236; clear HB; have BK236 := n0_; have HB := n1_; clear n0_ n1_; (try clear hb); have hcz20_0 : w19.cell? ⟨gb236, 0, none⟩ = some (.int .i64 a0_0) := (blk_cell BK236.out 0).trans rfl; have hcz20_1 : w19.cell? ⟨gb236, 1, none⟩ = some (.int .i64 a0_1) := (blk_cell BK236.out 1).trans rfl; have hfz20_0 := blk_frozen BK236.out 0; have hfz20_1 := blk_frozen BK236.out 1))
      have n0_ := Aside0.mk (blk_drew BK236.out)
      have n1_ := Aside0.mk (below_drew1 HB.out)
      clear BK236
      clear HB
      have BK236 := n0_
      have HB := n1_
      clear n0_ n1_
      refine start_ (n := 9) (S := fun w' => w'.cell? ⟨gb236, 0, none⟩ = some (.int .i64 a0_0) ∧ w'.cell? ⟨gb236, 1, none⟩ = some (.int .i64 a0_1)) (ds := []) #[false, false, false, false, false, false, false, false, false] (by kernel_rfl) rfl rfl ⟨(blk_cell BK236.out 0).trans rfl, (blk_cell BK236.out 1).trans rfl⟩ (fun hHeld => ?_); refine with_tabW rat_Text.tab6 rat_Text.bits6 (fun HT_ HW_ => ?_)
      generalize w19.drew = w21 at BK236 HB hHeld ⊢
      refine pA 0 (some 23) (bA 9 1) HT_.out ?_
      refine pA 4 (some 27) (bA 9 17) HT_.out ?_
      refine take_ (i := 1) (N := some 24) (v := ?_) (a' := ?_) (bA 9 19) rfl rfl (take_ofW HT_.out HW_.out (by kernel_rfl)) (fun _ _ _ h => h) (Or.inl ⟨by rfl, ?_⟩) hHeld ?_ ?_
      rotate_left
      ·rintro w' ⟨s0, s1⟩
       go_simp
       with_reducible rfl
      rotate_left
      ·simp only [Act.put, List.setIfInBounds_toArray, List.set_cons_zero, List.set_cons_succ, i64_w, i32_w]
       rfl
      refine take_ (i := 5) (N := some 28) (v := ?_) (a' := ?_) (bA 9 51) rfl rfl (take_ofW HT_.out HW_.out (by kernel_rfl)) (fun _ _ _ h => h) (Or.inl ⟨by rfl, ?_⟩) hHeld ?_ ?_
      rotate_left
      ·rintro w' ⟨s0, s1⟩
       go_simp
       with_reducible rfl
      rotate_left
      ·simp only [Act.put, List.setIfInBounds_toArray, List.set_cons_zero, List.set_cons_succ, i64_w, i32_w]
       rfl
      refine one_ (i := 2) (N := some 25) (bA 9 55) rfl rfl (one_of HT_.out (by kernel_rfl)) (by decide) (fun K hK => ?_)
      refine goes_ Try.func41 (by kernel_rfl) rfl #[.int .i64 a0_0] (by rfl) rfl rfl argN ?_
      with_reducible refine (rat_digits.calls k a0_0 t239 _ A13.out).mono ?_
      rintro e w22 ⟨rfl, hb⟩
      refine ⟨_, rfl, ?_⟩
      have n0_ := Aside0.mk (bkB BK236.out hb)
      have n1_ := Aside0.mk (below_step (belS HB.out) hb)
      clear BK236
      clear HB
      have BK236 := n0_
      have HB := n1_
      clear n0_ n1_
      (try clear hb)
      refine hK.out _ _ ⟨(blk_cell BK236.out 0).trans rfl, (blk_cell BK236.out 1).trans rfl⟩ (fun hHeld => ?_)
      clear hK K
      refine norm_ (a' := ?_) ?_ ?_
      rotate_left
      ·show Act.put _ (some 25) _ = _
       simp only [Act.put, List.setIfInBounds_toArray, List.set_cons_zero, List.set_cons_succ, i64_w, i32_w]
       rfl
      refine pA 3 (some 26) (bA 9 63) HT_.out ?_
      refine one_ (i := 6) (N := some 29) (bA 9 127) rfl rfl (one_of HT_.out (by kernel_rfl)) (by decide) (fun K hK => ?_)
      refine goes_ Try.func41 (by kernel_rfl) rfl #[.int .i64 a0_1] (by rfl) rfl rfl argN ?_
      with_reducible refine (rat_digits.calls k a0_1 t240 _ A15.out).mono ?_
      rintro e w23 ⟨rfl, hb⟩
      refine ⟨_, rfl, ?_⟩
      have n0_ := Aside0.mk (bkB BK236.out hb)
      have n1_ := Aside0.mk (below_step (belS HB.out) hb)
      clear BK236
      clear HB
      have BK236 := n0_
      have HB := n1_
      clear n0_ n1_
      (try clear hb)
      refine hK.out _ _ ⟨(blk_cell BK236.out 0).trans rfl, (blk_cell BK236.out 1).trans rfl⟩ (fun hHeld => ?_)
      clear hK K
      refine norm_ (a' := ?_) ?_ ?_
      rotate_left
      ·show Act.put _ (some 29) _ = _
       simp only [Act.put, List.setIfInBounds_toArray, List.set_cons_zero, List.set_cons_succ, i64_w, i32_w]
       rfl
      refine pA 7 (some 30) (bA 9 255) HT_.out ?_
      refine pA 8 (some 2) (bA 9 511) HT_.out ?_
      refine done_ (done_of HT_.out (by kernel_rfl)) ?_
      try go_wp2
      go_ret
      exact ⟨by first | rfl | (simp [errW_none, errW_some] <;> rfl) | (simp [*, errW_none, errW_some] <;> rfl), (belS HB.out)⟩
     ·rw [if_neg c16] at H
      exact absurd H (by simp)
    ·rw [if_neg c14] at H
     exact absurd H (by simp)
   ·rw [if_neg c12] at H
    have c12b0 : decide (1 < a0_1) = false := decide_eq_false c12
    clear c12
    replace H := Option.bind_eq_some_iff.mp H
    obtain ⟨t241, A240, H⟩ := H
    replace H : (some t241) = some r := H
    have A24 := Aside0.mk A240
    clear A240
    obtain rfl := Option.some.inj H
    go_enter Try.func23, Try.ntmps23
    go_wp2_with (first | ((with_reducible refine gate_dst (N := 1) rfl ?_); refine box_event ?hg (N := 1) ?hd (cs := #[.int .i64 a0_0, .int .i64 a0_1]) (t := 23) ?hr ?_; (case hd => rfl); (case hg => rfl); (case hr => first | (go_simp; done) | (go_simp; rfl)); intro gb236 hg w25 hbox hb; have n0_ := Aside0.mk (below_step (belN HB.out) hb); have n1_ := Aside0.mk (hbox); have n2_ := Aside0.mk (szB hg HB.out); have n3_ := Aside0.mk (szB hg HB.out); clear HB; have HB := n0_; have BK236 := n1_; have GW236 := n2_; have GE236 := n3_; clear n0_ n1_ n2_ n3_; clear hb hbox hg; have hcz26_0 : w25.cell? ⟨gb236, 0, none⟩ = some (.int .i64 a0_0) := (blk_cell BK236.out 0).trans rfl; have hcz26_1 : w25.cell? ⟨gb236, 1, none⟩ = some (.int .i64 a0_1) := (blk_cell BK236.out 1).trans rfl; have hfz26_0 := blk_frozen BK236.out 0; have hfz26_1 := blk_frozen BK236.out 1) | ((with_reducible refine gate_callee (f := 21) rfl ?_); refine goesL_ (some 5) rfl rfl Try.func21 (by kernel_rfl) rfl #[.agg #[.int .i64 a0_0, .int .i64 a0_1]] rfl argN ?_; (with_reducible refine (rat_Right.calls k a0_0 a0_1 true _ A2.out).mono ?_); rintro e w27 ⟨rfl, hb⟩; refine ⟨_, rfl, ?_⟩; have n0_ := Aside0.mk (bkB BK236.out hb); have n1_ := Aside0.mk (below_step (belS HB.out) hb); clear BK236; clear HB; have BK236 := n0_; have HB := n1_; clear n0_ n1_; (try clear hb); have hcz28_0 : w27.cell? ⟨gb236, 0, none⟩ = some (.int .i64 a0_0) := (blk_cell BK236.out 0).trans rfl; have hcz28_1 : w27.cell? ⟨gb236, 1, none⟩ = some (.int .i64 a0_1) := (blk_cell BK236.out 1).trans rfl; have hfz28_0 := blk_frozen BK236.out 0; have hfz28_1 := blk_frozen BK236.out 1) | ((with_reducible refine gate_callee (f := 41) rfl ?_); refine goesL_ (some 33) rfl rfl Try.func41 (by kernel_rfl) rfl #[.int .i64 a0_0] rfl argN ?_; (with_reducible refine (rat_digits.calls k a0_0 t241 _ A24.out).mono ?_); rintro e w29 ⟨rfl, hb⟩; refine ⟨_, rfl, ?_⟩; have n0_ := Aside0.mk (bkB BK236.out hb); have n1_ := Aside0.mk (below_step (belS HB.out) hb); clear BK236; clear HB; have BK236 := n0_; have HB := n1_; clear n0_ n1_; (try clear hb)))
    go_ret
    exact ⟨by first | rfl | (simp [errW_none, errW_some] <;> rfl) | (simp [*, errW_none, errW_some] <;> rfl), (belS HB.out)⟩
 ·replace c3 := Bool.eq_false_iff.mpr c3
  subst c3
  have H1 : (some (⟨#[63]⟩ : ByteArray)) = some r := by rw [if_neg (show ¬ (false = true) by decide)] at H; exact H
  clear H
  have H := H1
  clear H1
  obtain rfl := Option.some.inj H
  go_enter Try.func23, Try.ntmps23
  go_wp2_with (first | ((with_reducible refine gate_dst (N := 1) rfl ?_); refine box_event ?hg (N := 1) ?hd (cs := #[.int .i64 a0_0, .int .i64 a0_1]) (t := 23) ?hr ?_; (case hd => rfl); (case hg => rfl); (case hr => first | (go_simp; done) | (go_simp; rfl)); intro gb236 hg w30 hbox hb; have n0_ := Aside0.mk (below_step (belN HB.out) hb); have n1_ := Aside0.mk (hbox); have n2_ := Aside0.mk (szB hg HB.out); have n3_ := Aside0.mk (szB hg HB.out); clear HB; have HB := n0_; have BK236 := n1_; have GW236 := n2_; have GE236 := n3_; clear n0_ n1_ n2_ n3_; clear hb hbox hg; have hcz31_0 : w30.cell? ⟨gb236, 0, none⟩ = some (.int .i64 a0_0) := (blk_cell BK236.out 0).trans rfl; have hcz31_1 : w30.cell? ⟨gb236, 1, none⟩ = some (.int .i64 a0_1) := (blk_cell BK236.out 1).trans rfl; have hfz31_0 := blk_frozen BK236.out 0; have hfz31_1 := blk_frozen BK236.out 1) | ((with_reducible refine gate_callee (f := 21) rfl ?_); refine goesL_ (some 5) rfl rfl Try.func21 (by kernel_rfl) rfl #[.agg #[.int .i64 a0_0, .int .i64 a0_1]] rfl argN ?_; (with_reducible refine (rat_Right.calls k a0_0 a0_1 false _ A2.out).mono ?_); rintro e w32 ⟨rfl, hb⟩; refine ⟨_, rfl, ?_⟩; have n0_ := Aside0.mk (bkB BK236.out hb); have n1_ := Aside0.mk (below_step (belS HB.out) hb); clear BK236; clear HB; have BK236 := n0_; have HB := n1_; clear n0_ n1_; (try clear hb)))
  go_ret
  exact ⟨by first | rfl | (simp [errW_none, errW_some] <;> rfl) | (simp [*, errW_none, errW_some] <;> rfl), (belS HB.out)⟩

/-! ### marigraphlaw1_two: function 7, by hand, in the case that all is true -/
attribute [local go_sem high] eqA23
def marigraphlaw1_two.f (k : Nat) (a0_0 : Int) (a0_1 : Int) (a1_0 : Int) (a1_1 : Int) : Option (Bool) :=
  (rat_Add.f k a0_0 a0_1 a1_0 a1_1).bind fun w => (rat_Sub.f k a0_0 a0_1 a1_0 a1_1).bind fun x => (rat_Mul.f k a0_0 a0_1 a1_0 a1_1).bind fun y => (rat_Div.f k a0_0 a0_1 a1_0 a1_1).bind fun z =>
  (marigraphref1_Op.f k 43 a0_0 a0_1 a1_0 a1_1).bind fun p => (marigraphref1_Op.f k 45 a0_0 a0_1 a1_0 a1_1).bind fun q => (marigraphref1_Op.f k 42 a0_0 a0_1 a1_0 a1_1).bind fun r => (marigraphref1_Op.f k 47 a0_0 a0_1 a1_0 a1_1).bind fun s =>
  (rat_Cmp.f k a0_0 a0_1 a1_0 a1_1).bind fun c => (marigraphref1_Cmp.f k a0_0 a0_1 a1_0 a1_1).bind fun d => (rat_Right.f k a0_0 a0_1).bind fun e => (marigraphref1_Right.f k a0_0 a0_1).bind fun f => (rat_Text.f k a0_0 a0_1).bind fun t => (marigraphref1_Text.f k a0_0 a0_1).bind fun u =>
  if (w = p ∧ x = q ∧ y = r) ∧ (z = s ∧ c = d ∧ e = f) ∧ t = u then some true else none
theorem marigraphlaw1_two.mono : ∀ a0 a1 a2 a3 k, LeO (marigraphlaw1_two.f k a0 a1 a2 a3) (marigraphlaw1_two.f (k + 1) a0 a1 a2 a3) := by
  intro a0 a1 a2 a3 k
  unfold marigraphlaw1_two.f
  refine LeO.bind (rat_Add.mono _ _ _ _ _) fun _ => LeO.bind (rat_Sub.mono _ _ _ _ _) fun _ => LeO.bind (rat_Mul.mono _ _ _ _ _) fun _ => LeO.bind (rat_Div.mono _ _ _ _ _) fun _ => ?_
  refine LeO.bind (marigraphref1_Op.mono _ _ _ _ _ _) fun _ => LeO.bind (marigraphref1_Op.mono _ _ _ _ _ _) fun _ => LeO.bind (marigraphref1_Op.mono _ _ _ _ _ _) fun _ => LeO.bind (marigraphref1_Op.mono _ _ _ _ _ _) fun _ => ?_
  refine LeO.bind (rat_Cmp.mono _ _ _ _ _) fun _ => LeO.bind (marigraphref1_Cmp.mono _ _ _ _ _) fun _ => LeO.bind (rat_Right.mono _ _ _) fun _ => LeO.bind (marigraphref1_Right.mono _ _ _) fun _ => ?_
  exact LeO.bind (rat_Text.mono _ _ _) fun _ => LeO.bind (marigraphref1_Text.mono _ _ _) fun _ => LeO.refl _
/-- Some blocks, each with two numbers. -/
def Blks (L : List (Nat × Int × Int)) (w : World) : Prop := ∀ x ∈ L, w.heap[x.1]? = some (.cells #[.int .i64 x.2.1, .int .i64 x.2.2] 23 (0, 0))
theorem Blks_below {L : List (Nat × Int × Int)} {w w1 : World} (h : Blks L w) (hb : Below w.heap.size w w1) : Blks L w1 := fun x hx => blk_below (h x hx) hb
theorem Blks_drew {L : List (Nat × Int × Int)} {w : World} (h : Blks L w) : Blks L w.drew := fun x hx => blk_drew (h x hx)
theorem Blks_box {L : List (Nat × Int × Int)} {w w1 : World} {g : Nat} {n d : Int} (h : Blks L w) (hb : Below w.heap.size w w1) (hbox : w1.heap[g]? = some (.cells #[.int .i64 n, .int .i64 d] 23 (0, 0))) : Blks ((g, n, d) :: L) w1 := by
  intro x hx
  rcases List.mem_cons.1 hx with rfl | hx
  · exact hbox
  · exact blk_below (h x hx) hb
theorem Blks_new {L : List (Nat × Int × Int)} {w w1 : World} {g : Nat} {n d : Int} (h : Blks L w) (hg : g = w.heap.size) (hb : Below w.heap.size w w1) (hbox : w1.heap[g]? = some (.cells #[.int .i64 0, .int .i64 0] 23 (0, 0))) :
    Blks ((g, n, d) :: L) ((w1.setCell ⟨g, 0, none⟩ (.int .i64 n)).setCell ⟨g, 1, none⟩ (.int .i64 d)) := by
  intro x hx
  rcases List.mem_cons.1 hx with rfl | hx
  · exact blk_put (blk_put hbox 0 (.int .i64 n) rfl) 1 (.int .i64 d) rfl
  · have hne : x.1 ≠ g := blk_ne1 hg (h x hx)
    exact blk_far (p := ⟨g, 1, none⟩) (blk_far (p := ⟨g, 0, none⟩) (blk_below (h x hx) hb) hne _) hne _
theorem blk2_ {w : World} {g : Nat} {t : TypeId} {x y : Value} (h : w.heap[g]? = some (.cells #[x, y] t (0, 0))) : w.cell? ⟨g, 0, none⟩ = some x ∧ w.cell? ⟨g, 1, none⟩ = some y ∧ w.frozen? ⟨g, 0, none⟩ = false ∧ w.frozen? ⟨g, 1, none⟩ = false :=
  ⟨(blk_cell h 0).trans rfl, (blk_cell h 1).trans rfl, blk_frozen h 0, blk_frozen h 1⟩
/-- A step of a region that yields in every world; one that reads what is held. -/
theorem pK {P : Program} {ops : Array Oper} {Q : Exit → Act → World → Prop} {md : Region.Mode} {S : World → Prop} {ds : List Nat} {oi : Oper} {v : Value} {fuel : Nat} {l : Array Bool} {a a' : Act} {w : World} (i : Nat) (N : Option Tmp) (l' : Array Bool) (h : wpAnyLast P md ops Q S ds fuel l' a' w)
    (hi : ops[i]? = some oi := by rfl) (hN : oi.dst = N := by rfl) (hc : anyB md ops l l' i = true := by kernel_rfl) (hQ : ∀ c a w, Q (.panic c) (a.put oi.dst v) w → Q (.panic c) a w := by exact fun _ _ _ h => h)
    (hy : Region.wanted oi (yielded ops a.tmps) = true := by rfl) (hy' : ∀ w, (execOp a.eval oi).run P w = .ok (.value v) w := by intro w'; go_simp; with_reducible rfl)
    (ha : a.put N v = a' := by simp only [Act.put, List.setIfInBounds_toArray, List.set_cons_zero, List.set_cons_succ, i64_w, i32_w]; rfl) : wpAnyLast P md ops Q S ds (fuel + 1) l a w :=
  pure_ l' hi hN hc hQ (Or.inl ⟨hy, hy'⟩) ha h
theorem tK {P : Program} {ops : Array Oper} {Q : Exit → Act → World → Prop} {md : Region.Mode} {S : World → Prop} {ds : List Nat} {oi : Oper} {v : Value} {fuel : Nat} {l : Array Bool} {a a' : Act} {w : World} (i : Nat) (N : Option Tmp) (l' : Array Bool) (hi : ops[i]? = some oi) (hN : oi.dst = N) (hS : S w) (hy' : ∀ w, S w → (execOp a.eval oi).run P w = .ok (.value v) w) (h : wpAnyLast P md ops Q S ds fuel l' a' w)
    (hc : takeB md ops ds l l' i = true := by kernel_rfl) (hQ : ∀ c a w, Q (.panic c) (a.put oi.dst v) w → Q (.panic c) a w := by exact fun _ _ _ h => h)
    (hy : Region.wanted oi (yielded ops a.tmps) = true := by rfl)
    (ha : a.put N v = a' := by simp only [Act.put, List.setIfInBounds_toArray, List.set_cons_zero, List.set_cons_succ, i64_w, i32_w]; rfl) : wpAnyLast P md ops Q S ds (fuel + 1) l a w :=
  take_ l' hi hN hc hQ (Or.inl ⟨hy, hy'⟩) hS ha h
theorem nK {P : Program} {ops : Array Oper} {Q : Exit → Act → World → Prop} {md : Region.Mode} {S : World → Prop} {ds : List Nat} {fuel : Nat} {l : Array Bool} {a a' : Act} {v : Value} {w : World} (N : Option Tmp) (h : wpAnyLast P md ops Q S ds fuel l a' w)
    (ha : a.put N v = a' := by simp only [Act.put, List.setIfInBounds_toArray, List.set_cons_zero, List.set_cons_succ, i64_w, i32_w]; rfl) : wpAnyLast P md ops Q S ds fuel l (a.put N v) w := norm_ ha h
set_option maxHeartbeats 16000000 in
set_option maxRecDepth 100000 in
theorem marigraphlaw1_two.calls (k : Nat) (a0_0 : Int) (a0_1 : Int) (a1_0 : Int) (a1_1 : Int) (r : Bool) (w : World) (h : marigraphlaw1_two.f k a0_0 a0_1 a1_0 a1_1 = some r) :
    Calls Try.prog 7 #[.agg #[.int .i64 a0_0, .int .i64 a0_1], .agg #[.int .i64 a1_0, .int .i64 a1_1]] w fun e w' => e = .returned (.bool r) ∧ Below w.heap.size w w' := by
  unfold marigraphlaw1_two.f at h
  obtain ⟨⟨w1, w2, w3⟩, hw, h⟩ := Option.bind_eq_some_iff.mp h
  obtain ⟨⟨x1, x2, x3⟩, hx, h⟩ := Option.bind_eq_some_iff.mp h
  obtain ⟨⟨y1, y2, y3⟩, hy, h⟩ := Option.bind_eq_some_iff.mp h
  obtain ⟨⟨z1, z2, z3⟩, hz, h⟩ := Option.bind_eq_some_iff.mp h
  obtain ⟨p, hp, h⟩ := Option.bind_eq_some_iff.mp h
  obtain ⟨q, hq, h⟩ := Option.bind_eq_some_iff.mp h
  obtain ⟨r_, hr, h⟩ := Option.bind_eq_some_iff.mp h
  obtain ⟨s, hs, h⟩ := Option.bind_eq_some_iff.mp h
  obtain ⟨c, hc, h⟩ := Option.bind_eq_some_iff.mp h
  obtain ⟨d, hd, h⟩ := Option.bind_eq_some_iff.mp h
  obtain ⟨e, he, h⟩ := Option.bind_eq_some_iff.mp h
  obtain ⟨f, hf, h⟩ := Option.bind_eq_some_iff.mp h
  obtain ⟨t, ht, h⟩ := Option.bind_eq_some_iff.mp h
  obtain ⟨u, hu, h⟩ := Option.bind_eq_some_iff.mp h
  by_cases hall : ((w1, w2, w3) = p ∧ (x1, x2, x3) = q ∧ (y1, y2, y3) = r_) ∧ ((z1, z2, z3) = s ∧ c = d ∧ e = f) ∧ t = u
  case neg => rw [if_neg hall] at h; cases h
  rw [if_pos hall] at h
  obtain rfl := Option.some.inj h
  obtain ⟨⟨rfl, rfl, rfl⟩, ⟨rfl, rfl, rfl⟩, rfl⟩ := hall
  clear h
  have hw := Aside0.mk hw
  have hx := Aside0.mk hx
  have hy := Aside0.mk hy
  have hz := Aside0.mk hz
  have hp := Aside0.mk hp
  have hq := Aside0.mk hq
  have hr := Aside0.mk hr
  have hs := Aside0.mk hs
  have hc := Aside0.mk hc
  have hd := Aside0.mk hd
  have he := Aside0.mk he
  have hf := Aside0.mk hf
  have ht := Aside0.mk ht
  have hu := Aside0.mk hu
  have hu_ := Try.underlying23
  have HBa := Below.refl w.heap.size w
  have B0 : Blks [] w := fun _ hx => by cases hx
  go_enter Try.func7, Try.ntmps7
  go_wp2_with (first
    | ((with_reducible refine gate_dst (N := 19) rfl ?_); refine box_event ?hgs (N := 19) ?hds (cs := #[.int .i64 0, .int .i64 0]) (t := 23) ?hrs ?_; (case hds => rfl); (case hgs => rfl); (case hrs => first | (go_simp; done) | (go_simp; rfl)); intro gs hg ws_ hbox hb; have Bs := Blks_new (n := z1) (d := z2) Cs hg hb hbox; have Hs := below_set (j := 1) (v := .int .i64 z2) (below_set (j := 0) (v := .int .i64 z1) (below_step Ks hb) (show w.heap.size ≤ gs by rw [hg]; exact below_size Ks)) (show w.heap.size ≤ gs by rw [hg]; exact below_size Ks); obtain ⟨nc0, nc1, nf0, nf1⟩ := blk2_ hbox; obtain ⟨ac0, ac1, _, _⟩ := blk2_ (Bs (ga, a0_0, a0_1) (by simp)); obtain ⟨bc0, bc1, _, _⟩ := blk2_ (Bs (gb, a1_0, a1_1) (by simp)); clear hb hg hbox)
    | (go_at_call 18; (with_reducible refine (marigraphref1_Op.calls k 47 a0_0 a0_1 a1_0 a1_1 z1 z2 z3 _ hs.out).mono ?_); rintro e_ wsc ⟨rfl, hb⟩; have Cs := Blks_below Br hb; have Ks := below_step Hr hb; clear hb ac0 ac1 bc0 bc1)
    | ((with_reducible refine gate_dst (N := 17) rfl ?_); refine box_event ?hgr (N := 17) ?hdr (cs := #[.int .i64 0, .int .i64 0]) (t := 23) ?hrr ?_; (case hdr => rfl); (case hgr => rfl); (case hrr => first | (go_simp; done) | (go_simp; rfl)); intro gr hg wr_ hbox hb; have Br := Blks_new (n := y1) (d := y2) Cr hg hb hbox; have Hr := below_set (j := 1) (v := .int .i64 y2) (below_set (j := 0) (v := .int .i64 y1) (below_step Kr hb) (show w.heap.size ≤ gr by rw [hg]; exact below_size Kr)) (show w.heap.size ≤ gr by rw [hg]; exact below_size Kr); obtain ⟨nc0, nc1, nf0, nf1⟩ := blk2_ hbox; obtain ⟨ac0, ac1, _, _⟩ := blk2_ (Br (ga, a0_0, a0_1) (by simp)); obtain ⟨bc0, bc1, _, _⟩ := blk2_ (Br (gb, a1_0, a1_1) (by simp)); clear hb hg hbox)
    | (go_at_call 18; (with_reducible refine (marigraphref1_Op.calls k 42 a0_0 a0_1 a1_0 a1_1 y1 y2 y3 _ hr.out).mono ?_); rintro e_ wrc ⟨rfl, hb⟩; have Cr := Blks_below Bq hb; have Kr := below_step Hq hb; clear hb ac0 ac1 bc0 bc1)
    | ((with_reducible refine gate_dst (N := 15) rfl ?_); refine box_event ?hgq (N := 15) ?hdq (cs := #[.int .i64 0, .int .i64 0]) (t := 23) ?hrq ?_; (case hdq => rfl); (case hgq => rfl); (case hrq => first | (go_simp; done) | (go_simp; rfl)); intro gq hg wq_ hbox hb; have Bq := Blks_new (n := x1) (d := x2) Cq hg hb hbox; have Hq := below_set (j := 1) (v := .int .i64 x2) (below_set (j := 0) (v := .int .i64 x1) (below_step Kq hb) (show w.heap.size ≤ gq by rw [hg]; exact below_size Kq)) (show w.heap.size ≤ gq by rw [hg]; exact below_size Kq); obtain ⟨nc0, nc1, nf0, nf1⟩ := blk2_ hbox; obtain ⟨ac0, ac1, _, _⟩ := blk2_ (Bq (ga, a0_0, a0_1) (by simp)); obtain ⟨bc0, bc1, _, _⟩ := blk2_ (Bq (gb, a1_0, a1_1) (by simp)); clear hb hg hbox)
    | (go_at_call 18; (with_reducible refine (marigraphref1_Op.calls k 45 a0_0 a0_1 a1_0 a1_1 x1 x2 x3 _ hq.out).mono ?_); rintro e_ wqc ⟨rfl, hb⟩; have Cq := Blks_below Bp hb; have Kq := below_step Hp hb; clear hb ac0 ac1 bc0 bc1)
    | ((with_reducible refine gate_dst (N := 13) rfl ?_); refine box_event ?hgp (N := 13) ?hdp (cs := #[.int .i64 0, .int .i64 0]) (t := 23) ?hrp ?_; (case hdp => rfl); (case hgp => rfl); (case hrp => first | (go_simp; done) | (go_simp; rfl)); intro gp hg wp_ hbox hb; have Bp := Blks_new (n := w1) (d := w2) Cp hg hb hbox; have Hp := below_set (j := 1) (v := .int .i64 w2) (below_set (j := 0) (v := .int .i64 w1) (below_step Kp hb) (show w.heap.size ≤ gp by rw [hg]; exact below_size Kp)) (show w.heap.size ≤ gp by rw [hg]; exact below_size Kp); obtain ⟨nc0, nc1, nf0, nf1⟩ := blk2_ hbox; obtain ⟨ac0, ac1, _, _⟩ := blk2_ (Bp (ga, a0_0, a0_1) (by simp)); obtain ⟨bc0, bc1, _, _⟩ := blk2_ (Bp (gb, a1_0, a1_1) (by simp)); clear hb hg hbox)
    | (go_at_call 18; (with_reducible refine (marigraphref1_Op.calls k 43 a0_0 a0_1 a1_0 a1_1 w1 w2 w3 _ hp.out).mono ?_); rintro e_ wpc ⟨rfl, hb⟩; have Cp := Blks_below Bz hb; have Kp := below_step Hz hb; clear hb ac0 ac1 bc0 bc1)
    | ((with_reducible refine gate_dst (N := 11) rfl ?_); refine box_event ?hgz (N := 11) ?hdz (cs := #[.int .i64 0, .int .i64 0]) (t := 23) ?hrz ?_; (case hdz => rfl); (case hgz => rfl); (case hrz => first | (go_simp; done) | (go_simp; rfl)); intro gz hg wz_ hbox hb; have Bz := Blks_new (n := z1) (d := z2) Cz hg hb hbox; have Hz := below_set (j := 1) (v := .int .i64 z2) (below_set (j := 0) (v := .int .i64 z1) (below_step Kz hb) (show w.heap.size ≤ gz by rw [hg]; exact below_size Kz)) (show w.heap.size ≤ gz by rw [hg]; exact below_size Kz); obtain ⟨nc0, nc1, nf0, nf1⟩ := blk2_ hbox; obtain ⟨ac0, ac1, _, _⟩ := blk2_ (Bz (ga, a0_0, a0_1) (by simp)); obtain ⟨bc0, bc1, _, _⟩ := blk2_ (Bz (gb, a1_0, a1_1) (by simp)); clear hb hg hbox)
    | (go_at_call 17; (with_reducible refine (rat_Div.calls k a0_0 a0_1 a1_0 a1_1 z1 z2 z3 _ hz.out).mono ?_); rintro e_ wzc ⟨rfl, hb⟩; have Cz := Blks_below By hb; have Kz := below_step Hy hb; clear hb ac0 ac1 bc0 bc1)
    | ((with_reducible refine gate_dst (N := 9) rfl ?_); refine box_event ?hgy (N := 9) ?hdy (cs := #[.int .i64 0, .int .i64 0]) (t := 23) ?hry ?_; (case hdy => rfl); (case hgy => rfl); (case hry => first | (go_simp; done) | (go_simp; rfl)); intro gy hg wy_ hbox hb; have By := Blks_new (n := y1) (d := y2) Cy hg hb hbox; have Hy := below_set (j := 1) (v := .int .i64 y2) (below_set (j := 0) (v := .int .i64 y1) (below_step Ky hb) (show w.heap.size ≤ gy by rw [hg]; exact below_size Ky)) (show w.heap.size ≤ gy by rw [hg]; exact below_size Ky); obtain ⟨nc0, nc1, nf0, nf1⟩ := blk2_ hbox; obtain ⟨ac0, ac1, _, _⟩ := blk2_ (By (ga, a0_0, a0_1) (by simp)); obtain ⟨bc0, bc1, _, _⟩ := blk2_ (By (gb, a1_0, a1_1) (by simp)); clear hb hg hbox)
    | (go_at_call 16; (with_reducible refine (rat_Mul.calls k a0_0 a0_1 a1_0 a1_1 y1 y2 y3 _ hy.out).mono ?_); rintro e_ wyc ⟨rfl, hb⟩; have Cy := Blks_below Bx hb; have Ky := below_step Hx hb; clear hb ac0 ac1 bc0 bc1)
    | ((with_reducible refine gate_dst (N := 7) rfl ?_); refine box_event ?hgx (N := 7) ?hdx (cs := #[.int .i64 0, .int .i64 0]) (t := 23) ?hrx ?_; (case hdx => rfl); (case hgx => rfl); (case hrx => first | (go_simp; done) | (go_simp; rfl)); intro gx hg wx_ hbox hb; have Bx := Blks_new (n := x1) (d := x2) Cx hg hb hbox; have Hx := below_set (j := 1) (v := .int .i64 x2) (below_set (j := 0) (v := .int .i64 x1) (below_step Kx hb) (show w.heap.size ≤ gx by rw [hg]; exact below_size Kx)) (show w.heap.size ≤ gx by rw [hg]; exact below_size Kx); obtain ⟨nc0, nc1, nf0, nf1⟩ := blk2_ hbox; obtain ⟨ac0, ac1, _, _⟩ := blk2_ (Bx (ga, a0_0, a0_1) (by simp)); obtain ⟨bc0, bc1, _, _⟩ := blk2_ (Bx (gb, a1_0, a1_1) (by simp)); clear hb hg hbox)
    | (go_at_call 15; (with_reducible refine (rat_Sub.calls k a0_0 a0_1 a1_0 a1_1 x1 x2 x3 _ hx.out).mono ?_); rintro e_ wxc ⟨rfl, hb⟩; have Cx := Blks_below Bw hb; have Kx := below_step Hw hb; clear hb ac0 ac1 bc0 bc1)
    | ((with_reducible refine gate_dst (N := 5) rfl ?_); refine box_event ?hgw (N := 5) ?hdw (cs := #[.int .i64 0, .int .i64 0]) (t := 23) ?hrw ?_; (case hdw => rfl); (case hgw => rfl); (case hrw => first | (go_simp; done) | (go_simp; rfl)); intro gw hg ww_ hbox hb; have Bw := Blks_new (n := w1) (d := w2) Cw hg hb hbox; have Hw := below_set (j := 1) (v := .int .i64 w2) (below_set (j := 0) (v := .int .i64 w1) (below_step Kw hb) (show w.heap.size ≤ gw by rw [hg]; exact below_size Kw)) (show w.heap.size ≤ gw by rw [hg]; exact below_size Kw); obtain ⟨nc0, nc1, nf0, nf1⟩ := blk2_ hbox; obtain ⟨ac0, ac1, _, _⟩ := blk2_ (Bw (ga, a0_0, a0_1) (by simp)); obtain ⟨bc0, bc1, _, _⟩ := blk2_ (Bw (gb, a1_0, a1_1) (by simp)); clear hb hg hbox)
    | (go_at_call 14; (with_reducible refine (rat_Add.calls k a0_0 a0_1 a1_0 a1_1 w1 w2 w3 _ hw.out).mono ?_); rintro e_ wwc ⟨rfl, hb⟩; have Cw := Blks_below Bb hb; have Kw := below_step Hb hb; clear hb ac0 ac1 bc0 bc1)
    | ((with_reducible refine gate_dst (N := 3) rfl ?_); refine box_event ?hgb (N := 3) ?hdb (cs := #[.int .i64 a1_0, .int .i64 a1_1]) (t := 23) ?hrb ?_; (case hdb => rfl); (case hgb => rfl); (case hrb => first | (go_simp; done) | (go_simp; rfl)); intro gb hg wb_ hbox hb; have Bb := Blks_box Ba hb hbox; have Hb := below_step Ha hb; clear hb hg hbox; obtain ⟨ac0, ac1, _, _⟩ := blk2_ (Bb (ga, a0_0, a0_1) (by simp)); obtain ⟨bc0, bc1, _, _⟩ := blk2_ (Bb (gb, a1_0, a1_1) (by simp)))
    | ((with_reducible refine gate_dst (N := 2) rfl ?_); refine box_event ?hga (N := 2) ?hda (cs := #[.int .i64 a0_0, .int .i64 a0_1]) (t := 23) ?hra ?_; (case hda => rfl); (case hga => rfl); (case hra => first | (go_simp; done) | (go_simp; rfl)); intro ga hg wa_ hbox hb; have Ba := Blks_box B0 hb hbox; have Ha := below_step HBa hb; clear hb hg hbox))
  have S0 := Blks_drew Bs
  have HS := below_drew1 Hs
  refine start_ (n := 62) (S := Blks [(gs, z1, z2), (gr, y1, y2), (gq, x1, x2), (gp, w1, w2), (gz, z1, z2), (gy, y1, y2), (gx, x1, x2), (gw, w1, w2), (gb, a1_0, a1_1), (ga, a0_0, a0_1)]) (ds := []) #[false, false, false, false, false, false, false, false, false, false, false, false, false, false, false, false, false, false, false, false, false, false, false, false, false, false, false, false, false, false, false, false, false, false, false, false, false, false, false, false, false, false, false, false, false, false, false, false, false, false, false, false, false, false, false, false, false, false, false, false, false, false] (by kernel_rfl) rfl rfl S0 (fun _ => ?_)
  generalize (((ws_.setCell ⟨gs, 0, none⟩ (.int .i64 z1)).setCell ⟨gs, 1, none⟩ (.int .i64 z2)).drew) = v0 at S0 HS ⊢
  clear Ba Bb Bw Bx By Bz Bp Bq Br Bs Cw Cx Cy Cz Cp Cq Cr Cs Ha Hb Hw Hx Hy Hz Hp Hq Hr Hs Kw Kx Ky Kz Kp Kq Kr Ks
  refine tK 0 (some 69) (bA 62 1) rfl rfl S0 (by intro w' hs_; obtain ⟨c0_, c1_, _, _⟩ := blk2_ (hs_ (gw, w1, w2) (by simp)); go_simp; with_reducible rfl) ?_
  refine tK 1 (some 70) (bA 62 3) rfl rfl S0 (by intro w' hs_; obtain ⟨c0_, c1_, _, _⟩ := blk2_ (hs_ (gp, w1, w2) (by simp)); go_simp; with_reducible rfl) ?_
  refine pK 2 (some 71) (bA 62 7) ?_
  refine pK 3 (some 72) (bA 62 15) ?_
  refine pK 4 (some 73) (bA 62 31) ?_
  refine pK 5 (some 74) (bA 62 63) ?_
  refine pK 6 (some 75) (bA 62 127) ?_
  refine pK 7 (some 76) (bA 62 255) ?_
  refine pK 8 (some 77) (bA 62 511) ?_
  refine tK 9 (some 78) (bA 62 1023) rfl rfl S0 (by intro w' hs_; obtain ⟨c0_, c1_, _, _⟩ := blk2_ (hs_ (gx, x1, x2) (by simp)); go_simp; with_reducible rfl) ?_
  refine tK 10 (some 79) (bA 62 2047) rfl rfl S0 (by intro w' hs_; obtain ⟨c0_, c1_, _, _⟩ := blk2_ (hs_ (gq, x1, x2) (by simp)); go_simp; with_reducible rfl) ?_
  refine pK 11 (some 80) (bA 62 4095) ?_
  refine pK 12 (some 81) (bA 62 8191) ?_
  refine pK 13 (some 82) (bA 62 16383) ?_
  refine pK 14 (some 83) (bA 62 32767) ?_
  refine pK 15 (some 84) (bA 62 65535) ?_
  refine pK 16 (some 85) (bA 62 131071) ?_
  refine pK 17 (some 86) (bA 62 262143) ?_
  refine pK 18 (some 87) (bA 62 524287) ?_
  refine tK 19 (some 88) (bA 62 1048575) rfl rfl S0 (by intro w' hs_; obtain ⟨c0_, c1_, _, _⟩ := blk2_ (hs_ (gy, y1, y2) (by simp)); go_simp; with_reducible rfl) ?_
  refine tK 20 (some 89) (bA 62 2097151) rfl rfl S0 (by intro w' hs_; obtain ⟨c0_, c1_, _, _⟩ := blk2_ (hs_ (gr, y1, y2) (by simp)); go_simp; with_reducible rfl) ?_
  refine pK 21 (some 90) (bA 62 4194303) ?_
  refine pK 22 (some 91) (bA 62 8388607) ?_
  refine pK 23 (some 92) (bA 62 16777215) ?_
  refine pK 24 (some 93) (bA 62 33554431) ?_
  refine pK 25 (some 94) (bA 62 67108863) ?_
  refine pK 26 (some 95) (bA 62 134217727) ?_
  refine pK 27 (some 96) (bA 62 268435455) ?_
  refine pK 28 (some 97) (bA 62 536870911) ?_
  refine tK 29 (some 98) (bA 62 1073741823) rfl rfl S0 (by intro w' hs_; obtain ⟨c0_, c1_, _, _⟩ := blk2_ (hs_ (gz, z1, z2) (by simp)); go_simp; with_reducible rfl) ?_
  refine tK 30 (some 99) (bA 62 2147483647) rfl rfl S0 (by intro w' hs_; obtain ⟨c0_, c1_, _, _⟩ := blk2_ (hs_ (gs, z1, z2) (by simp)); go_simp; with_reducible rfl) ?_
  refine pK 31 (some 100) (bA 62 4294967295) ?_
  refine pK 32 (some 101) (bA 62 8589934591) ?_
  refine pK 33 (some 102) (bA 62 17179869183) ?_
  refine pK 34 (some 103) (bA 62 34359738367) ?_
  refine pK 35 (some 104) (bA 62 68719476735) ?_
  refine pK 36 (some 105) (bA 62 137438953471) ?_
  refine pK 37 (some 106) (bA 62 274877906943) ?_
  refine pK 38 (some 107) (bA 62 549755813887) ?_
  refine tK 39 (some 108) (bA 62 1099511627775) rfl rfl S0 (by intro w' hs_; obtain ⟨c0_, c1_, _, _⟩ := blk2_ (hs_ (ga, a0_0, a0_1) (by simp)); go_simp; with_reducible rfl) ?_
  refine tK 40 (some 109) (bA 62 2199023255551) rfl rfl S0 (by intro w' hs_; obtain ⟨c0_, c1_, _, _⟩ := blk2_ (hs_ (gb, a1_0, a1_1) (by simp)); go_simp; with_reducible rfl) ?_
  refine tK 42 (some 111) (bA 62 6597069766655) rfl rfl S0 (by intro w' hs_; obtain ⟨c0_, c1_, _, _⟩ := blk2_ (hs_ (ga, a0_0, a0_1) (by simp)); go_simp; with_reducible rfl) ?_
  refine tK 43 (some 112) (bA 62 15393162788863) rfl rfl S0 (by intro w' hs_; obtain ⟨c0_, c1_, _, _⟩ := blk2_ (hs_ (gb, a1_0, a1_1) (by simp)); go_simp; with_reducible rfl) ?_
  refine one_ (i := 41) (N := some 110) (bA 62 17592186044415) rfl rfl (by kernel_rfl) (by decide) (fun K hK => ?_)
  refine goes_ Try.func19 (by kernel_rfl) rfl #[.agg #[.int .i64 a0_0, .int .i64 a0_1], .agg #[.int .i64 a1_0, .int .i64 a1_1]] (by rfl) rfl rfl (by simp only [List.map_toArray, List.map_cons, List.map_nil]; rfl) ?_
  refine (rat_Cmp.calls k a0_0 a0_1 a1_0 a1_1 c v0 hc.out).mono ?_
  rintro e_ v1 ⟨rfl, hb⟩
  refine ⟨_, rfl, ?_⟩
  have S1 := Blks_below S0 hb
  have T1 := below_step HS hb
  refine hK.out _ _ S1 (fun _ => ?_)
  clear hK K hb
  refine nK (some 110) ?_
  refine one_ (i := 44) (N := some 113) (bA 62 35184372088831) rfl rfl (by kernel_rfl) (by decide) (fun K hK => ?_)
  refine goes_ Try.func20 (by kernel_rfl) rfl #[.agg #[.int .i64 a0_0, .int .i64 a0_1], .agg #[.int .i64 a1_0, .int .i64 a1_1]] (by rfl) rfl rfl (by simp only [List.map_toArray, List.map_cons, List.map_nil]; rfl) ?_
  refine (marigraphref1_Cmp.calls k a0_0 a0_1 a1_0 a1_1 c v1 hd.out).mono ?_
  rintro e_ v2 ⟨rfl, hb⟩
  refine ⟨_, rfl, ?_⟩
  have S2 := Blks_below S1 hb
  have T2 := below_step T1 hb
  refine hK.out _ _ S2 (fun _ => ?_)
  clear hK K hb
  refine nK (some 113) ?_
  refine pK 45 (some 114) (bA 62 70368744177663) ?_
  refine pK 46 (some 115) (bA 62 140737488355327) ?_
  refine pK 47 (some 116) (bA 62 281474976710655) ?_
  refine tK 48 (some 117) (bA 62 562949953421311) rfl rfl S2 (by intro w' hs_; obtain ⟨c0_, c1_, _, _⟩ := blk2_ (hs_ (ga, a0_0, a0_1) (by simp)); go_simp; with_reducible rfl) ?_
  refine tK 50 (some 119) (bA 62 1688849860263935) rfl rfl S2 (by intro w' hs_; obtain ⟨c0_, c1_, _, _⟩ := blk2_ (hs_ (ga, a0_0, a0_1) (by simp)); go_simp; with_reducible rfl) ?_
  refine one_ (i := 49) (N := some 118) (bA 62 2251799813685247) rfl rfl (by kernel_rfl) (by decide) (fun K hK => ?_)
  refine goes_ Try.func21 (by kernel_rfl) rfl #[.agg #[.int .i64 a0_0, .int .i64 a0_1]] (by rfl) rfl rfl (by simp only [List.map_toArray, List.map_cons, List.map_nil]; rfl) ?_
  refine (rat_Right.calls k a0_0 a0_1 e v2 he.out).mono ?_
  rintro e_ v3 ⟨rfl, hb⟩
  refine ⟨_, rfl, ?_⟩
  have S3 := Blks_below S2 hb
  have T3 := below_step T2 hb
  refine hK.out _ _ S3 (fun _ => ?_)
  clear hK K hb
  refine nK (some 118) ?_
  refine one_ (i := 51) (N := some 120) (bA 62 4503599627370495) rfl rfl (by kernel_rfl) (by decide) (fun K hK => ?_)
  refine goes_ Try.func22 (by kernel_rfl) rfl #[.agg #[.int .i64 a0_0, .int .i64 a0_1]] (by rfl) rfl rfl (by simp only [List.map_toArray, List.map_cons, List.map_nil]; rfl) ?_
  refine (marigraphref1_Right.calls k a0_0 a0_1 e v3 hf.out).mono ?_
  rintro e_ v4 ⟨rfl, hb⟩
  refine ⟨_, rfl, ?_⟩
  have S4 := Blks_below S3 hb
  have T4 := below_step T3 hb
  refine hK.out _ _ S4 (fun _ => ?_)
  clear hK K hb
  refine nK (some 120) ?_
  refine pK 52 (some 121) (bA 62 9007199254740991) ?_
  refine pK 53 (some 122) (bA 62 18014398509481983) ?_
  refine pK 54 (some 123) (bA 62 36028797018963967) ?_
  refine tK 55 (some 124) (bA 62 72057594037927935) rfl rfl S4 (by intro w' hs_; obtain ⟨c0_, c1_, _, _⟩ := blk2_ (hs_ (ga, a0_0, a0_1) (by simp)); go_simp; with_reducible rfl) ?_
  refine tK 57 (some 126) (bA 62 216172782113783807) rfl rfl S4 (by intro w' hs_; obtain ⟨c0_, c1_, _, _⟩ := blk2_ (hs_ (ga, a0_0, a0_1) (by simp)); go_simp; with_reducible rfl) ?_
  refine one_ (i := 56) (N := some 125) (bA 62 288230376151711743) rfl rfl (by kernel_rfl) (by decide) (fun K hK => ?_)
  refine goes_ Try.func23 (by kernel_rfl) rfl #[.agg #[.int .i64 a0_0, .int .i64 a0_1]] (by rfl) rfl rfl (by simp only [List.map_toArray, List.map_cons, List.map_nil]; rfl) ?_
  refine (rat_Text.calls k a0_0 a0_1 t v4 ht.out).mono ?_
  rintro e_ v5 ⟨rfl, hb⟩
  refine ⟨_, rfl, ?_⟩
  have S5 := Blks_below S4 hb
  have T5 := below_step T4 hb
  refine hK.out _ _ S5 (fun _ => ?_)
  clear hK K hb
  refine nK (some 125) ?_
  refine one_ (i := 58) (N := some 127) (bA 62 576460752303423487) rfl rfl (by kernel_rfl) (by decide) (fun K hK => ?_)
  refine goes_ Try.func11 (by kernel_rfl) rfl #[.agg #[.int .i64 a0_0, .int .i64 a0_1]] (by rfl) rfl rfl (by simp only [List.map_toArray, List.map_cons, List.map_nil]; rfl) ?_
  refine (marigraphref1_Text.calls k a0_0 a0_1 t v5 hu.out).mono ?_
  rintro e_ v6 ⟨rfl, hb⟩
  refine ⟨_, rfl, ?_⟩
  have S6 := Blks_below S5 hb
  have T6 := below_step T5 hb
  refine hK.out _ _ S6 (fun _ => ?_)
  clear hK K hb
  refine nK (some 127) ?_
  refine pK 59 (some 128) (bA 62 1152921504606846975) ?_
  refine pK 60 (some 129) (bA 62 2305843009213693951) ?_
  refine pK 61 (some 4) (bA 62 4611686018427387903) ?_
  refine done_ (by kernel_rfl) ?_
  go_wp2
  go_ret
  exact ⟨rfl, T6⟩

/-! ### rat_Of: function 26 -/
def rat_Of.f (k : Nat) (a0 : Int) : Option (Int × Int × Int) := (rat_New.f k a0 1).bind fun bt243 => (some (bt243.1, bt243.2.1, bt243.2.2))
theorem rat_Of.mono : ∀ a0 k, LeO (rat_Of.f k a0) (rat_Of.f (k + 1) a0) := by
 intro a0 k
 unfold rat_Of.f
 repeat' first
   | (with_reducible exact rat_New.mono _ _ _)
   | (with_reducible exact LeO.refl _)
   | (with_reducible exact LeO.none _)
   | (with_reducible refine LeO.ite ?_ ?_)
   | (with_reducible refine LeO.bind ?_ (fun _ => ?_))
   | exact rat_New.mono _ _ _
   | exact LeO.none _
   | refine LeO.ite ?_ ?_
   | refine LeO.bind ?_ (fun _ => ?_)
set_option maxHeartbeats 8000000 in
set_option maxRecDepth 100000 in
theorem rat_Of.calls (k : Nat) (a0 : Int) (r1 : Int) (r2 : Int) (r3 : Int) (w : World) (h : rat_Of.f k a0 = some (r1, r2, r3)) :
  Calls Try.prog 26 #[.int .i64 a0] w fun e w' => e = .returned (.tuple #[.agg #[.int .i64 r1, .int .i64 r2], .int .i64 r3]) ∧ Below w.heap.size w w' := by
 have hu23 := Try.underlying23
 have HB := Aside0.mk (Below.refl w.heap.size w)
 have H : ((rat_New.f k a0 1).bind fun bt243 => (some (bt243.1, bt243.2.1, bt243.2.2))) = some (r1, r2, r3) := h
 clear h
 replace H := Option.bind_eq_some_iff.mp H
 obtain ⟨⟨t243, t244, t245⟩, A20, H⟩ := H
 replace H : (some (t243, t244, t245)) = some (r1, r2, r3) := H
 have A2 := Aside0.mk A20
 clear A20
 simp only [Option.some.injEq, Prod.mk.injEq] at H
 obtain ⟨rfl, rfl, rfl⟩ := H
 go_enter Try.func26, Try.ntmps26
 go_wp2_with (first | ((with_reducible refine gate_dst (N := 2) rfl ?_); refine box_event ?hg (N := 2) ?hd (cs := #[.int .i64 0, .int .i64 0]) (t := 23) ?hr ?_; (case hd => rfl); (case hg => rfl); (case hr => first | (go_simp; done) | (go_simp; rfl)); intro gb242 hg w3 hbox hb; have n0_ := Aside0.mk (below_step (belN HB.out) hb); have n1_ := Aside0.mk (hbox); have n2_ := Aside0.mk (szB hg HB.out); have n3_ := Aside0.mk (szB hg HB.out); clear HB; have HB := n0_; have BK242 := n1_; have GW242 := n2_; have GE242 := n3_; clear n0_ n1_ n2_ n3_; clear hb hbox hg) | ((with_reducible refine gate_callee (f := 24) rfl ?_); refine goesL_ (some 5) rfl rfl Try.func24 (by kernel_rfl) rfl #[.int .i64 a0, .int .i64 1] rfl argN ?_; (with_reducible refine (rat_New.calls k a0 1 t243 t244 t245 _ A2.out).mono ?_); rintro e w4 ⟨rfl, hb⟩; refine ⟨_, rfl, ?_⟩; have n0_ := Aside0.mk (bkB BK242.out hb); have n1_ := Aside0.mk (below_step (belS HB.out) hb); clear BK242; clear HB; have BK242 := n0_; have HB := n1_; clear n0_ n1_; (try clear hb); have hcz5_0 : w4.cell? ⟨gb242, 0, none⟩ = some (.int .i64 0) := (blk_cell BK242.out 0).trans rfl; have hcz5_1 : w4.cell? ⟨gb242, 1, none⟩ = some (.int .i64 0) := (blk_cell BK242.out 1).trans rfl; have hfz5_0 := blk_frozen BK242.out 0; have hfz5_1 := blk_frozen BK242.out 1))
 refine bodyPost_ret (results_ct rfl _ _ gb242 23 #[.int .i64 t243, .int .i64 t244] (0, 0) _ rfl (by (with_reducible repeat (first | refine blk_drewN ?_ _ | refine blk_drew ?_ | refine blk_alloc ?_ _)); refine blk_put (cs := #[.int .i64 t243, .int .i64 0]) ?_ 1 _ rfl; (with_reducible repeat (first | refine blk_drewN ?_ _ | refine blk_drew ?_ | refine blk_alloc ?_ _)); refine blk_put (cs := #[.int .i64 0, .int .i64 0]) ?_ 0 _ rfl; (with_reducible repeat (first | refine blk_drewN ?_ _ | refine blk_drew ?_ | refine blk_alloc ?_ _)); exact BK242.out) Try.underlying23 rfl (by kernel_rfl)) rfl ?_
 exact ⟨by first | rfl | (simp [errW_none, errW_some] <;> rfl) | (simp [*, errW_none, errW_some] <;> rfl), (belS HB.out)⟩

end Go.Proofs.Ytbkldplhaeaphaa.PRatTells

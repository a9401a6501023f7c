/- The walk of the Go functions that a law reaches, told as plain functions; a program of this session has written it. No condition beyond the statement's own. -/
import Derived.Test.YtmimfnangdabmaaPMergeNumbersx0
import Derived.Test.YtmimfnangdabmaaPMergeNumbersx1
namespace Go.Proofs.Ytmimfnangdabmaa.PMergeNumbers
open Go.RowKit Go.Proofs.YtmimfnangdabmaaW.PrintWords Go.Proofs.YtmimfnangdabmaaW.PrintLast Go.Proofs.YtmimfnangdabmaaW.PrintMore
attribute [local go_sem] max2_int min2_int max_two min_two max_three min_three max_four min_four   -- for this text's walks alone
set_option linter.unusedVariables false
set_option linter.unusedSimpArgs false

/-! ### merge_own: function 50 -/
def merge_own.f (l0_0 : List Int) (l0_1 : List Int) (a0_2 : Bool) : Option (List Int × List Int × Bool) := (slices_Clone_byte_byte.f l0_0).bind fun t111 => ((slices_Clone_byte_byte.f l0_1).bind fun t114 => (if a0_2 = true then (some (t111, ([] : List Int), a0_2)) else (some (t111, t114, a0_2))))
def merge_own.T1 : Bool × List (List Nat × List Nat) := (true, [([], []), ([0], [0]), ([1], [1]), ([], []), ([3], [3]), ([4, 2], [4]), ([0, 1, 2, 3, 4], []), ([6, 2, 5, 0, 1, 2, 3, 4], [2, 6]), ([0, 1, 2, 3, 4, 5, 6, 7], []), ([8, 5, 7, 0, 1, 2, 3, 4, 5, 6, 7], [5, 8])])
def merge_own.B1 : List Nat := [0, 1, 3, 0, 8, 31, 31, 127, 255, 511]
theorem merge_own.tab1 : rtab .any (opsOf Try.f50 1) = merge_own.T1 := by kernel_rfl
theorem merge_own.bits1 : waitsOk merge_own.T1.2 merge_own.B1 = true := by kernel_rfl
set_option maxHeartbeats 8000000 in
set_option maxRecDepth 100000 in
theorem merge_own.calls (A0_0 : Option Addr) (c0_0 : Nat) (l0_0 : List Int) (A0_1 : Option Addr) (c0_1 : Nat) (l0_1 : List Int) (a0_2 : Bool) (r1 : List Int) (r2 : List Int) (r3 : Bool) (w : World) (hr0_0 : Kd.C (Kd.int .u8) w A0_0 l0_0.length l0_0) (hc0_0 : l0_0.length ≤ c0_0) (hr0_1 : Kd.C (Kd.int .u8) w A0_1 l0_1.length l0_1) (hc0_1 : l0_1.length ≤ c0_1) (h : merge_own.f l0_0 l0_1 a0_2 = some (r1, r2, r3)) :
  Calls Try.prog 50 #[.agg #[.slice A0_0 l0_0.length c0_0, .slice A0_1 l0_1.length c0_1, .bool a0_2]] w fun e w' => ∃ v0_ v1_ : Value, e = .returned (.agg #[v0_, v1_, .bool r3]) ∧ Kd.R (Kd.int .u8) 5 w' w.heap.size (fun k_ => some k_ ≠ (v1_ : Value).ownBlock) v0_ r1 ∧ Kd.R (Kd.int .u8) 5 w' w.heap.size (fun k_ => some k_ ≠ (v0_ : Value).ownBlock) v1_ r2 ∧ Below w.heap.size w w' := by
 have hu49 := Try.underlying49
 have HR0_0 := Aside0.mk hr0_0
 have HC0_0 := Aside0.mk hc0_0
 clear hr0_0 hc0_0
 have HR0_1 := Aside0.mk hr0_1
 have HC0_1 := Aside0.mk hc0_1
 clear hr0_1 hc0_1
 have HB := Aside0.mk (Below.refl w.heap.size w)
 have H : ((slices_Clone_byte_byte.f l0_0).bind fun t111 => ((slices_Clone_byte_byte.f l0_1).bind fun t114 => (if a0_2 = true then (some (t111, ([] : List Int), a0_2)) else (some (t111, t114, a0_2))))) = some (r1, r2, r3) := h
 clear h
 replace H := Option.bind_eq_some_iff.mp H
 obtain ⟨t111, A20, H⟩ := H
 replace H : ((slices_Clone_byte_byte.f l0_1).bind fun t114 => (if a0_2 = true then (some (t111, ([] : List Int), a0_2)) else (some (t111, t114, a0_2)))) = some (r1, r2, r3) := H
 have A2 := Aside0.mk A20
 clear A20
 replace H := Option.bind_eq_some_iff.mp H
 obtain ⟨t114, A30, H⟩ := H
 replace H : (if a0_2 = true then (some (t111, ([] : List Int), a0_2)) else (some (t111, t114, a0_2))) = some (r1, r2, r3) := H
 have A3 := Aside0.mk A30
 clear A30
 by_cases c4 : a0_2 = true
 ·subst c4
  have H1 : (some (t111, ([] : List Int), true)) = some (r1, r2, r3) := by rw [if_pos rfl] at H; exact H
  clear H
  have H := H1
  clear H1
  simp only [Option.some.injEq, Prod.mk.injEq] at H
  obtain ⟨rfl, rfl, rfl⟩ := H
  go_enter Try.func50, Try.ntmps50
  try go_wp2_with (first | ((with_reducible refine gate_dst (N := 1) rfl ?_); refine box_event ?hg (N := 1) ?hd (cs := #[.slice A0_0 l0_0.length c0_0, .slice A0_1 l0_1.length c0_1, .bool true]) (t := 49) ?hr ?_; (case hd => rfl); (case hg => rfl); (case hr => first | (go_simp; done) | (go_simp; rfl)); intro gb109 hg w5 hbox hb; have n0_ := Aside0.mk (below_step (belN HB.out) hb); have n1_ := Aside0.mk (hbox); have n2_ := Aside0.mk (szB hg HB.out); have n3_ := Aside0.mk (szB hg HB.out); clear HB; have HB := n0_; have BK109 := n1_; have GW109 := n2_; have GE109 := n3_; clear n0_ n1_ n2_ n3_; clear hb hbox hg) | ((with_reducible refine gate_dst (N := 2) rfl ?_); refine box_event ?hg (N := 2) ?hd (cs := #[.slice none 0 0, .slice none 0 0, .bool false]) (t := 49) ?hr ?_; (case hd => rfl); (case hg => rfl); (case hr => first | (go_simp; done) | (go_simp; rfl)); intro gb110 hg w6 hbox hb; have n0_ := Aside0.mk (bkB BK109.out hb); have n1_ := Aside0.mk (below_step (belS HB.out) hb); have n2_ := Aside0.mk (hbox); have n3_ := Aside0.mk (szB hg HB.out); have n4_ := Aside0.mk (szB hg HB.out); have n5_ := Aside0.mk ((bk1 hg BK109.out)); have n6_ := Aside0.mk ((bk2 hg BK109.out)); clear BK109; clear HB; have BK109 := n0_; have HB := n1_; have BK110 := n2_; have GW110 := n3_; have GE110 := n4_; have NB109_110 := n5_; have NB110_109 := n6_; clear n0_ n1_ n2_ n3_ n4_ n5_ n6_; clear hb hbox hg))
  have n0_ := Aside0.mk (blk_drew BK109.out)
  have n1_ := Aside0.mk (blk_drew BK110.out)
  have n2_ := Aside0.mk (below_drew1 HB.out)
  clear BK109
  clear BK110
  clear HB
  have BK109 := n0_
  have BK110 := n1_
  have HB := n2_
  clear n0_ n1_ n2_
  refine start_ (n := 10) (S := fun w' => w'.cell? ⟨gb109, 0, none⟩ = some (.slice A0_0 l0_0.length c0_0) ∧ w'.cell? ⟨gb109, 1, none⟩ = some (.slice A0_1 l0_1.length c0_1) ∧ w'.cell? ⟨gb109, 2, none⟩ = some (.bool true)) (ds := [7, 9]) #[false, false, false, false, false, false, false, false, false, false] (by kernel_rfl) rfl rfl ⟨(blk_cell BK109.out 0).trans rfl, (blk_cell BK109.out 1).trans rfl, (blk_cell BK109.out 2).trans rfl⟩ (fun hHeld => ?_); refine with_tabW merge_own.tab1 merge_own.bits1 (fun HT_ HW_ => ?_)
  generalize w6.drew = w7 at BK109 BK110 HB hHeld ⊢
  refine pA 0 (some 3) (bA 10 1) HT_.out ?_
  refine pA 3 (some 6) (bA 10 9) HT_.out ?_
  refine take_ (i := 1) (N := some 4) (v := ?_) (a' := ?_) (bA 10 11) rfl rfl (take_ofW HT_.out HW_.out (by kernel_rfl)) (fun _ _ _ h => h) (Or.inl ⟨by rfl, ?_⟩) hHeld ?_ ?_
  rotate_left
  ·rintro w' ⟨s0, s1, s2⟩
   go_simp
   with_reducible rfl
  rotate_left
  ·simp only [Act.put, List.setIfInBounds_toArray, List.set_cons_zero, List.set_cons_succ, i64_w, i32_w]
   rfl
  refine take_ (i := 4) (N := some 7) (v := ?_) (a' := ?_) (bA 10 27) rfl rfl (take_ofW HT_.out HW_.out (by kernel_rfl)) (fun _ _ _ h => h) (Or.inl ⟨by rfl, ?_⟩) hHeld ?_ ?_
  rotate_left
  ·rintro w' ⟨s0, s1, s2⟩
   go_simp
   with_reducible rfl
  rotate_left
  ·simp only [Act.put, List.setIfInBounds_toArray, List.set_cons_zero, List.set_cons_succ, i64_w, i32_w]
   rfl
  refine one_ (i := 2) (N := some 5) (bA 10 31) rfl rfl (one_of HT_.out (by kernel_rfl)) (by decide) (fun K hK => ?_)
  refine goes_ Try.func45 (by kernel_rfl) rfl #[.slice A0_0 l0_0.length c0_0] (by rfl) rfl rfl argN ?_
  with_reducible refine (slices_Clone_byte_byte.calls _ _ l0_0 t111 _ ?side1 ?side2 A2.out).mono ?_
  (case side1 => repeat (first | exact (Kd.C_below HR0_0.out HB.out) | (with_reducible refine Kd.C_alloc ?_ _) | (with_reducible refine Kd.C_drewN ?_ _) | (with_reducible refine Kd.C_drew ?_)))
  (case side2 => exact HC0_0.out)
  rintro e w8 ⟨v112, rfl, ho0, hb⟩
  refine ⟨_, rfl, ?_⟩
  have n0_ := Aside0.mk (Kd.R_lower ho0 (below_size (belS HB.out)))
  have n1_ := Aside0.mk (bkB BK109.out hb)
  have n2_ := Aside0.mk (bkB BK110.out hb)
  have n3_ := Aside0.mk (below_step (belS HB.out) hb)
  clear BK109
  clear BK110
  clear HB
  have HO113 := n0_
  have BK109 := n1_
  have BK110 := n2_
  have HB := n3_
  clear n0_ n1_ n2_ n3_
  (try clear hb)
  (try clear hk)
  (try clear ho0)
  refine hK.out _ _ ⟨(blk_cell BK109.out 0).trans rfl, (blk_cell BK109.out 1).trans rfl, (blk_cell BK109.out 2).trans rfl⟩ (fun hHeld => ?_)
  clear hK K
  refine norm_ (a' := ?_) ?_ ?_
  rotate_left
  ·show Act.put _ (some 5) _ = _
   simp only [Act.put, List.setIfInBounds_toArray, List.set_cons_zero, List.set_cons_succ, i64_w, i32_w]
   rfl
  refine pA 6 (some 9) (bA 10 95) HT_.out ?_
  refine one_ (i := 5) (N := some 8) (bA 10 127) rfl rfl (one_of HT_.out (by kernel_rfl)) (by decide) (fun K hK => ?_)
  refine goes_ Try.func45 (by kernel_rfl) rfl #[.slice A0_1 l0_1.length c0_1] (by rfl) rfl rfl argN ?_
  with_reducible refine (slices_Clone_byte_byte.calls _ _ l0_1 t114 _ ?side1 ?side2 A3.out).mono ?_
  (case side1 => repeat (first | exact (Kd.C_below HR0_1.out HB.out) | (with_reducible refine Kd.C_alloc ?_ _) | (with_reducible refine Kd.C_drewN ?_ _) | (with_reducible refine Kd.C_drew ?_)))
  (case side2 => exact HC0_1.out)
  rintro e w9 ⟨v115, rfl, ho0, hb⟩
  refine ⟨_, rfl, ?_⟩
  have n0_ := Aside0.mk (Kd.R_elder' (rowN HO113.out) (Kd.R_base ho0) hb)
  have n1_ := Aside0.mk (Kd.R_lower (Kd.R_new' ho0 (Kd.R_lt (rowN HO113.out))) (below_size (belS HB.out)))
  have n2_ := Aside0.mk (bkB BK109.out hb)
  have n3_ := Aside0.mk (bkB BK110.out hb)
  have n4_ := Aside0.mk (below_step (belS HB.out) hb)
  clear HO113
  clear BK109
  clear BK110
  clear HB
  have HO113 := n0_
  have HO116 := n1_
  have BK109 := n2_
  have BK110 := n3_
  have HB := n4_
  clear n0_ n1_ n2_ n3_ n4_
  (try clear hb)
  (try clear hk)
  (try clear ho0)
  obtain ⟨Ao10, co10, eo10⟩ := Kd.R_slice HO113.out
  (first | subst eo10 | (injection eo10 with f1_ f2_ f3_; have f4_ := f1_.symm; have f5_ := f3_.symm; clear f1_ f2_ f3_; subst f4_; subst f5_))
  obtain ⟨Ao12, co12, eo12⟩ := Kd.R_slice HO116.out
  (first | subst eo12 | (injection eo12 with f1_ f2_ f3_; have f4_ := f1_.symm; have f5_ := f3_.symm; clear f1_ f2_ f3_; subst f4_; subst f5_))
  refine hK.out _ _ ⟨(blk_cell BK109.out 0).trans rfl, (blk_cell BK109.out 1).trans rfl, (blk_cell BK109.out 2).trans rfl⟩ (fun hHeld => ?_)
  clear hK K
  refine norm_ (a' := ?_) ?_ ?_
  rotate_left
  ·show Act.put _ (some 8) _ = _
   simp only [Act.put, List.setIfInBounds_toArray, List.set_cons_zero, List.set_cons_succ, i64_w, i32_w]
   rfl
  refine last_ (i := 7) (N := none) (bA 10 255) rfl rfl (one_of HT_.out (by kernel_rfl)) (by decide) (fun K hK => ?_)
  have hs11 : w9.cell? ⟨gb109, 0, none⟩ = some (.slice A0_0 l0_0.length c0_0) := (blk_cell BK109.out 0).trans rfl
  have hfs11 := blk_frozen BK109.out 0
  have hns11_1 := NB110_109.out
  have hms11_1 := NB109_110.out
  refine skip_ (w1 := ?_) (by rfl) rfl ?_ ?_
  rotate_left
  ·go_simp
   rfl
  refine hK.out _ _ ?_
  clear hK K
  refine pA 8 (some 10) (bA 10 511) HT_.out ?_
  refine last_ (i := 9) (N := none) (bA 10 1023) rfl rfl (one_of HT_.out (by kernel_rfl)) (by decide) (fun K hK => ?_)
  have hs13 : w9.cell? ⟨gb109, 1, none⟩ = some (.slice A0_1 l0_1.length c0_1) := (blk_cell BK109.out 1).trans rfl
  have hfs13 := blk_frozen BK109.out 1
  have hns13_1 := NB110_109.out
  have hms13_1 := NB109_110.out
  refine skip_ (w1 := ?_) (by rfl) rfl ?_ ?_
  rotate_left
  ·go_simp
   rfl
  refine hK.out _ _ ?_
  clear hK K
  refine done_ (done_of HT_.out (by kernel_rfl)) ?_
  have x1_ := blk_put (blk_put BK109.out 0 (.slice Ao10 t111.length co10) rfl) 1 (.slice Ao12 t114.length co12) rfl
  have x2_ := blk_far (p := ⟨gb109, 1, none⟩) (blk_far (p := ⟨gb109, 0, none⟩) BK110.out NB110_109.out (.slice Ao10 t111.length co10)) NB110_109.out (.slice Ao12 t114.length co12)
  have x3_ := Kd.R_mono (ok' := fun _ => True) (Kd.R_set (Kd.R_set HO113.out BK109.out (by decide) 0 (.slice Ao10 t111.length co10)) (blk_put BK109.out 0 (.slice Ao10 t111.length co10) rfl) (by decide) 1 (.slice Ao12 t114.length co12)) (fun _ _ => trivial)
  have x4_ := below_set (j := 1) (v := (.slice Ao12 t114.length co12)) (below_set (j := 0) (v := (.slice Ao10 t111.length co10)) (belN HB.out) GW109.out) GW109.out
  have x5_ := NB110_109.out
  have x6_ := GW109.out
  have x7_ := GW110.out
  generalize ((w9.setCell ⟨gb109, 0, none⟩ (.slice Ao10 t111.length co10)).setCell ⟨gb109, 1, none⟩ (.slice Ao12 t114.length co12)) = wz at x1_ x2_ x3_ x4_ ⊢
  have y0 : wz.cell? ⟨gb109, 0, none⟩ = some (.slice Ao10 t111.length co10) := (blk_cell x1_ 0).trans rfl
  have y1 : wz.cell? ⟨gb109, 1, none⟩ = some (.slice Ao12 t114.length co12) := (blk_cell x1_ 1).trans rfl
  have y2 : wz.cell? ⟨gb109, 2, none⟩ = some (.bool true) := (blk_cell x1_ 2).trans rfl
  have y3 := blk_frozen x1_ 1
  have z0 : wz.cell? ⟨gb110, 0, none⟩ = some (.slice none 0 0) := (blk_cell x2_ 0).trans rfl
  have z1 : wz.cell? ⟨gb110, 1, none⟩ = some (.slice none 0 0) := (blk_cell x2_ 1).trans rfl
  have z2 : wz.cell? ⟨gb110, 2, none⟩ = some (.bool false) := (blk_cell x2_ 2).trans rfl
  have z3 := blk_frozen x2_ 0
  have z4 := blk_frozen x2_ 1
  have z5 := blk_frozen x2_ 2
  have x8_ := x5_.symm
  clear HO113 HB
  go_wp2
  have u1_ := blk_put x1_ 1 (.slice none 0 0) rfl
  have u2_ := blk_far (p := ⟨gb109, 1, none⟩) x2_ x5_ (.slice none 0 0)
  have u3_ := blk_put (blk_put (blk_put u2_ 0 (.slice Ao10 t111.length co10) rfl) 1 (.slice none 0 0) rfl) 2 (.bool true) rfl
  refine bodyPost_ret (results_cell_row rfl _ _ gb110 49 #[(.slice Ao10 t111.length co10), .slice none 0 0, .bool true] (0, 0) _ rfl (u3_.trans rfl) hu49 rfl (by kernel_rfl)) rfl ?_
  exact ⟨_, _, rfl, Kd.R_mono (Kd.R_set (Kd.R_set (Kd.R_set (Kd.R_set x3_ x1_ (by decide) 1 (.slice none 0 0)) u2_ (by decide) 0 (.slice Ao10 t111.length co10)) (blk_put u2_ 0 (.slice Ao10 t111.length co10) rfl) (by decide) 1 (.slice none 0 0)) (blk_put (blk_put u2_ 0 (.slice Ao10 t111.length co10) rfl) 1 (.slice none 0 0) rfl) (by decide) 2 (.bool true)) (fun _ _ => by simp [Value.ownBlock]), Kd.R_nil _ _ _ _ _, below_set (below_set (below_set (below_set x4_ x6_) x7_) x7_) x7_⟩
 ·replace c4 := Bool.eq_false_iff.mpr c4
  subst c4
  have H1 : (some (t111, t114, false)) = some (r1, r2, r3) := by rw [if_neg (show ¬ (false = true) by decide)] at H; exact H
  clear H
  have H := H1
  clear H1
  simp only [Option.some.injEq, Prod.mk.injEq] at H
  obtain ⟨rfl, rfl, rfl⟩ := H
  go_enter Try.func50, Try.ntmps50
  try go_wp2_with (first | ((with_reducible refine gate_dst (N := 1) rfl ?_); refine box_event ?hg (N := 1) ?hd (cs := #[.slice A0_0 l0_0.length c0_0, .slice A0_1 l0_1.length c0_1, .bool false]) (t := 49) ?hr ?_; (case hd => rfl); (case hg => rfl); (case hr => first | (go_simp; done) | (go_simp; rfl)); intro gb109 hg w17 hbox hb; have n0_ := Aside0.mk (below_step (belN HB.out) hb); have n1_ := Aside0.mk (hbox); have n2_ := Aside0.mk (szB hg HB.out); have n3_ := Aside0.mk (szB hg HB.out); clear HB; have HB := n0_; have BK109 := n1_; have GW109 := n2_; have GE109 := n3_; clear n0_ n1_ n2_ n3_; clear hb hbox hg) | ((with_reducible refine gate_dst (N := 2) rfl ?_); refine box_event ?hg (N := 2) ?hd (cs := #[.slice none 0 0, .slice none 0 0, .bool false]) (t := 49) ?hr ?_; (case hd => rfl); (case hg => rfl); (case hr => first | (go_simp; done) | (go_simp; rfl)); intro gb110 hg w18 hbox hb; have n0_ := Aside0.mk (bkB BK109.out hb); have n1_ := Aside0.mk (below_step (belS HB.out) hb); have n2_ := Aside0.mk (hbox); have n3_ := Aside0.mk (szB hg HB.out); have n4_ := Aside0.mk (szB hg HB.out); have n5_ := Aside0.mk ((bk1 hg BK109.out)); have n6_ := Aside0.mk ((bk2 hg BK109.out)); clear BK109; clear HB; have BK109 := n0_; have HB := n1_; have BK110 := n2_; have GW110 := n3_; have GE110 := n4_; have NB109_110 := n5_; have NB110_109 := n6_; clear n0_ n1_ n2_ n3_ n4_ n5_ n6_; clear hb hbox hg))
  have n0_ := Aside0.mk (blk_drew BK109.out)
  have n1_ := Aside0.mk (blk_drew BK110.out)
  have n2_ := Aside0.mk (below_drew1 HB.out)
  clear BK109
  clear BK110
  clear HB
  have BK109 := n0_
  have BK110 := n1_
  have HB := n2_
  clear n0_ n1_ n2_
  refine start_ (n := 10) (S := fun w' => w'.cell? ⟨gb109, 0, none⟩ = some (.slice A0_0 l0_0.length c0_0) ∧ w'.cell? ⟨gb109, 1, none⟩ = some (.slice A0_1 l0_1.length c0_1) ∧ w'.cell? ⟨gb109, 2, none⟩ = some (.bool false)) (ds := [7, 9]) #[false, false, false, false, false, false, false, false, false, false] (by kernel_rfl) rfl rfl ⟨(blk_cell BK109.out 0).trans rfl, (blk_cell BK109.out 1).trans rfl, (blk_cell BK109.out 2).trans rfl⟩ (fun hHeld => ?_); refine with_tabW merge_own.tab1 merge_own.bits1 (fun HT_ HW_ => ?_)
  generalize w18.drew = w19 at BK109 BK110 HB hHeld ⊢
  refine pA 0 (some 3) (bA 10 1) HT_.out ?_
  refine pA 3 (some 6) (bA 10 9) HT_.out ?_
  refine take_ (i := 1) (N := some 4) (v := ?_) (a' := ?_) (bA 10 11) rfl rfl (take_ofW HT_.out HW_.out (by kernel_rfl)) (fun _ _ _ h => h) (Or.inl ⟨by rfl, ?_⟩) hHeld ?_ ?_
  rotate_left
  ·rintro w' ⟨s0, s1, s2⟩
   go_simp
   with_reducible rfl
  rotate_left
  ·simp only [Act.put, List.setIfInBounds_toArray, List.set_cons_zero, List.set_cons_succ, i64_w, i32_w]
   rfl
  refine take_ (i := 4) (N := some 7) (v := ?_) (a' := ?_) (bA 10 27) rfl rfl (take_ofW HT_.out HW_.out (by kernel_rfl)) (fun _ _ _ h => h) (Or.inl ⟨by rfl, ?_⟩) hHeld ?_ ?_
  rotate_left
  ·rintro w' ⟨s0, s1, s2⟩
   go_simp
   with_reducible rfl
  rotate_left
  ·simp only [Act.put, List.setIfInBounds_toArray, List.set_cons_zero, List.set_cons_succ, i64_w, i32_w]
   rfl
  refine one_ (i := 2) (N := some 5) (bA 10 31) rfl rfl (one_of HT_.out (by kernel_rfl)) (by decide) (fun K hK => ?_)
  refine goes_ Try.func45 (by kernel_rfl) rfl #[.slice A0_0 l0_0.length c0_0] (by rfl) rfl rfl argN ?_
  with_reducible refine (slices_Clone_byte_byte.calls _ _ l0_0 t111 _ ?side1 ?side2 A2.out).mono ?_
  (case side1 => repeat (first | exact (Kd.C_below HR0_0.out HB.out) | (with_reducible refine Kd.C_alloc ?_ _) | (with_reducible refine Kd.C_drewN ?_ _) | (with_reducible refine Kd.C_drew ?_)))
  (case side2 => exact HC0_0.out)
  rintro e w20 ⟨v112, rfl, ho0, hb⟩
  refine ⟨_, rfl, ?_⟩
  have n0_ := Aside0.mk (Kd.R_lower ho0 (below_size (belS HB.out)))
  have n1_ := Aside0.mk (bkB BK109.out hb)
  have n2_ := Aside0.mk (bkB BK110.out hb)
  have n3_ := Aside0.mk (below_step (belS HB.out) hb)
  clear BK109
  clear BK110
  clear HB
  have HO113 := n0_
  have BK109 := n1_
  have BK110 := n2_
  have HB := n3_
  clear n0_ n1_ n2_ n3_
  (try clear hb)
  (try clear hk)
  (try clear ho0)
  refine hK.out _ _ ⟨(blk_cell BK109.out 0).trans rfl, (blk_cell BK109.out 1).trans rfl, (blk_cell BK109.out 2).trans rfl⟩ (fun hHeld => ?_)
  clear hK K
  refine norm_ (a' := ?_) ?_ ?_
  rotate_left
  ·show Act.put _ (some 5) _ = _
   simp only [Act.put, List.setIfInBounds_toArray, List.set_cons_zero, List.set_cons_succ, i64_w, i32_w]
   rfl
  refine pA 6 (some 9) (bA 10 95) HT_.out ?_
  refine one_ (i := 5) (N := some 8) (bA 10 127) rfl rfl (one_of HT_.out (by kernel_rfl)) (by decide) (fun K hK => ?_)
  refine goes_ Try.func45 (by kernel_rfl) rfl #[.slice A0_1 l0_1.length c0_1] (by rfl) rfl rfl argN ?_
  with_reducible refine (slices_Clone_byte_byte.calls _ _ l0_1 t114 _ ?side1 ?side2 A3.out).mono ?_
  (case side1 => repeat (first | exact (Kd.C_below HR0_1.out HB.out) | (with_reducible refine Kd.C_alloc ?_ _) | (with_reducible refine Kd.C_drewN ?_ _) | (with_reducible refine Kd.C_drew ?_)))
  (case side2 => exact HC0_1.out)
  rintro e w21 ⟨v115, rfl, ho0, hb⟩
  refine ⟨_, rfl, ?_⟩
  have n0_ := Aside0.mk (Kd.R_elder' (rowN HO113.out) (Kd.R_base ho0) hb)
  have n1_ := Aside0.mk (Kd.R_lower (Kd.R_new' ho0 (Kd.R_lt (rowN HO113.out))) (below_size (belS HB.out)))
  have n2_ := Aside0.mk (bkB BK109.out hb)
  have n3_ := Aside0.mk (bkB BK110.out hb)
  have n4_ := Aside0.mk (below_step (belS HB.out) hb)
  clear HO113
  clear BK109
  clear BK110
  clear HB
  have HO113 := n0_
  have HO116 := n1_
  have BK109 := n2_
  have BK110 := n3_
  have HB := n4_
  clear n0_ n1_ n2_ n3_ n4_
  (try clear hb)
  (try clear hk)
  (try clear ho0)
  obtain ⟨Ao22, co22, eo22⟩ := Kd.R_slice HO113.out
  (first | subst eo22 | (injection eo22 with f1_ f2_ f3_; have f4_ := f1_.symm; have f5_ := f3_.symm; clear f1_ f2_ f3_; subst f4_; subst f5_))
  obtain ⟨Ao24, co24, eo24⟩ := Kd.R_slice HO116.out
  (first | subst eo24 | (injection eo24 with f1_ f2_ f3_; have f4_ := f1_.symm; have f5_ := f3_.symm; clear f1_ f2_ f3_; subst f4_; subst f5_))
  refine hK.out _ _ ⟨(blk_cell BK109.out 0).trans rfl, (blk_cell BK109.out 1).trans rfl, (blk_cell BK109.out 2).trans rfl⟩ (fun hHeld => ?_)
  clear hK K
  refine norm_ (a' := ?_) ?_ ?_
  rotate_left
  ·show Act.put _ (some 8) _ = _
   simp only [Act.put, List.setIfInBounds_toArray, List.set_cons_zero, List.set_cons_succ, i64_w, i32_w]
   rfl
  refine last_ (i := 7) (N := none) (bA 10 255) rfl rfl (one_of HT_.out (by kernel_rfl)) (by decide) (fun K hK => ?_)
  have hs23 : w21.cell? ⟨gb109, 0, none⟩ = some (.slice A0_0 l0_0.length c0_0) := (blk_cell BK109.out 0).trans rfl
  have hfs23 := blk_frozen BK109.out 0
  have hns23_1 := NB110_109.out
  have hms23_1 := NB109_110.out
  refine skip_ (w1 := ?_) (by rfl) rfl ?_ ?_
  rotate_left
  ·go_simp
   rfl
  refine hK.out _ _ ?_
  clear hK K
  refine pA 8 (some 10) (bA 10 511) HT_.out ?_
  refine last_ (i := 9) (N := none) (bA 10 1023) rfl rfl (one_of HT_.out (by kernel_rfl)) (by decide) (fun K hK => ?_)
  have hs25 : w21.cell? ⟨gb109, 1, none⟩ = some (.slice A0_1 l0_1.length c0_1) := (blk_cell BK109.out 1).trans rfl
  have hfs25 := blk_frozen BK109.out 1
  have hns25_1 := NB110_109.out
  have hms25_1 := NB109_110.out
  refine skip_ (w1 := ?_) (by rfl) rfl ?_ ?_
  rotate_left
  ·go_simp
   rfl
  refine hK.out _ _ ?_
  clear hK K
  refine done_ (done_of HT_.out (by kernel_rfl)) ?_
  have hnb26 := NB109_110.out
  have hnc26 := NB110_109.out
  have hcz27_0 : w21.cell? ⟨gb109, 0, none⟩ = some (.slice A0_0 l0_0.length c0_0) := (blk_cell BK109.out 0).trans rfl
  have hcz27_1 : w21.cell? ⟨gb109, 1, none⟩ = some (.slice A0_1 l0_1.length c0_1) := (blk_cell BK109.out 1).trans rfl
  have hcz27_2 : w21.cell? ⟨gb109, 2, none⟩ = some (.bool false) := (blk_cell BK109.out 2).trans rfl
  have hfz27_0 := blk_frozen BK109.out 0
  have hfz27_1 := blk_frozen BK109.out 1
  have hfz27_2 := blk_frozen BK109.out 2
  have hcz28_0 : w21.cell? ⟨gb110, 0, none⟩ = some (.slice none 0 0) := (blk_cell BK110.out 0).trans rfl
  have hcz28_1 : w21.cell? ⟨gb110, 1, none⟩ = some (.slice none 0 0) := (blk_cell BK110.out 1).trans rfl
  have hcz28_2 : w21.cell? ⟨gb110, 2, none⟩ = some (.bool false) := (blk_cell BK110.out 2).trans rfl
  have hfz28_0 := blk_frozen BK110.out 0
  have hfz28_1 := blk_frozen BK110.out 1
  have hfz28_2 := blk_frozen BK110.out 2
  try go_wp2
  refine bodyPost_ret (results_cell_row rfl _ _ gb110 49 #[.slice Ao22 t111.length co22, .slice Ao24 t114.length co24, .bool false] (0, 0) _ rfl (by (with_reducible repeat (first | refine blk_drewN ?_ _ | refine blk_drew ?_ | refine blk_alloc ?_ _)); refine blk_put (cs := #[.slice Ao22 t111.length co22, .slice Ao24 t114.length co24, .bool false]) ?_ 2 _ rfl; (with_reducible repeat (first | refine blk_drewN ?_ _ | refine blk_drew ?_ | refine blk_alloc ?_ _)); refine blk_put (cs := #[.slice Ao22 t111.length co22, .slice none 0 0, .bool false]) ?_ 1 _ rfl; (with_reducible repeat (first | refine blk_drewN ?_ _ | refine blk_drew ?_ | refine blk_alloc ?_ _)); refine blk_put (cs := #[.slice none 0 0, .slice none 0 0, .bool false]) ?_ 0 _ rfl; (with_reducible repeat (first | refine blk_drewN ?_ _ | refine blk_drew ?_ | refine blk_alloc ?_ _)); refine blk_far ?_ NB110_109.out _; (with_reducible repeat (first | refine blk_drewN ?_ _ | refine blk_drew ?_ | refine blk_alloc ?_ _)); refine blk_far ?_ NB110_109.out _; (with_reducible repeat (first | refine blk_drewN ?_ _ | refine blk_drew ?_ | refine blk_alloc ?_ _)); exact BK110.out) Try.underlying49 rfl (by kernel_rfl)) rfl ?_
  exact ⟨_, _, by first | rfl | (simp [errW_none, errW_some] <;> rfl) | (simp [*, errW_none, errW_some] <;> rfl), by (with_reducible repeat (first | apply Kd.R_alloc | apply Kd.R_drewN | apply Kd.R_drew)); exact Kd.R_mono (Kd.R_far (p := ⟨gb110, 2, none⟩) (Kd.R_far (p := ⟨gb110, 1, none⟩) (Kd.R_far (p := ⟨gb110, 0, none⟩) (Kd.R_far (p := ⟨gb109, 1, none⟩) (Kd.R_far (p := ⟨gb109, 0, none⟩) (Kd.R_types (Kd.R_types HO113.out BK109.out (by decide)) BK110.out (by decide)) (fun _ hk => hk.1.2) (.slice Ao22 t111.length co22)) (fun _ hk => hk.1.2) (.slice Ao24 t114.length co24)) (fun _ hk => hk.2) (.slice Ao22 t111.length co22)) (fun _ hk => hk.2) (.slice Ao24 t114.length co24)) (fun _ hk => hk.2) (.bool false)) (fun _ hk => hk.1.1.2), by (with_reducible repeat (first | apply Kd.R_alloc | apply Kd.R_drewN | apply Kd.R_drew)); exact Kd.R_mono (Kd.R_far (p := ⟨gb110, 2, none⟩) (Kd.R_far (p := ⟨gb110, 1, none⟩) (Kd.R_far (p := ⟨gb110, 0, none⟩) (Kd.R_far (p := ⟨gb109, 1, none⟩) (Kd.R_far (p := ⟨gb109, 0, none⟩) (Kd.R_types (Kd.R_types HO116.out BK109.out (by decide)) BK110.out (by decide)) (fun _ hk => hk.1.2) (.slice Ao22 t111.length co22)) (fun _ hk => hk.1.2) (.slice Ao24 t114.length co24)) (fun _ hk => hk.2) (.slice Ao22 t111.length co22)) (fun _ hk => hk.2) (.slice Ao24 t114.length co24)) (fun _ hk => hk.2) (.bool false)) (fun _ hk => hk.1.1.2), (belS HB.out)⟩

/-! ### merge_Join: function 26, by hand (rows behind pointers, method values in slices) -/
/-- A source: what is left of a row, behind a pointer. -/
structure Sr (w0 w : World) (s : Nat) (q : List S49) : Prop where
  at_ : ∃ A c, w.heap[s]? = some (.cells #[.slice A q.length c] 73 (0, 0)) ∧ Kd.C k49 w0 A q.length q ∧ q.length ≤ c
  below : Below w0.heap.size w0 w
  own : w0.heap.size ≤ s
theorem Sr.later {w0 w w1 : World} {s : Nat} {q : List S49} (h : Sr w0 w s q) (hb : Below w.heap.size w w1) : Sr w0 w1 s q := by
  obtain ⟨⟨A, c, hs, hC, hc⟩, HB, hg⟩ := h
  exact ⟨⟨A, c, blk_below hs hb, hC, hc⟩, below_step HB hb, hg⟩
theorem Sr.far {w0 w : World} {s s' j : Nat} {q : List S49} (h : Sr w0 w s q) (hne : s ≠ s') (hg' : w0.heap.size ≤ s') (v : Value) : Sr w0 (w.setCell ⟨s', j, none⟩ v) s q := by
  obtain ⟨⟨A, c, hb, hC, hc⟩, HB, hg⟩ := h
  exact ⟨⟨A, c, blk_far (p := ⟨s', j, none⟩) hb hne v, hC, hc⟩, below_set HB hg', hg⟩
theorem Sr.grown {w0 w w1 : World} {s : Nat} {row : Option Nat} {q : List S49} (h : Sr w0 w s q) (hg1 : w.grownBy w1 row) (hne : some s ≠ row) (hB : Below w0.heap.size w0 w1) : Sr w0 w1 s q := by
  obtain ⟨⟨A, c, hb, hC, hc⟩, HB, hg⟩ := h
  exact ⟨⟨A, c, blk_grown hb hg1 hne, hC, hc⟩, hB, hg⟩
theorem Sr.keep {w0 w w1 : World} {s s' : Nat} {q : List S49} (h : Sr w0 w s q) (hk : KeepBut w w1 s' none) (hne : s ≠ s') (hB : Below w0.heap.size w0 w1) : Sr w0 w1 s q := by
  obtain ⟨⟨A, c, hb, hC, hc⟩, HB, hg⟩ := h
  exact ⟨⟨A, c, hk.blk hb hne (by simp), hC, hc⟩, hB, hg⟩
/-- The next entry of a row; false: there is none. -/
def entI : List S49 → S49 × Bool
  | [] => (z49, false)
  | x :: _ => (x, true)
/-- An entry's value, of what came in. -/
def EntV (w0 : World) (x : S49) (v : Value) : Prop :=
  ∃ A0 c0 A1 c1, v = .agg #[.slice A0 x.f0.length c0, .slice A1 x.f1.length c1, .bool x.f2] ∧ x.f0.length ≤ c0 ∧ Kd.C (Kd.int .u8) w0 A0 x.f0.length x.f0 ∧ x.f1.length ≤ c1 ∧ Kd.C (Kd.int .u8) w0 A1 x.f1.length x.f1
theorem entV_z (w0 : World) : EntV w0 z49 (.agg #[.slice none 0 0, .slice none 0 0, .bool false]) := ⟨none, 0, none, 0, rfl, Nat.le_refl _, Kd.C_nil _ _, Nat.le_refl _, Kd.C_nil _ _⟩
set_option maxHeartbeats 8000000 in
set_option maxRecDepth 100000 in
theorem head_calls {w0 w : World} {s : Nat} {q : List S49} (h : Sr w0 w s q) :
    Calls Try.prog 47 #[.pointer (some ⟨s, 0, none⟩)] w fun e w' => Below w.heap.size w w' ∧ ∃ v, e = .returned (.tuple #[v, .bool (entI q).2]) ∧ EntV w0 (entI q).1 v := by
  obtain ⟨⟨A, c, hb, hC, hc⟩, HB, hg⟩ := h
  have hu73 := Try.underlying73
  have hu49 := Try.underlying49
  have hbA := blk_alloc hb (Obj.cells #[Value.slice none 0 0, Value.slice none 0 0, Value.bool false] 49)
  have hce : (w.alloc (Obj.cells #[Value.slice none 0 0, Value.slice none 0 0, Value.bool false] 49)).cell? ⟨s, 0, none⟩ = some (.slice A q.length c) := (blk_cell hbA 0).trans rfl
  have hnew := blk_new w (Obj.cells #[Value.slice none 0 0, Value.slice none 0 0, Value.bool false] 49)
  have hBA : Below w.heap.size w (w.alloc (Obj.cells #[Value.slice none 0 0, Value.slice none 0 0, Value.bool false] 49)) := below_alloc (Below.refl _ _) _
  have hC1 := Kd.C_below (Kd.C_below hC HB) hBA
  have hsz : (w.alloc (Obj.cells #[Value.slice none 0 0, Value.slice none 0 0, Value.bool false] 49)).heap.size = w.heap.size + 1 := Array.size_push _
  go_enter Try.func47, Try.ntmps47
  go_upto_region 1 with (fail)
  generalize (w.alloc (Obj.cells #[Value.slice none 0 0, Value.slice none 0 0, Value.bool false] 49)) = W at hbA hce hnew hBA hC1 hsz ⊢
  have n0 : W.cell? ⟨w.heap.size, 0, none⟩ = some (.slice none 0 0) := (blk_cell hnew 0).trans rfl
  have n1 : W.cell? ⟨w.heap.size, 1, none⟩ = some (.slice none 0 0) := (blk_cell hnew 1).trans rfl
  have n2 : W.cell? ⟨w.heap.size, 2, none⟩ = some (.bool false) := (blk_cell hnew 2).trans rfl
  have z0 := blk_frozen hnew 0
  have z1 := blk_frozen hnew 1
  have z2 := blk_frozen hnew 2
  have hend : ∀ (tmps : Array Value) (v0 v1 : Value) (b ok : Bool) (x : S49), tmps.getD 2 undef = .pointer (some ⟨w.heap.size, 0, none⟩) → tmps.getD 3 undef = .bool ok → entI q = (x, ok) → EntV w0 x (.agg #[v0, v1, .bool b]) →
      bodyPost Try.prog Try.f47 (fun e w' => Below w.heap.size w w' ∧ ∃ v, e = .returned (.tuple #[v, .bool (entI q).2]) ∧ EntV w0 (entI q).1 v) .ret { tmps := tmps, defers := [] } (((W.setCell ⟨w.heap.size, 0, none⟩ v0).setCell ⟨w.heap.size, 1, none⟩ v1).setCell ⟨w.heap.size, 2, none⟩ (.bool b)) := by
    intro tmps v0 v1 b ok x h2 h3 he hv
    have hb3 := blk_put (blk_put (blk_put hnew 0 v0 rfl) 1 v1 rfl) 2 (.bool b) rfl
    refine bodyPost_ret (results_list (rs := [.cell 2 49, .tmp 3]) rfl (by simp) (.cell w.heap.size 49 _ (0, 0) _ h2 hb3 hu49 rfl (by kernel_rfl) (.tmp .nil))) rfl ⟨below_set (below_set (below_set hBA (Nat.le_refl _)) (Nat.le_refl _)) (Nat.le_refl _), .agg #[v0, v1, .bool b], ?_, ?_⟩
    · rw [he, h3]
      rfl
    · rw [he]
      exact hv
  cases q with
  | nil =>
    go_wp2
    exact hend _ _ _ _ false z49 rfl rfl rfl (entV_z w0)
  | cons x q =>
    obtain ⟨ad, cs, eA, hcl, hK, hcc⟩ := Kd.C_get hC z49 0 (by decide) (by simp only [List.length_cons]; omega)
    obtain ⟨A0, c0, A1, c1, rfl, l0, g0, l1, g1⟩ := k49_open hK
    subst eA
    have hBW := below_step HB hBA
    have up : ∀ {a : Addr} {v : Value}, w0.cell? a = some v → W.cell? a = some v := fun h => (hBW.cell (World.block_lt_of_cell? _ _ h)).trans h
    have hx0 : W.cell? ad = some (.slice A0 x.f0.length c0) := up (by have := hcc 0 _ rfl; simpa [Addr.add] using this)
    have hx1 : W.cell? ⟨ad.block, ad.off + 1, none⟩ = some (.slice A1 x.f1.length c1) := up (by have := hcc 1 _ rfl; simpa [Addr.add] using this)
    have hx2 : W.cell? ⟨ad.block, ad.off + 2, none⟩ = some (.bool x.f2) := up (by have := hcc 2 _ rfl; simpa [Addr.add] using this)
    have hp : (0 < (x :: q).length) = True := eq_true (by simp)
    have hz : (((x :: q).length : Int) == 0) = false := beq_eq_false_iff_ne.2 (by simp only [List.length_cons]; omega)
    go_wp2
    exact hend _ _ _ _ true x rfl rfl rfl ⟨A0, c0, A1, c1, rfl, l0, g0, l1, g1⟩
def lessI (a b : List Int) : Bool := decide (Lib.compareBytes (Lib.bytesOf a) (Lib.bytesOf b) < 0)
theorem less_tells (a b : List Int) : octet_Less.f a b = some (lessI a b) := rfl
/-- A row behind a key. -/
def passI (key : List Int) (q : List S49) : List S49 := if (entI q).2 = true ∧ lessI key (entI q).1.f0 = false then q.drop 1 else q
set_option maxHeartbeats 8000000 in
set_option maxRecDepth 100000 in
theorem pass_calls {w0 w : World} {s : Nat} {q : List S49} (h : Sr w0 w s q) {A : Option Addr} {c : Nat} {key : List Int} (hk : Kd.C (Kd.int .u8) w0 A key.length key) (hkc : key.length ≤ c) :
    Calls Try.prog 48 #[.pointer (some ⟨s, 0, none⟩), .slice A key.length c] w fun e w' => e = .returned (.tuple #[]) ∧ KeepBut w w' s none ∧ Sr w0 w' s (passI key q) := by
  have hH := head_calls h
  have hu73 := Try.underlying73
  have hu49 := Try.underlying49
  obtain ⟨⟨Aq, cq, hb, hC, hc⟩, HB, hg⟩ := h
  have hlt := blk_lt hb
  obtain ⟨r, hr⟩ : ∃ r, r = passI key q := ⟨_, rfl⟩
  rw [← hr]
  unfold passI at hr
  replace hr := Aside0.mk hr
  generalize hen : entI q = en at *
  obtain ⟨x, ok⟩ := en
  go_enter Try.func48, Try.ntmps48
  go_upto_region 1 with (go_at_call 47; refine hH.mono ?_; rintro e w1 ⟨hb1, v1, rfl, ⟨A0, c0, A1, c1, rfl, l0, g0, l1, g1⟩⟩)
  have hb2 : Below w.heap.size w (w1.alloc (Obj.cells #[Value.slice A0 x.f0.length c0, Value.slice A1 x.f1.length c1, Value.bool x.f2] 49)) := below_alloc hb1 _
  have hnew := blk_new w1 (Obj.cells #[Value.slice A0 x.f0.length c0, Value.slice A1 x.f1.length c1, Value.bool x.f2] 49)
  generalize (w1.alloc (Obj.cells #[Value.slice A0 x.f0.length c0, Value.slice A1 x.f1.length c1, Value.bool x.f2] 49)) = w2 at hb2 hnew ⊢
  have hS2 : Sr w0 w2 s q := Sr.later ⟨⟨Aq, cq, hb, hC, hc⟩, HB, hg⟩ hb2
  have hB2 := hS2.below
  have hx0 : w2.cell? ⟨w1.heap.size, 0, none⟩ = some (.slice A0 x.f0.length c0) := (blk_cell hnew 0).trans rfl
  have hbq := blk_below hb hb2
  have hce : w2.cell? ⟨s, 0, none⟩ = some (.slice Aq q.length cq) := (blk_cell hbq 0).trans rfl
  have hfz := blk_frozen hbq 0
  cases ok with
  | false =>
    have hr1 := hr.out
    rw [if_neg (fun hh => Bool.noConfusion hh.1)] at hr1
    subst hr1
    go_wp2
    go_end0
    exact ⟨rfl, KeepBut.of_below hb2 _ _, hS2⟩
  | true =>
    have hless := octet_Less.calls A c key A0 c0 x.f0 (lessI key x.f0) w2 (Kd.C_below hk hB2) hkc (Kd.C_below g0 hB2) l0 (less_tells _ _)
    cases hl : lessI key x.f0 with
    | true =>
      rw [hl] at hless
      have hr1 := hr.out
      rw [if_neg (fun hh => by rw [hl] at hh; exact Bool.noConfusion hh.2)] at hr1
      subst hr1
      go_wp2_with (go_at_call 54; refine hless.mono ?_; rintro e w3 ⟨rfl, n, rfl⟩)
      go_end0
      exact ⟨rfl, KeepBut.of_below (pw_below_drewN hb2 n) _ _, hS2.later (pw_below_drewN (Below.refl _ _) n)⟩
    | false =>
      rw [hl] at hless
      have hr1 := hr.out
      rw [if_pos ⟨rfl, hl⟩] at hr1
      subst hr1
      have hq1 : 1 ≤ q.length := by
        cases q with
        | nil => injection hen with _ e2; cases e2
        | cons y r => simp only [List.length_cons]; omega
      obtain ⟨i0, hi0, _, hs0_, _⟩ := info_parts info49
      have hcut := cut_from (P := Try.prog) 37 49 .i64 Try.underlying37 hi0 3 hs0_ Aq q.length cq 1 (by decide) (by omega)
      have hCd := Kd.C_drop hC hq1 hc
      rw [List.length_drop, show k49.sz = 3 from rfl] at hCd
      simp only [show (1 : Int).toNat = 1 from rfl] at hcut
      generalize (if cq = 1 then Aq else Aq.map (·.add (1 * 3))) = AD at hcut hCd
      go_wp2_with (go_at_call 54; refine hless.mono ?_; rintro e w3 ⟨rfl, n, rfl⟩)
      go_end0
      refine ⟨rfl, (KeepBut.of_below (pw_below_drewN hb2 n) s none).set_ 0 _, ⟨AD, cq - 1, ?_, ?_, ?_⟩, below_set (pw_below_drewN hB2 n) hg, hg⟩
      · rw [List.length_drop]
        exact (blk_put (blk_drewN hbq n) 0 _ rfl).trans rfl
      · rw [List.length_drop]
        exact hCd
      · rw [List.length_drop]
        omega
theorem info74 : (Try.prog.info? 74).map (fun i => (i.zero, i.size, i.bytes)) = some (some .nilFunc, 1, 8) := by kernel_rfl
theorem info75 : (Try.prog.info? 75).map (fun i => (i.zero, i.size, i.bytes)) = some (some .nilFunc, 1, 8) := by kernel_rfl
/-- A method value of a source's: head, pass. -/
def kHead : Kd Nat := Kd.scalar (fun s => Value.func (.func 47) #[.pointer (some ⟨s, 0, none⟩)] #[]) (fun _ => rfl)
def kPass : Kd Nat := Kd.scalar (fun s => Value.func (.func 48) #[.pointer (some ⟨s, 0, none⟩)] #[]) (fun _ => rfl)
theorem at_head {w : World} {A : Option Addr} {n : Nat} {ss : List Nat} (h : Kd.C kHead w A n ss) (i : Int) (h0 : 0 ≤ i) (h1 : i < n) : ∃ ad, A = some ad ∧ w.cell? (ad.add i.toNat) = some (.func (.func 47) #[.pointer (some ⟨ss.getD i.toNat 0, 0, none⟩)] #[]) := by
  obtain ⟨ad, c, e, _, hK, hc0⟩ := Kd.C_get h 0 i h0 h1
  have hc : ∀ j u, c[j]? = some u → w.cell? (ad.add (i.toNat * 1 + j)) = some u := hc0
  have hK' : c = [Value.func (.func 47) #[.pointer (some ⟨ss.getD i.toNat 0, 0, none⟩)] #[]] := hK
  subst hK'
  exact ⟨ad, e, by have hq := hc 0 _ rfl; rwa [Nat.mul_one, Nat.add_zero] at hq⟩
theorem at_pass {w : World} {A : Option Addr} {n : Nat} {ss : List Nat} (h : Kd.C kPass w A n ss) (i : Int) (h0 : 0 ≤ i) (h1 : i < n) : ∃ ad, A = some ad ∧ w.cell? (ad.add i.toNat) = some (.func (.func 48) #[.pointer (some ⟨ss.getD i.toNat 0, 0, none⟩)] #[]) := by
  obtain ⟨ad, c, e, _, hK, hc0⟩ := Kd.C_get h 0 i h0 h1
  have hc : ∀ j u, c[j]? = some u → w.cell? (ad.add (i.toNat * 1 + j)) = some u := hc0
  have hK' : c = [Value.func (.func 48) #[.pointer (some ⟨ss.getD i.toNat 0, 0, none⟩)] #[]] := hK
  subst hK'
  exact ⟨ad, e, by have hq := hc 0 _ rfl; rwa [Nat.mul_one, Nat.add_zero] at hq⟩
/-- The sources: each block has what is left of its row. -/
structure Srs (w0 w : World) (ss : List Nat) (qs : List (List S49)) : Prop where
  len : qs.length = ss.length
  src : ∀ (i s : Nat), ss[i]? = some s → Sr w0 w s (qs.getD i [])
  apart : ∀ (i j s : Nat), ss[i]? = some s → ss[j]? = some s → i = j
/-- One more head: is its key less than the least so far? -/
def firstStep (a : S49 × Bool) (q : List S49) : S49 × Bool := if (entI q).2 = true ∧ (a.2 = false ∨ lessI (entI q).1.f0 a.1.f0 = true) then ((entI q).1, true) else a
def firstI (qs : List (List S49)) : S49 × Bool := qs.foldl firstStep (z49, false)
theorem ent_cells {w0 : World} {x : S49} {A0 A1 : Option Addr} {c0 c1 : Nat} (l0 : x.f0.length ≤ c0) (g0 : Kd.C (Kd.int .u8) w0 A0 x.f0.length x.f0) (l1 : x.f1.length ≤ c1) (g1 : Kd.C (Kd.int .u8) w0 A1 x.f1.length x.f1) : EntV w0 x (.agg #[.slice A0 x.f0.length c0, .slice A1 x.f1.length c1, .bool x.f2]) := ⟨A0, c0, A1, c1, rfl, l0, g0, l1, g1⟩
/-- A block that holds an entry of what came in. -/
def EntB (w0 w : World) (g : Nat) (x : S49) : Prop := ∃ A0 c0 A1 c1, w.heap[g]? = some (.cells #[.slice A0 x.f0.length c0, .slice A1 x.f1.length c1, .bool x.f2] 49 (0, 0)) ∧ x.f0.length ≤ c0 ∧ Kd.C (Kd.int .u8) w0 A0 x.f0.length x.f0 ∧ x.f1.length ≤ c1 ∧ Kd.C (Kd.int .u8) w0 A1 x.f1.length x.f1
set_option maxHeartbeats 8000000 in
set_option maxRecDepth 100000 in
theorem first_calls {w0 w : World} {ss : List Nat} {qs : List (List S49)} (h : Srs w0 w ss qs) {A : Option Addr} {c : Nat} (hA : Kd.C kHead w A ss.length ss) (hB0 : Below w0.heap.size w0 w) :
    Calls Try.prog 49 #[.slice A ss.length c] w fun e w' => Below w.heap.size w w' ∧ ∃ v, e = .returned (.tuple #[v, .bool (firstI qs).2]) ∧ EntV w0 (firstI qs).1 v := by
  have hu49 := Try.underlying49
  obtain ⟨r, hr⟩ : ∃ r, r = firstI qs := ⟨_, rfl⟩
  rw [← hr]
  have hb1 := blk_alloc (blk_new w (Obj.cells #[Value.slice none 0 0, Value.slice none 0 0, Value.bool false] 49)) (Obj.cells #[Value.slice none 0 0, Value.slice none 0 0, Value.bool false] 49)
  have hb2 := blk_new (w.alloc (Obj.cells #[Value.slice none 0 0, Value.slice none 0 0, Value.bool false] 49)) (Obj.cells #[Value.slice none 0 0, Value.slice none 0 0, Value.bool false] 49)
  have hz1 : (w.alloc (Obj.cells #[Value.slice none 0 0, Value.slice none 0 0, Value.bool false] 49)).heap.size = w.heap.size + 1 := Array.size_push _
  rw [hz1] at hb2
  have hBB : Below w.heap.size w ((w.alloc (Obj.cells #[Value.slice none 0 0, Value.slice none 0 0, Value.bool false] 49)).alloc (Obj.cells #[Value.slice none 0 0, Value.slice none 0 0, Value.bool false] 49)) := below_alloc (below_alloc (Below.refl _ _) _) _
  go_enter Try.func49, Try.ntmps49
  go_upto_region 3 with (fail)
  generalize ((w.alloc (Obj.cells #[Value.slice none 0 0, Value.slice none 0 0, Value.bool false] 49)).alloc (Obj.cells #[Value.slice none 0 0, Value.slice none 0 0, Value.bool false] 49)) = W at hb1 hb2 hBB ⊢
  clear hz1
  have hlim : ss.length ≤ 9223372036854775807 := by have := hA.2.1; omega
  go_wp2
  go_loopg [5, 12] (ss.length + 1) (fun kq v5 v12 w' => ∃ (j : Int) (a : S49 × Bool), v5 = .bool a.2 ∧ v12 = .int .i64 j ∧ Aside0 (0 ≤ j ∧ j ≤ (ss.length : Int) ∧ ss.length + 1 ≤ kq + j.toNat) ∧ Aside0 ((qs.drop j.toNat).foldl firstStep a = r) ∧ Aside0 (EntB w0 w' (w.heap.size + 1) a.1) ∧ Aside0 (w'.heap[w.heap.size]? = some (.cells #[.slice none 0 0, .slice none 0 0, .bool false] 49 (0, 0))) ∧ Aside0 (Below w.heap.size w w'))
  case atStart => exact ⟨0, (z49, false), rfl, rfl, ⟨by omega, by omega, by omega⟩, ⟨hr.symm⟩, ⟨⟨none, 0, none, 0, hb2, Nat.le_refl _, Kd.C_nil _ _, Nat.le_refl _, Kd.C_nil _ _⟩⟩, ⟨hb1⟩, ⟨hBB⟩⟩
  case round =>
    clear hb1 hb2 hBB
    obtain ⟨j, ⟨y, found⟩, rfl, rfl, hj, hf, hE, hres, hbel⟩ := hrel
    dsimp only at hE ⊢
    obtain ⟨E0, e0, E1, e1, hEb, el0, eg0, el1, eg1⟩ := hE.out
    by_cases hjn : j < (ss.length : Int)
    rotate_left
    · have hd : decide (j < (ss.length : Int)) = false := decide_eq_false hjn
      have hf' := hf.out
      rw [List.drop_of_length_le (by have := hj.out; have := h.len; omega)] at hf'
      have hf2 : (y, found) = r := hf'
      have c0 : wr.cell? ⟨w.heap.size + 1, 0, none⟩ = some (.slice E0 y.f0.length e0) := (blk_cell hEb 0).trans rfl
      have c1 : wr.cell? ⟨w.heap.size + 1, 1, none⟩ = some (.slice E1 y.f1.length e1) := (blk_cell hEb 1).trans rfl
      have c2 : wr.cell? ⟨w.heap.size + 1, 2, none⟩ = some (.bool y.f2) := (blk_cell hEb 2).trans rfl
      have d0 : wr.cell? ⟨w.heap.size, 0, none⟩ = some (.slice none 0 0) := (blk_cell hres.out 0).trans rfl
      have d1 : wr.cell? ⟨w.heap.size, 1, none⟩ = some (.slice none 0 0) := (blk_cell hres.out 1).trans rfl
      have d2 : wr.cell? ⟨w.heap.size, 2, none⟩ = some (.bool false) := (blk_cell hres.out 2).trans rfl
      have z0 := blk_frozen hres.out 0
      have z1 := blk_frozen hres.out 1
      have z2 := blk_frozen hres.out 2
      go_wp2
      have hb3 := blk_put (blk_put (blk_put hres.out 0 (.slice E0 y.f0.length e0) rfl) 1 (.slice E1 y.f1.length e1) rfl) 2 (.bool y.f2) rfl
      refine bodyPost_ret (results_list (rs := [.cell 2 49, .tmp 3]) rfl (by simp) (.cell w.heap.size 49 _ (0, 0) _ rfl hb3 hu49 rfl (by kernel_rfl) (.tmp .nil))) rfl ⟨below_set (below_set (below_set hbel.out (Nat.le_refl _)) (Nat.le_refl _)) (Nat.le_refl _), .agg #[.slice E0 y.f0.length e0, .slice E1 y.f1.length e1, .bool y.f2], ?_, ?_⟩
      · rw [← hf2.trans hr]
        rfl
      · rw [← hf2.trans hr]
        exact ent_cells el0 eg0 el1 eg1
    have hd : decide (j < (ss.length : Int)) = true := decide_eq_true hjn
    have hjl : j.toNat < ss.length := by have := hj.out; omega
    have hs := (h.src j.toNat _ (List.getElem?_eq_getElem hjl)).later hbel.out
    obtain ⟨ad, eA, hcell⟩ := at_head (Kd.C_below hA hbel.out) j hj.out.1 hjn
    rw [List.getD_eq_getElem?_getD, List.getElem?_eq_getElem hjl, Option.getD_some] at hcell
    have hf' := hf.out
    rw [List.drop_eq_getElem_cons (show j.toNat < qs.length by rw [h.len]; exact hjl), List.foldl_cons] at hf'
    have hq : qs[j.toNat]'(by rw [h.len]; exact hjl) = qs.getD j.toNat [] := by rw [List.getD_eq_getElem?_getD, List.getElem?_eq_getElem (show j.toNat < qs.length by rw [h.len]; exact hjl)]; rfl
    rw [hq] at hf'
    clear hq hf
    generalize qs.getD j.toNat [] = q at hf' hs
    generalize ss[j.toNat] = s at hs hcell
    have hf2 := Aside0.mk hf'
    clear hf'
    subst eA
    have p4 : (0 ≤ j) = True := eq_true hj.out.1
    have q4 : (j < (ss.length : Int)) = True := eq_true hjn
    have hwj : wrap64 (j + 1) = j + 1 := by have := hj.out; unfold wrap64; omega
    unfold firstStep at hf2
    have hH := head_calls hs
    generalize entI q = en at hH hf2
    obtain ⟨x, ok⟩ := en
    dsimp only at hH hf2
    go_upto_region 7 with (go_at_call 47; refine hH.mono ?_; rintro e w3 ⟨hb3, v3, rfl, ⟨A0, c0, A1, c1, rfl, l0, g0, l1, g1⟩⟩)
    have hb4 : Below wr.heap.size wr (w3.alloc (Obj.cells #[Value.slice A0 x.f0.length c0, Value.slice A1 x.f1.length c1, Value.bool x.f2] 49)) := below_alloc hb3 _
    have hnew := blk_new w3 (Obj.cells #[Value.slice A0 x.f0.length c0, Value.slice A1 x.f1.length c1, Value.bool x.f2] 49)
    have hE3 : w.heap.size + 1 < w3.heap.size := Nat.lt_of_lt_of_le (blk_lt hEb) hb3.size
    generalize (w3.alloc (Obj.cells #[Value.slice A0 x.f0.length c0, Value.slice A1 x.f1.length c1, Value.bool x.f2] 49)) = w4 at hb4 hnew ⊢
    generalize w3.heap.size = e3 at hnew hE3 ⊢
    clear hb3 hH
    have hEb4 := blk_below hEb hb4
    have hres4 := blk_below hres.out hb4
    have hbel4 := below_step hbel.out hb4
    have hB4 := below_step hB0 hbel4
    have x0 : w4.cell? ⟨e3, 0, none⟩ = some (.slice A0 x.f0.length c0) := (blk_cell hnew 0).trans rfl
    have x1 : w4.cell? ⟨e3, 1, none⟩ = some (.slice A1 x.f1.length c1) := (blk_cell hnew 1).trans rfl
    have x2 : w4.cell? ⟨e3, 2, none⟩ = some (.bool x.f2) := (blk_cell hnew 2).trans rfl
    have y0 : w4.cell? ⟨w.heap.size + 1, 0, none⟩ = some (.slice E0 y.f0.length e0) := (blk_cell hEb4 0).trans rfl
    have y1 : w4.cell? ⟨w.heap.size + 1, 1, none⟩ = some (.slice E1 y.f1.length e1) := (blk_cell hEb4 1).trans rfl
    have y2 : w4.cell? ⟨w.heap.size + 1, 2, none⟩ = some (.bool y.f2) := (blk_cell hEb4 2).trans rfl
    have z0 := blk_frozen hEb4 0
    have z1 := blk_frozen hEb4 1
    have z2 := blk_frozen hEb4 2
    have hf3 := hf2.out
    clear hf2
    have hless := octet_Less.calls A0 c0 x.f0 E0 e0 y.f0 (lessI x.f0 y.f0) w4 (Kd.C_below g0 hB4) l0 (Kd.C_below eg0 hB4) el0 (less_tells _ _)
    have taken : ∀ n : Nat, EntB w0 ((((w4.drewN n).setCell ⟨w.heap.size + 1, 0, none⟩ (.slice A0 x.f0.length c0)).setCell ⟨w.heap.size + 1, 1, none⟩ (.slice A1 x.f1.length c1)).setCell ⟨w.heap.size + 1, 2, none⟩ (.bool x.f2)) (w.heap.size + 1) x := fun n => ⟨A0, c0, A1, c1, blk_put (blk_put (blk_put (blk_drewN hEb4 n) 0 _ rfl) 1 _ rfl) 2 _ rfl, l0, g0, l1, g1⟩
    have kept : ∀ n : Nat, ((((w4.drewN n).setCell ⟨w.heap.size + 1, 0, none⟩ (.slice A0 x.f0.length c0)).setCell ⟨w.heap.size + 1, 1, none⟩ (.slice A1 x.f1.length c1)).setCell ⟨w.heap.size + 1, 2, none⟩ (.bool x.f2)).heap[w.heap.size]? = some (.cells #[.slice none 0 0, .slice none 0 0, .bool false] 49 (0, 0)) := fun n => blk_far (p := ⟨w.heap.size + 1, 2, none⟩) (blk_far (p := ⟨w.heap.size + 1, 1, none⟩) (blk_far (p := ⟨w.heap.size + 1, 0, none⟩) (blk_drewN hres4 n) (Nat.ne_of_lt (Nat.lt_succ_self _)) _) (Nat.ne_of_lt (Nat.lt_succ_self _)) _) (Nat.ne_of_lt (Nat.lt_succ_self _)) _
    have bels : ∀ n : Nat, Below w.heap.size w ((((w4.drewN n).setCell ⟨w.heap.size + 1, 0, none⟩ (.slice A0 x.f0.length c0)).setCell ⟨w.heap.size + 1, 1, none⟩ (.slice A1 x.f1.length c1)).setCell ⟨w.heap.size + 1, 2, none⟩ (.bool x.f2)) := fun n => below_set (below_set (below_set (pw_below_drewN hbel4 n) (Nat.le_succ _)) (Nat.le_succ _)) (Nat.le_succ _)
    cases ok with
    | false =>
      rw [if_neg (fun hh => Bool.noConfusion hh.1)] at hf3
      go_wp2
      go_roundg (gk - 1)
      case measure => have := hj.out; omega
      case rel => exact ⟨j + 1, (y, found), rfl, by first | rfl | rw [hwj], ⟨by have := hj.out; omega, by omega, by have := hj.out; omega⟩, ⟨by rw [show (j + 1).toNat = j.toNat + 1 by have := hj.out; omega]; exact hf3⟩, ⟨⟨E0, e0, E1, e1, hEb4, el0, eg0, el1, eg1⟩⟩, ⟨hres4⟩, ⟨hbel4⟩⟩
    | true =>
      cases found with
      | false =>
        rw [if_pos ⟨rfl, .inl rfl⟩] at hf3
        go_wp2
        go_roundg (gk - 1)
        case measure => have := hj.out; omega
        case rel => exact ⟨j + 1, (x, true), rfl, by first | rfl | rw [hwj], ⟨by have := hj.out; omega, by omega, by have := hj.out; omega⟩, ⟨by rw [show (j + 1).toNat = j.toNat + 1 by have := hj.out; omega]; exact hf3⟩, ⟨taken 0⟩, ⟨kept 0⟩, ⟨bels 0⟩⟩
      | true =>
        cases hl : lessI x.f0 y.f0 with
        | true =>
          rw [hl] at hless
          rw [if_pos ⟨rfl, .inr hl⟩] at hf3
          go_wp2_with (go_at_call 54; refine hless.mono ?_; rintro e w5 ⟨rfl, n, rfl⟩)
          go_roundg (gk - 1)
          case measure => have := hj.out; omega
          case rel => exact ⟨j + 1, (x, true), rfl, by first | rfl | rw [hwj], ⟨by have := hj.out; omega, by omega, by have := hj.out; omega⟩, ⟨by rw [show (j + 1).toNat = j.toNat + 1 by have := hj.out; omega]; exact hf3⟩, ⟨taken n⟩, ⟨kept n⟩, ⟨bels n⟩⟩
        | false =>
          rw [hl] at hless
          rw [if_neg (fun hh => hh.2.elim (fun e => Bool.noConfusion e) (fun e => by rw [hl] at e; exact Bool.noConfusion e))] at hf3
          go_wp2_with (go_at_call 54; refine hless.mono ?_; rintro e w5 ⟨rfl, n, rfl⟩)
          go_roundg (gk - 1)
          case measure => have := hj.out; omega
          case rel => exact ⟨j + 1, (y, true), rfl, by first | rfl | rw [hwj], ⟨by have := hj.out; omega, by omega, by have := hj.out; omega⟩, ⟨by rw [show (j + 1).toNat = j.toNat + 1 by have := hj.out; omega]; exact hf3⟩, ⟨⟨E0, e0, E1, e1, blk_drewN hEb4 n, el0, eg0, el1, eg1⟩⟩, ⟨blk_drewN hres4 n⟩, ⟨pw_below_drewN hbel4 n⟩⟩
theorem Srs.grown {w0 w w1 : World} {ss : List Nat} {qs : List (List S49)} {row : Option Nat} (h : Srs w0 w ss qs) (hg : w.grownBy w1 row) {t : Nat} (hty : ∀ k, row = some k → ∃ cells, w.heap[k]? = some (.cells cells t (0, 0))) (ht : t ≠ 73) (hB : Below w0.heap.size w0 w1) : Srs w0 w1 ss qs := by
  refine ⟨h.len, fun i s hs => (h.src i s hs).grown hg (fun e => ?_) hB, h.apart⟩
  obtain ⟨cells, hc⟩ := hty s e.symm
  obtain ⟨⟨A, c, hb, _⟩, _⟩ := h.src i s hs
  rw [hc] at hb
  injection hb with hb
  injection hb with _ hb
  exact ht hb
theorem Srs.later {w0 w w1 : World} {ss : List Nat} {qs : List (List S49)} (h : Srs w0 w ss qs) (hb : Below w.heap.size w w1) : Srs w0 w1 ss qs := ⟨h.len, fun i s hs => (h.src i s hs).later hb, h.apart⟩
theorem Sr.lt {w0 w : World} {s : Nat} {q : List S49} (h : Sr w0 w s q) : s < w.heap.size := by
  obtain ⟨⟨A, c, hb, _⟩, _⟩ := h
  exact blk_lt hb
theorem Srs.add {w0 w w1 : World} {ss : List Nat} {qs : List (List S49)} (h : Srs w0 w ss qs) (hb : Below w.heap.size w w1) {s : Nat} {q : List S49} (hs : Sr w0 w1 s q) (hnew : w.heap.size ≤ s) : Srs w0 w1 (ss ++ [s]) (qs ++ [q]) := by
  refine ⟨by rw [List.length_append, List.length_append, h.len]; rfl, fun i k hk => ?_, fun i j k hi hj => ?_⟩
  · by_cases hil : i < ss.length
    · rw [List.getElem?_append_left hil] at hk
      rw [List.getD_eq_getElem?_getD, List.getElem?_append_left (by rw [h.len]; exact hil), ← List.getD_eq_getElem?_getD]
      exact (h.src i k hk).later hb
    · rw [List.getElem?_append_right (by omega)] at hk
      rw [List.getD_eq_getElem?_getD, List.getElem?_append_right (by rw [h.len]; omega), h.len]
      cases hd : i - ss.length with
      | zero =>
        rw [hd] at hk
        injection hk with hk
        subst hk
        exact hs
      | succ n => rw [hd] at hk; cases hk
  · have old : ∀ i, i < ss.length → (ss ++ [s])[i]? = some k → ss[i]? = some k ∧ k < s := fun i hil hk => by
      rw [List.getElem?_append_left hil] at hk
      exact ⟨hk, Nat.lt_of_lt_of_le (h.src i k hk).lt hnew⟩
    have new : ∀ i, ¬ i < ss.length → (ss ++ [s])[i]? = some k → i = ss.length ∧ k = s := fun i hil hk => by
      rw [List.getElem?_append_right (by omega)] at hk
      cases hd : i - ss.length with
      | zero => rw [hd] at hk; injection hk with hk; exact ⟨by omega, hk.symm⟩
      | succ n => rw [hd] at hk; cases hk
    by_cases hil : i < ss.length
    · by_cases hjl : j < ss.length
      · exact h.apart i j k (old i hil hi).1 (old j hjl hj).1
      · have := (old i hil hi).2; have := (new j hjl hj).2; omega
    · by_cases hjl : j < ss.length
      · have := (old j hjl hj).2; have := (new i hil hi).2; omega
      · have := (new i hil hi).1; have := (new j hjl hj).1; omega
theorem Srs.put {w0 w w1 : World} {ss : List Nat} {qs : List (List S49)} (h : Srs w0 w ss qs) {i s : Nat} {q : List S49} (hs : ss[i]? = some s) (hk : KeepBut w w1 s none) (hB : Below w0.heap.size w0 w1) (hn : Sr w0 w1 s q) : Srs w0 w1 ss (qs.set i q) := by
  refine ⟨by rw [List.length_set, h.len], fun j k hj => ?_, h.apart⟩
  have hjl : j < qs.length := by rw [h.len]; exact (List.getElem?_eq_some_iff.1 hj).1
  by_cases hij : i = j
  · subst hij
    rw [hs] at hj
    injection hj with hj
    subst hj
    rw [List.getD_eq_getElem?_getD, List.getElem?_set_self hjl]
    exact hn
  · rw [List.getD_eq_getElem?_getD, List.getElem?_set_ne hij, ← List.getD_eq_getElem?_getD]
    exact (h.src j k hj).keep hk (fun e => hij (h.apart i j k (by rw [e]; exact hs) hj)) hB
theorem mid_at {f : List S49 → List S49} {qs : List (List S49)} {i : Nat} (hi : i < qs.length) : ((qs.take i).map f ++ qs.drop i).getD i [] = qs.getD i [] := by
  have hl : ((qs.take i).map f).length = i := by rw [List.length_map, List.length_take]; omega
  rw [List.getD_eq_getElem?_getD, List.getElem?_append_right (by omega), hl, Nat.sub_self, List.getElem?_drop, Nat.add_zero, ← List.getD_eq_getElem?_getD]
theorem mid_set {f : List S49 → List S49} {qs : List (List S49)} {i : Nat} (hi : i < qs.length) : ((qs.take i).map f ++ qs.drop i).set i (f (qs.getD i [])) = (qs.take (i + 1)).map f ++ qs.drop (i + 1) := by
  have hl : ((qs.take i).map f).length = i := by rw [List.length_map, List.length_take]; omega
  have hg : qs.getD i [] = qs[i] := by rw [List.getD_eq_getElem?_getD, List.getElem?_eq_getElem hi]; rfl
  rw [List.set_append_right _ _ (by omega), hl, Nat.sub_self, List.drop_eq_getElem_cons hi, List.set_cons_zero, List.take_add_one, List.getElem?_eq_getElem hi, hg, List.map_append, List.append_assoc]
  rfl
/-- The rows, each behind its key. -/
def joinL : Nat → List (List S49) → List S49 → Option (List S49)
  | 0, _, _ => none
  | n + 1, qs, out => if (firstI qs).2 = true then (if out.length < 1000000000 then (merge_own.f (firstI qs).1.f0 (firstI qs).1.f1 (firstI qs).1.f2).bind (fun p => joinL n (qs.map (passI (firstI qs).1.f0)) (out ++ [⟨p.1, p.2.1, p.2.2⟩])) else none) else some out
def merge_Join.f (l0 : List (List S49)) : Option (List S49) := if l0.length < 1000000000 then joinL ((l0.map List.length).sum + 1) l0 [] else none
set_option maxHeartbeats 8000000 in
set_option maxRecDepth 100000 in
theorem merge_Join.calls (A0 : Option Addr) (c0 : Nat) (l0 : List (List S49)) (r : List S49) (w : World) (hr0 : Kd.C (Kd.slice 49 k49) w A0 l0.length l0) (hc0 : l0.length ≤ c0) (h : merge_Join.f l0 = some r) :
    Calls Try.prog 26 #[.slice A0 l0.length c0] w fun e w' => ∃ v0_ : Value, e = .returned v0_ ∧ Kd.S k49 49 w' w.heap.size (fun _ => True) v0_ r ∧ Below w.heap.size w w' := by
  have hu49 := Try.underlying49
  have hu73 := Try.underlying73
  unfold merge_Join.f at h
  by_cases hlim : l0.length < 1000000000
  rotate_left
  · rw [if_neg hlim] at h; cases h
  rw [if_pos hlim] at h
  replace h := Aside0.mk h
  go_enter Try.func26, Try.ntmps26
  go_upto_block 0 with (fail)
  go_cut [3, 4] (fun v3 v4 wc => ∃ ss : List Nat, Kd.R kHead 74 wc w.heap.size (fun _ => True) v3 ss ∧ Kd.R kPass 75 wc w.heap.size (fun _ => True) v4 ss ∧ Srs w wc ss l0 ∧ Below w.heap.size w wc)
  case first =>
    clear h
    go_wp2
    go_loopg [3, 4, 15] (l0.length + 1) (fun kq v3 v4 v15 w' => ∃ (j : Int) (ss : List Nat), v15 = .int .i64 j ∧ Aside0 (0 ≤ j ∧ j ≤ (l0.length : Int) ∧ l0.length + 1 ≤ kq + j.toNat ∧ ss.length = j.toNat) ∧ Aside0 (Kd.R kHead 74 w' w.heap.size (fun _ => True) v3 ss) ∧ Aside0 (Kd.R kPass 75 w' w.heap.size (fun _ => True) v4 ss) ∧ Aside0 (Srs w w' ss (l0.take j.toNat)) ∧ Aside0 (Below w.heap.size w w'))
    case atStart => exact ⟨0, [], rfl, ⟨by omega, by omega, by omega, rfl⟩, ⟨Kd.R_nil _ _ _ _ _⟩, ⟨Kd.R_nil _ _ _ _ _⟩, ⟨⟨by simp, fun i s h => by simp at h, fun i j s h => by simp at h⟩⟩, ⟨Below.refl _ _⟩⟩
    case round =>
      obtain ⟨j, ss, rfl, hj, hHd, hPs, hSr, hB⟩ := hrel
      obtain ⟨Ah, ch, e3⟩ := Kd.R_slice hHd.out
      obtain ⟨Ap, cp, e4⟩ := Kd.R_slice hPs.out
      subst e3
      subst e4
      by_cases hjn : j < (l0.length : Int)
      rotate_left
      · have hd : decide (j < (l0.length : Int)) = false := decide_eq_false hjn
        go_wp2
        go_meet
        case rel =>
          refine ⟨ss, hHd.out, hPs.out, ?_, hB.out⟩
          have := hSr.out
          rwa [List.take_of_length_le (by have := hj.out; omega)] at this
      have hd : decide (j < (l0.length : Int)) = true := decide_eq_true hjn
      have p4 : (0 ≤ j) = True := eq_true hj.out.1
      have q4 : (j < (l0.length : Int)) = True := eq_true hjn
      have hwj : wrap64 (j + 1) = j + 1 := by have := hj.out; unfold wrap64; omega
      have hjl : j.toNat < l0.length := by have := hj.out; omega
      obtain ⟨ad, cs, eA, -, hK, hcc⟩ := Kd.C_get hr0 [] j hj.out.1 hjn
      obtain ⟨Aq, cq, hcs, hcq, hCq⟩ : ∃ Aq cq, cs = [.slice Aq (l0.getD j.toNat []).length cq] ∧ (l0.getD j.toNat []).length ≤ cq ∧ Kd.C k49 w Aq (l0.getD j.toNat []).length (l0.getD j.toNat []) := hK
      subst hcs
      have hcell : wr.cell? (ad.add j.toNat) = some (.slice Aq (l0.getD j.toNat []).length cq) := by
        have h1 := hcc 0 _ rfl
        have h2 := (hB.out.cell (World.block_lt_of_cell? _ _ h1)).trans h1
        rwa [Nat.add_zero, show (Kd.slice 49 k49).sz = 1 from rfl, Nat.mul_one] at h2
      subst eA
      have htk : l0.take (j.toNat + 1) = l0.take j.toNat ++ [l0.getD j.toNat []] := by
        rw [List.take_add_one, List.getD_eq_getElem?_getD, List.getElem?_eq_getElem hjl]
        rfl
      generalize l0.getD j.toNat [] = q at *
      go_upto_region 7 with (fail)
      have hbG := blk_new wr (Obj.cells #[Value.slice Aq q.length cq] 73)
      have hBG : Below wr.heap.size wr (wr.alloc (Obj.cells #[Value.slice Aq q.length cq] 73)) := below_alloc (Below.refl _ _) _
      have hB1 := below_step hB.out hBG
      have hHd1 := Kd.R_below hHd.out hBG
      have hPs1 := Kd.R_below hPs.out hBG
      have hSr1 := Srs.add hSr.out hBG (s := wr.heap.size) (q := q) ⟨⟨Aq, cq, hbG, hCq, hcq⟩, hB1, hB.out.size⟩ (Nat.le_refl _)
      rw [← htk] at hSr1
      clear hHd hPs hSr hB hcell hbG hBG htk
      generalize (wr.alloc (Obj.cells #[Value.slice Aq q.length cq] 73)) = W1 at *
      generalize wr.heap.size = g at *
      have hmf : ∀ fn first cap w, (Instr.makeFunc fn first cap).run Try.prog w = .ok (.func fn first cap) w := fun _ _ _ _ => rfl
      go_wp2_with (first | ((with_reducible refine gate_builtin (b := .append) (xs := #[.tmp 22, .tmp 25]) rfl ?_); at_builtin; refine Kd.R_append kHead (w0 := w) w.heap.size rfl (.tmp 22) (.tmp 25) 69 74 .nilFunc 8 rfl Try.underlying69 info74 rfl (by decide) (by omega) (.slice Ah ss.length ch) ss g [.func (.func 47) #[.pointer (some ⟨g, 0, none⟩)] #[]] (fun _ => True) (fun _ => False) rfl rfl rfl (fun _ hk => hk.elim) (fun _ _ => trivial) hHd1 hB1 hB1.size (by have := hj.out; omega) ?_; intro vh w2 hHd2 hB2 hg2 _; have hPs2 := Kd.R_over' hPs1 (Kd.R_typed hHd1) (by decide) hg2; have hSr2 := Srs.grown hSr1 hg2 (Kd.R_typed hHd1) (by decide) hB2; clear hHd1 hPs1 hSr1 hB1 hg2; obtain ⟨Ah2, ch2, eh2⟩ := Kd.R_slice hHd2; subst eh2) | ((with_reducible refine gate_builtin (b := .append) (xs := #[.tmp 27, .tmp 30]) rfl ?_); at_builtin; refine Kd.R_append kPass (w0 := w) w.heap.size rfl (.tmp 27) (.tmp 30) 70 75 .nilFunc 8 rfl Try.underlying70 info75 rfl (by decide) (by omega) (.slice Ap ss.length cp) ss g [.func (.func 48) #[.pointer (some ⟨g, 0, none⟩)] #[]] (fun _ => True) (fun _ => False) rfl rfl rfl (fun _ hk => hk.elim) (fun _ _ => trivial) hPs2 hB2 hB2.size (by have := hj.out; omega) ?_; intro vp w3 hPs3 hB3 hg3 _; have hHd3 := Kd.R_over' hHd2 (Kd.R_typed hPs2) (by decide) hg3; have hSr3 := Srs.grown hSr2 hg3 (Kd.R_typed hPs2) (by decide) hB3; clear hHd2 hPs2 hSr2 hB2 hg3; obtain ⟨Ap3, cp3, ep3⟩ := Kd.R_slice hPs3; subst ep3))
      rw [show (ss ++ [g]).length = ss.length + 1 by rw [List.length_append, List.length_singleton]] at hHd3 hPs3
      go_roundg (gk - 1)
      case measure => have := hj.out; omega
      case rel => exact ⟨j + 1, ss ++ [g], by first | rfl | rw [hwj], ⟨by have := hj.out; omega, by omega, by have := hj.out; omega, by have := hj.out; rw [List.length_append, List.length_singleton]; omega⟩, ⟨hHd3⟩, ⟨hPs3⟩, ⟨by rw [show (j + 1).toNat = j.toNat + 1 by have := hj.out; omega]; exact hSr3⟩, ⟨hB3⟩⟩
  case rest =>
    obtain ⟨ss, hHd, hPs, hSr, hB⟩ := hcut
    obtain ⟨Ah, ch, e3⟩ := Kd.R_slice hHd
    obtain ⟨Ap, cp, e4⟩ := Kd.R_slice hPs
    subst e3
    subst e4
    have hmax : ss.length ≤ 9223372036854775807 := by have := hSr.len; omega
    go_wp2
    go_loopg [8] ((l0.map List.length).sum + 1) (fun kq v8 w' => ∃ (qs : List (List S49)) (out : List S49), Aside0 (joinL kq qs out = some r) ∧ Aside0 (Kd.S k49 49 w' w.heap.size (fun _ => True) v8 out) ∧ Aside0 (Kd.R kHead 74 w' w.heap.size (fun _ => True) (.slice Ah ss.length ch) ss) ∧ Aside0 (Kd.R kPass 75 w' w.heap.size (fun _ => True) (.slice Ap ss.length cp) ss) ∧ Aside0 (Srs w w' ss qs) ∧ Aside0 (Below w.heap.size w w'))
    case atStart => exact ⟨l0, [], h, ⟨Kd.S_nil _ _ _ _ _⟩, ⟨hHd⟩, ⟨hPs⟩, ⟨hSr⟩, ⟨hB⟩⟩
    case round =>
      clear hHd hPs hSr hB h
      obtain ⟨qs, out, hj, hO, hHd, hPs, hSr, hB⟩ := hrel
      obtain ⟨A8, c8, e8⟩ := Kd.S_slice hO.out
      subst e8
      cases gk with
      | zero => have := hj.out; cases this
      | succ n =>
        have hj1 := hj.out
        clear hj
        unfold joinL at hj1
        have hF := first_calls hSr.out (Kd.R_reads' hHd.out).2.2 (c := ch) hB.out
        generalize firstI qs = fe at hF hj1
        obtain ⟨x, ok⟩ := fe
        dsimp only at hF hj1
        go_upto_region 11 with (go_at_call 49; refine hF.mono ?_; rintro e w1 ⟨hb1, v1, rfl, ⟨E0, e0, E1, e1, rfl, l0_, g0_, l1_, g1_⟩⟩)
        have hnew := blk_new w1 (Obj.cells #[Value.slice E0 x.f0.length e0, Value.slice E1 x.f1.length e1, Value.bool x.f2] 49)
        have hb2 : Below wr.heap.size wr (w1.alloc (Obj.cells #[Value.slice E0 x.f0.length e0, Value.slice E1 x.f1.length e1, Value.bool x.f2] 49)) := below_alloc hb1 _
        have hB2 := below_step hB.out hb2
        have hHd2 := Kd.R_below hHd.out hb2
        have hPs2 := Kd.R_below hPs.out hb2
        have hO2 := Kd.S_below hO.out hb2
        have hne2 : ∀ k, (Value.slice A8 out.length c8).ownBlock = some k → k < w1.heap.size := fun k hk => Nat.lt_of_lt_of_le (Kd.S_lt hO.out k hk) hb1.size
        have hSr2 := Srs.later hSr.out hb2
        clear hHd hPs hO hSr hB hF
        generalize (w1.alloc (Obj.cells #[Value.slice E0 x.f0.length e0, Value.slice E1 x.f1.length e1, Value.bool x.f2] 49)) = W2 at *
        generalize w1.heap.size = e2 at *
        clear hb1 hb2
        cases ok with
        | false =>
          rw [if_neg (fun hh => Bool.noConfusion hh)] at hj1
          injection hj1 with hj1
          subst hj1
          go_wp2
          go_ret
          exact ⟨_, rfl, hO2, hB2⟩
        | true =>
          rw [if_pos rfl] at hj1
          by_cases hlo : out.length < 1000000000
          rotate_left
          · rw [if_neg hlo] at hj1; cases hj1
          rw [if_pos hlo] at hj1
          obtain ⟨p, hp, hj2⟩ := Option.bind_eq_some_iff.1 hj1
          obtain ⟨r1, r2, r3⟩ := p
          replace hj2 := Aside0.mk hj2
          clear hj1
          have hown := merge_own.calls E0 e0 x.f0 E1 e1 x.f1 x.f2 r1 r2 r3 W2 (Kd.C_below g0_ hB2) l0_ (Kd.C_below g1_ hB2) l1_ hp
          have c0 : W2.cell? ⟨e2, 0, none⟩ = some (.slice E0 x.f0.length e0) := (blk_cell hnew 0).trans rfl
          have c1 : W2.cell? ⟨e2, 1, none⟩ = some (.slice E1 x.f1.length e1) := (blk_cell hnew 1).trans rfl
          have c2 : W2.cell? ⟨e2, 2, none⟩ = some (.bool x.f2) := (blk_cell hnew 2).trans rfl
          go_upto_region 14 with (first | (go_at_call 50; refine hown.mono ?_; rintro e w3 ⟨v0, v1, rfl, hR0, hR1, hb3⟩; have hO3 := Kd.S_below hO2 hb3; have hB3 := below_step hB2 hb3; have hO4 := Kd.S_mono (ok' := fun k => (fun _ => True) k ∧ ¬ (some k = v0.ownBlock ∨ some k = v1.ownBlock)) (Kd.S_old hO2 hb3) (fun k hk => ⟨trivial, fun e => e.elim (fun h_ => by have := Kd.R_base hR0 k h_.symm; have := hk.2; omega) (fun h_ => by have := Kd.R_base hR1 k h_.symm; have := hk.2; omega)⟩)) | ((with_reducible refine gate_builtin (b := .append) (xs := #[.tmp 41, .tmp 44]) rfl ?_); at_builtin; refine Kd.S_append k49 (w0 := w) w.heap.size rfl (.tmp 41) (.tmp 44) 37 49 (.agg #[(.slice none 0 0), (.slice none 0 0), (.bool false)]) 56 rfl Try.underlying37 info49 rfl (by decide) (by omega) (.slice A8 out.length c8) out (⟨r1, r2, r3⟩ : S49) [v0, v1, .bool r3] (fun _ => True) (fun k => some k = v0.ownBlock ∨ some k = v1.ownBlock) rfl rfl ?aP ?aK (fun _ _ => trivial) hO4 hB3 hB3.size (by omega) ?_; (case aP => exact k49_mkM _ _ _ (⟨r1, r2, r3⟩ : S49) (Kd.R_lower (Kd.R_mono (Kd.R_tight rfl hR0) (fun _ h_ => Or.inl h_)) hB2.size) (Kd.R_lower (Kd.R_mono (Kd.R_tight rfl hR1) (fun _ h_ => Or.inr h_)) hB2.size)); (case aK => exact fun k hk => ⟨trivial, fun e => by have hlt8 := Kd.S_lt hO2 k e.symm; exact hk.elim (fun h_ => by have := Kd.R_base hR0 k h_.symm; omega) (fun h_ => by have := Kd.R_base hR1 k h_.symm; omega)⟩); intro v8 w4 hO5 hB5 hg5 _))
          have hHd5 := Kd.R_over' (Kd.R_below hHd2 hb3) (Kd.S_typed hO3) (by decide) hg5
          have hPs5 := Kd.R_over' (Kd.R_below hPs2 hb3) (Kd.S_typed hO3) (by decide) hg5
          have hSr5 := Srs.grown (Srs.later hSr2 hb3) hg5 (Kd.S_typed hO3) (by decide) hB5
          have hE5 : EntB w w4 e2 x := ⟨E0, e0, E1, e1, blk_grown (blk_below hnew hb3) hg5 (fun e => by have := hne2 e2 e.symm; omega), l0_, g0_, l1_, g1_⟩
          clear hHd2 hPs2 hO2 hO3 hO4 hB2 hB3 hSr2 hR0 hR1 hg5 hnew hb3 hown hp hne2
          have hqs := hSr5.len
          go_wp2
          go_loopg [48] (ss.length + 1) (fun kq v48 w' => ∃ (i : Int), v48 = .int .i64 i ∧ Aside0 (0 ≤ i ∧ i ≤ (ss.length : Int) ∧ ss.length + 1 ≤ kq + i.toNat) ∧ Aside0 (Kd.S k49 49 w' w.heap.size (fun _ => True) v8 (out ++ [(⟨r1, r2, r3⟩ : S49)])) ∧ Aside0 (Kd.R kHead 74 w' w.heap.size (fun _ => True) (.slice Ah ss.length ch) ss) ∧ Aside0 (Kd.R kPass 75 w' w.heap.size (fun _ => True) (.slice Ap ss.length cp) ss) ∧ Aside0 (Srs w w' ss ((qs.take i.toNat).map (passI x.f0) ++ qs.drop i.toNat)) ∧ Aside0 (EntB w w' e2 x) ∧ Aside0 (Below w.heap.size w w'))
          case atStart => exact ⟨0, rfl, ⟨by omega, by omega, by omega⟩, ⟨hO5⟩, ⟨hHd5⟩, ⟨hPs5⟩, ⟨by simpa using hSr5⟩, ⟨hE5⟩, ⟨hB5⟩⟩
          case round =>
            clear hHd5 hPs5 hSr5 hO5 hB5 hE5
            obtain ⟨i, rfl, hi, hO6, hHd6, hPs6, hSr6, hE6, hB6⟩ := hrel
            by_cases hin : i < (ss.length : Int)
            rotate_left
            · have hd : decide (i < (ss.length : Int)) = false := decide_eq_false hin
              go_wp2
              go_roundg n
              case measure => exact Nat.lt_succ_self _
              case rel =>
                refine ⟨qs.map (passI x.f0), out ++ [⟨r1, r2, r3⟩], hj2, hO6, hHd6, hPs6, ⟨?_⟩, hB6⟩
                have := hSr6.out
                rwa [List.take_of_length_le (by have := hi.out; omega), List.drop_of_length_le (by have := hi.out; omega), List.append_nil] at this
            have hd : decide (i < (ss.length : Int)) = true := decide_eq_true hin
            have p4 : (0 ≤ i) = True := eq_true hi.out.1
            have q4 : (i < (ss.length : Int)) = True := eq_true hin
            have hwi : wrap64 (i + 1) = i + 1 := by have := hi.out; unfold wrap64; omega
            have hil : i.toNat < ss.length := by have := hi.out; omega
            obtain ⟨ad, eA, hcell⟩ := at_pass (Kd.R_reads' hPs6.out).2.2 i hi.out.1 hin
            subst eA
            have hsg := List.getElem?_eq_getElem hil
            rw [List.getD_eq_getElem?_getD, hsg, Option.getD_some] at hcell
            have hs := hSr6.out.src i.toNat _ hsg
            rw [mid_at (by omega)] at hs
            generalize ss[i.toNat] = s at hs hcell hsg
            obtain ⟨F0, f0, F1, f1, hbE, fl0, fg0, fl1, fg1⟩ := hE6.out
            have hP := pass_calls hs fg0 fl0
            have d0 : wr.cell? ⟨e2, 0, none⟩ = some (.slice F0 x.f0.length f0) := (blk_cell hbE 0).trans rfl
            go_wp2_with (go_at_call 48; refine hP.mono ?_; rintro e w7 ⟨rfl, hk7, hs7⟩)
            go_roundg (gk - 1)
            case measure => have := hi.out; omega
            case rel =>
              obtain ⟨⟨Aq, cq, hbs, -, -⟩, -, -⟩ := hs
              refine ⟨i + 1, by first | rfl | rw [hwi], ⟨by have := hi.out; omega, by omega, by have := hi.out; omega⟩, ⟨?_⟩, ⟨?_⟩, ⟨?_⟩, ⟨?_⟩, ⟨?_⟩, ⟨hs7.below⟩⟩
              · exact Kd.S_mono (Kd.S_keep (Kd.S_types hO6.out hbs (by decide)) hk7 (fun _ hk => hk.2)) (fun _ _ => trivial)
              · exact Kd.R_mono (Kd.R_keep (Kd.R_types hHd6.out hbs (by decide)) hk7 (fun _ hk => hk.2)) (fun _ _ => trivial)
              · exact Kd.R_mono (Kd.R_keep (Kd.R_types hPs6.out hbs (by decide)) hk7 (fun _ hk => hk.2)) (fun _ _ => trivial)
              · rw [show (i + 1).toNat = i.toNat + 1 by have := hi.out; omega, ← mid_set (by omega)]
                exact Srs.put hSr6.out hsg hk7 hs7.below hs7
              · exact ⟨F0, f0, F1, f1, hk7.blk hbE (blk_ne hbE hbs (by decide)) (by simp), fl0, fg0, fl1, fg1⟩

-- NOT PRINTED: function 51 (api_Entry)

end Go.Proofs.Ytmimfnangdabmaa.PMergeNumbers

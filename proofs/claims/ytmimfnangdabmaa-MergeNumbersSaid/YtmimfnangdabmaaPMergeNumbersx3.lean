/- The walk of the Go functions that a law reaches, told as plain functions; a program of this session has written it. No condition beyond the statement's own. -/
import Derived.Test.YtmimfnangdabmaaPMergeNumbersx0
import Derived.Test.YtmimfnangdabmaaPMergeNumbersx1
import Derived.Test.YtmimfnangdabmaaPMergeNumbersx2
namespace Go.Proofs.Ytmimfnangdabmaa.PMergeNumbers
open Go.RowKit Go.Proofs.YtmimfnangdabmaaW.PrintWords Go.Proofs.YtmimfnangdabmaaW.PrintLast Go.Proofs.YtmimfnangdabmaaW.PrintMore
attribute [local go_sem] max2_int min2_int max_two min_two max_three min_three max_four min_four   -- for this text's walks alone
set_option linter.unusedVariables false
set_option linter.unusedSimpArgs false

/-! ### merge_Same_1: function 52 -/
theorem own2 {w w0 : World} {g1 g2 : Nat} {p1 p2 p3 q1 q2 q3 : Value} (V1 V2 V3 V4 V5 V6 : Value) (h1 : w.heap[g1]? = some (.cells #[p1, p2, p3] 49 (0, 0))) (h2 : w.heap[g2]? = some (.cells #[q1, q2, q3] 49 (0, 0))) (hne : g2 ≠ g1) (hB : Below w0.heap.size w0 w) (hg1 : w0.heap.size ≤ g1) (hg2 : w0.heap.size ≤ g2) :
    ((((((w.setCell ⟨g1, 0, none⟩ V1).setCell ⟨g1, 1, none⟩ V2).setCell ⟨g1, 2, none⟩ V3).setCell ⟨g2, 0, none⟩ V4).setCell ⟨g2, 1, none⟩ V5).setCell ⟨g2, 2, none⟩ V6).heap[g1]? = some (.cells #[V1, V2, V3] 49 (0, 0)) ∧
    ((((((w.setCell ⟨g1, 0, none⟩ V1).setCell ⟨g1, 1, none⟩ V2).setCell ⟨g1, 2, none⟩ V3).setCell ⟨g2, 0, none⟩ V4).setCell ⟨g2, 1, none⟩ V5).setCell ⟨g2, 2, none⟩ V6).heap[g2]? = some (.cells #[V4, V5, V6] 49 (0, 0)) ∧
    Below w0.heap.size w0 ((((((w.setCell ⟨g1, 0, none⟩ V1).setCell ⟨g1, 1, none⟩ V2).setCell ⟨g1, 2, none⟩ V3).setCell ⟨g2, 0, none⟩ V4).setCell ⟨g2, 1, none⟩ V5).setCell ⟨g2, 2, none⟩ V6) ∧
    ∀ (ok : Nat → Prop) (v : Value) (xs : List Int), Kd.R (Kd.int .u8) 5 w w0.heap.size ok v xs → Kd.R (Kd.int .u8) 5 ((((((w.setCell ⟨g1, 0, none⟩ V1).setCell ⟨g1, 1, none⟩ V2).setCell ⟨g1, 2, none⟩ V3).setCell ⟨g2, 0, none⟩ V4).setCell ⟨g2, 1, none⟩ V5).setCell ⟨g2, 2, none⟩ V6) w0.heap.size ok v xs := by
  have a1 := blk_put h1 0 V1 rfl
  have a2 := blk_put a1 1 V2 rfl
  have a3 := blk_put a2 2 V3 rfl
  have b3 := blk_far (p := ⟨g1, 2, none⟩) (blk_far (p := ⟨g1, 1, none⟩) (blk_far (p := ⟨g1, 0, none⟩) h2 hne V1) hne V2) hne V3
  have b4 := blk_put b3 0 V4 rfl
  have b5 := blk_put b4 1 V5 rfl
  have b6 := blk_put b5 2 V6 rfl
  have a6 := blk_far (p := ⟨g2, 2, none⟩) (blk_far (p := ⟨g2, 1, none⟩) (blk_far (p := ⟨g2, 0, none⟩) a3 hne.symm V4) hne.symm V5) hne.symm V6
  exact ⟨a6, b6, below_set (below_set (below_set (below_set (below_set (below_set hB hg1) hg1) hg1) hg2) hg2) hg2, fun ok v xs h => Kd.R_set (Kd.R_set (Kd.R_set (Kd.R_set (Kd.R_set (Kd.R_set h h1 (by decide) 0 V1) a1 (by decide) 1 V2) a2 (by decide) 2 V3) b3 (by decide) 0 V4) b4 (by decide) 1 V5) b5 (by decide) 2 V6⟩
def merge_Same_1.f (l0_0 : List Int) (l0_1 : List Int) (a0_2 : Bool) (l1_0 : List Int) (l1_1 : List Int) (a1_2 : Bool) : Option (Bool) := (merge_own.f l0_0 l0_1 a0_2).bind fun bt119 => ((merge_own.f l1_0 l1_1 a1_2).bind fun bt126 => (if (strOfNums bt119.1).toList = (strOfNums bt126.1).toList then (if (strOfNums bt119.2.1).toList = (strOfNums bt126.2.1).toList then (some (bt119.2.2 == bt126.2.2)) else (some false)) else (some false)))
set_option maxHeartbeats 8000000 in
set_option maxRecDepth 100000 in
theorem merge_Same_1.calls (A0_0 : Option Addr) (c0_0 : Nat) (l0_0 : List Int) (A0_1 : Option Addr) (c0_1 : Nat) (l0_1 : List Int) (a0_2 : Bool) (A1_0 : Option Addr) (c1_0 : Nat) (l1_0 : List Int) (A1_1 : Option Addr) (c1_1 : Nat) (l1_1 : List Int) (a1_2 : Bool) (r : Bool) (w : World) (hr0_0 : Kd.C (Kd.int .u8) w A0_0 l0_0.length l0_0) (hc0_0 : l0_0.length ≤ c0_0) (hr0_1 : Kd.C (Kd.int .u8) w A0_1 l0_1.length l0_1) (hc0_1 : l0_1.length ≤ c0_1) (hr1_0 : Kd.C (Kd.int .u8) w A1_0 l1_0.length l1_0) (hc1_0 : l1_0.length ≤ c1_0) (hr1_1 : Kd.C (Kd.int .u8) w A1_1 l1_1.length l1_1) (hc1_1 : l1_1.length ≤ c1_1) (h : merge_Same_1.f l0_0 l0_1 a0_2 l1_0 l1_1 a1_2 = some r) :
  Calls Try.prog 52 #[.agg #[.slice A0_0 l0_0.length c0_0, .slice A0_1 l0_1.length c0_1, .bool a0_2], .agg #[.slice A1_0 l1_0.length c1_0, .slice A1_1 l1_1.length c1_1, .bool a1_2]] w fun e w' => e = .returned (.bool r) ∧ Below w.heap.size w w' := by
 have hu49 := Try.underlying49
 have HR0_0 := Aside0.mk hr0_0
 have HC0_0 := Aside0.mk hc0_0
 clear hr0_0 hc0_0
 have HR0_1 := Aside0.mk hr0_1
 have HC0_1 := Aside0.mk hc0_1
 clear hr0_1 hc0_1
 have HR1_0 := Aside0.mk hr1_0
 have HC1_0 := Aside0.mk hc1_0
 clear hr1_0 hc1_0
 have HR1_1 := Aside0.mk hr1_1
 have HC1_1 := Aside0.mk hc1_1
 clear hr1_1 hc1_1
 have HB := Aside0.mk (Below.refl w.heap.size w)
 have H : ((merge_own.f l0_0 l0_1 a0_2).bind fun bt119 => ((merge_own.f l1_0 l1_1 a1_2).bind fun bt126 => (if (strOfNums bt119.1).toList = (strOfNums bt126.1).toList then (if (strOfNums bt119.2.1).toList = (strOfNums bt126.2.1).toList then (some (bt119.2.2 == bt126.2.2)) else (some false)) else (some false)))) = some r := h
 clear h
 replace H := Option.bind_eq_some_iff.mp H
 obtain ⟨⟨t119, t122, t125⟩, A30, H⟩ := H
 replace H : ((merge_own.f l1_0 l1_1 a1_2).bind fun bt126 => (if (strOfNums t119).toList = (strOfNums bt126.1).toList then (if (strOfNums t122).toList = (strOfNums bt126.2.1).toList then (some (t125 == bt126.2.2)) else (some false)) else (some false))) = some r := H
 have A3 := Aside0.mk A30
 clear A30
 replace H := Option.bind_eq_some_iff.mp H
 obtain ⟨⟨t126, t129, t132⟩, A40, H⟩ := H
 replace H : (if (strOfNums t119).toList = (strOfNums t126).toList then (if (strOfNums t122).toList = (strOfNums t129).toList then (some (t125 == t132)) else (some false)) else (some false)) = some r := H
 have A4 := Aside0.mk A40
 clear A40
 by_cases c5 : (strOfNums t119).toList = (strOfNums t126).toList
 ·rw [if_pos c5] at H
  have c5b0 : ((strOfNums t119).toList == (strOfNums t126).toList) = true := beq_iff_eq.mpr c5
  have c5b1 : ((strOfNums t119).toList != (strOfNums t126).toList) = false := bne_eq_false_iff_eq.mpr c5
  clear c5
  by_cases c6 : (strOfNums t122).toList = (strOfNums t129).toList
  ·rw [if_pos c6] at H
   have c6b0 : ((strOfNums t122).toList == (strOfNums t129).toList) = true := beq_iff_eq.mpr c6
   have c6b1 : ((strOfNums t122).toList != (strOfNums t129).toList) = false := bne_eq_false_iff_eq.mpr c6
   clear c6
   obtain rfl := Option.some.inj H
   go_enter Try.func52, Try.ntmps52
   try go_wp2_with (first | ((with_reducible refine gate_dst (N := 2) rfl ?_); refine box_event ?hg (N := 2) ?hd (cs := #[.slice A0_0 l0_0.length c0_0, .slice A0_1 l0_1.length c0_1, .bool a0_2]) (t := 49) ?hr ?_; (case hd => rfl); (case hg => rfl); (case hr => first | (go_simp; done) | (go_simp; rfl)); intro gb117 hg w7 hbox hb; have n0_ := Aside0.mk (below_step (belN HB.out) hb); have n1_ := Aside0.mk (hbox); have n2_ := Aside0.mk (szB hg HB.out); have n3_ := Aside0.mk (szB hg HB.out); clear HB; have HB := n0_; have BK117 := n1_; have GW117 := n2_; have GE117 := n3_; clear n0_ n1_ n2_ n3_; clear hb hbox hg) | ((with_reducible refine gate_dst (N := 3) rfl ?_); refine box_event ?hg (N := 3) ?hd (cs := #[.slice A1_0 l1_0.length c1_0, .slice A1_1 l1_1.length c1_1, .bool a1_2]) (t := 49) ?hr ?_; (case hd => rfl); (case hg => rfl); (case hr => first | (go_simp; done) | (go_simp; rfl)); intro gb118 hg w8 hbox hb; have n0_ := Aside0.mk (bkB BK117.out hb); have n1_ := Aside0.mk (below_step (belS HB.out) hb); have n2_ := Aside0.mk (hbox); have n3_ := Aside0.mk (szB hg HB.out); have n4_ := Aside0.mk (szB hg HB.out); have n5_ := Aside0.mk ((bk1 hg BK117.out)); have n6_ := Aside0.mk ((bk2 hg BK117.out)); clear BK117; clear HB; have BK117 := n0_; have HB := n1_; have BK118 := n2_; have GW118 := n3_; have GE118 := n4_; have NB117_118 := n5_; have NB118_117 := n6_; clear n0_ n1_ n2_ n3_ n4_ n5_ n6_; clear hb hbox hg))
   have n0_ := Aside0.mk (blk_drew BK117.out)
   have n1_ := Aside0.mk (blk_drew BK118.out)
   have n2_ := Aside0.mk (below_drew1 HB.out)
   clear BK117
   clear BK118
   clear HB
   have BK117 := n0_
   have BK118 := n1_
   have HB := n2_
   clear n0_ n1_ n2_
   refine start_ (n := 6) (S := fun w' => w'.cell? ⟨gb117, 0, none⟩ = some (.slice A0_0 l0_0.length c0_0) ∧ w'.cell? ⟨gb117, 1, none⟩ = some (.slice A0_1 l0_1.length c0_1) ∧ w'.cell? ⟨gb117, 2, none⟩ = some (.bool a0_2) ∧ w'.cell? ⟨gb118, 0, none⟩ = some (.slice A1_0 l1_0.length c1_0) ∧ w'.cell? ⟨gb118, 1, none⟩ = some (.slice A1_1 l1_1.length c1_1) ∧ w'.cell? ⟨gb118, 2, none⟩ = some (.bool a1_2)) (ds := [4, 5]) #[false, false, false, false, false, false] (by kernel_rfl) rfl rfl ⟨(blk_cell BK117.out 0).trans rfl, (blk_cell BK117.out 1).trans rfl, (blk_cell BK117.out 2).trans rfl, (blk_cell BK118.out 0).trans rfl, (blk_cell BK118.out 1).trans rfl, (blk_cell BK118.out 2).trans rfl⟩ (fun hHeld => ?_)
   generalize w8.drew = w9 at BK117 BK118 HB hHeld ⊢
   refine take_ (i := 0) (N := some 5) (v := ?_) (a' := ?_) (bA 6 1) rfl rfl (by kernel_rfl) (fun _ _ _ h => h) (Or.inl ⟨by rfl, ?_⟩) hHeld ?_ ?_
   rotate_left
   ·rintro w' ⟨s0, s1, s2, s3, s4, s5⟩
    go_simp
    with_reducible rfl
   rotate_left
   ·simp only [Act.put, List.setIfInBounds_toArray, List.set_cons_zero, List.set_cons_succ, i64_w, i32_w]
    rfl
   refine take_ (i := 2) (N := some 7) (v := ?_) (a' := ?_) (bA 6 5) rfl rfl (by kernel_rfl) (fun _ _ _ h => h) (Or.inl ⟨by rfl, ?_⟩) hHeld ?_ ?_
   rotate_left
   ·rintro w' ⟨s0, s1, s2, s3, s4, s5⟩
    go_simp
    with_reducible rfl
   rotate_left
   ·simp only [Act.put, List.setIfInBounds_toArray, List.set_cons_zero, List.set_cons_succ, i64_w, i32_w]
    rfl
   refine one_ (i := 1) (N := some 6) (bA 6 7) rfl rfl (by kernel_rfl) (by decide) (fun K hK => ?_)
   refine goes_ Try.func50 (by kernel_rfl) rfl #[.agg #[.slice A0_0 l0_0.length c0_0, .slice A0_1 l0_1.length c0_1, .bool a0_2]] (by rfl) rfl rfl argN ?_
   with_reducible refine (merge_own.calls _ _ l0_0 _ _ l0_1 a0_2 t119 t122 t125 _ ?side1 ?side2 ?side3 ?side4 A3.out).mono ?_
   (case side1 => repeat (first | exact (Kd.C_below HR0_0.out HB.out) | (with_reducible refine Kd.C_alloc ?_ _) | (with_reducible refine Kd.C_drewN ?_ _) | (with_reducible refine Kd.C_drew ?_)))
   (case side2 => exact HC0_0.out)
   (case side3 => repeat (first | exact (Kd.C_below HR0_1.out HB.out) | (with_reducible refine Kd.C_alloc ?_ _) | (with_reducible refine Kd.C_drewN ?_ _) | (with_reducible refine Kd.C_drew ?_)))
   (case side4 => exact HC0_1.out)
   rintro e w10 ⟨v120, v123, rfl, ho0, ho1, hb⟩
   refine ⟨_, rfl, ?_⟩
   have n0_ := Aside0.mk (Kd.R_lower ho0 (below_size (belS HB.out)))
   have n1_ := Aside0.mk (Kd.R_lower ho1 (below_size (belS HB.out)))
   have n2_ := Aside0.mk (bkB BK117.out hb)
   have n3_ := Aside0.mk (bkB BK118.out hb)
   have n4_ := Aside0.mk (below_step (belS HB.out) hb)
   clear BK117
   clear BK118
   clear HB
   have HO121 := n0_
   have HO124 := n1_
   have BK117 := n2_
   have BK118 := n3_
   have HB := n4_
   clear n0_ n1_ n2_ n3_ n4_
   (try clear hb)
   (try clear ho0)
   (try clear ho1)
   refine hK.out _ _ ⟨(blk_cell BK117.out 0).trans rfl, (blk_cell BK117.out 1).trans rfl, (blk_cell BK117.out 2).trans rfl, (blk_cell BK118.out 0).trans rfl, (blk_cell BK118.out 1).trans rfl, (blk_cell BK118.out 2).trans rfl⟩ (fun hHeld => ?_)
   clear hK K
   refine norm_ (a' := ?_) ?_ ?_
   rotate_left
   ·show Act.put _ (some 6) _ = _
    simp only [Act.put, List.setIfInBounds_toArray, List.set_cons_zero, List.set_cons_succ, i64_w, i32_w]
    rfl
   refine one_ (i := 3) (N := some 8) (bA 6 15) rfl rfl (by kernel_rfl) (by decide) (fun K hK => ?_)
   refine goes_ Try.func50 (by kernel_rfl) rfl #[.agg #[.slice A1_0 l1_0.length c1_0, .slice A1_1 l1_1.length c1_1, .bool a1_2]] (by rfl) rfl rfl argN ?_
   with_reducible refine (merge_own.calls _ _ l1_0 _ _ l1_1 a1_2 t126 t129 t132 _ ?side1 ?side2 ?side3 ?side4 A4.out).mono ?_
   (case side1 => repeat (first | exact (Kd.C_below HR1_0.out HB.out) | (with_reducible refine Kd.C_alloc ?_ _) | (with_reducible refine Kd.C_drewN ?_ _) | (with_reducible refine Kd.C_drew ?_)))
   (case side2 => exact HC1_0.out)
   (case side3 => repeat (first | exact (Kd.C_below HR1_1.out HB.out) | (with_reducible refine Kd.C_alloc ?_ _) | (with_reducible refine Kd.C_drewN ?_ _) | (with_reducible refine Kd.C_drew ?_)))
   (case side4 => exact HC1_1.out)
   rintro e w11 ⟨v127, v130, rfl, ho0, ho1, hb⟩
   refine ⟨_, rfl, ?_⟩
   have n0_ := Aside0.mk (Kd.R_mono (Kd.R_told (Kd.R_told (Kd.R_old (rowN HO121.out) hb) (Kd.R_base ho0)) (Kd.R_base ho1)) (fun _ h_ => h_.1))
   have n1_ := Aside0.mk (Kd.R_mono (Kd.R_told (Kd.R_told (Kd.R_old (rowN HO124.out) hb) (Kd.R_base ho0)) (Kd.R_base ho1)) (fun _ h_ => h_.1))
   have n2_ := Aside0.mk (Kd.R_lower (Kd.R_new' (Kd.R_new' ho0 (Kd.R_lt (rowN HO121.out))) (Kd.R_lt (rowN HO124.out))) (below_size (belS HB.out)))
   have n3_ := Aside0.mk (Kd.R_lower (Kd.R_new' (Kd.R_new' ho1 (Kd.R_lt (rowN HO121.out))) (Kd.R_lt (rowN HO124.out))) (below_size (belS HB.out)))
   have n4_ := Aside0.mk (bkB BK117.out hb)
   have n5_ := Aside0.mk (bkB BK118.out hb)
   have n6_ := Aside0.mk (below_step (belS HB.out) hb)
   clear HO121
   clear HO124
   clear BK117
   clear BK118
   clear HB
   have HO121 := n0_
   have HO124 := n1_
   have HO128 := n2_
   have HO131 := n3_
   have BK117 := n4_
   have BK118 := n5_
   have HB := n6_
   clear n0_ n1_ n2_ n3_ n4_ n5_ n6_
   (try clear hb)
   (try clear ho0)
   (try clear ho1)
   obtain ⟨Ao12, co12, eo12⟩ := Kd.R_slice HO121.out
   (first | subst eo12 | (injection eo12 with f1_ f2_ f3_; have f4_ := f1_.symm; have f5_ := f3_.symm; clear f1_ f2_ f3_; subst f4_; subst f5_))
   obtain ⟨Ao14, co14, eo14⟩ := Kd.R_slice HO124.out
   (first | subst eo14 | (injection eo14 with f1_ f2_ f3_; have f4_ := f1_.symm; have f5_ := f3_.symm; clear f1_ f2_ f3_; subst f4_; subst f5_))
   obtain ⟨Ao17, co17, eo17⟩ := Kd.R_slice HO128.out
   (first | subst eo17 | (injection eo17 with f1_ f2_ f3_; have f4_ := f1_.symm; have f5_ := f3_.symm; clear f1_ f2_ f3_; subst f4_; subst f5_))
   obtain ⟨Ao19, co19, eo19⟩ := Kd.R_slice HO131.out
   (first | subst eo19 | (injection eo19 with f1_ f2_ f3_; have f4_ := f1_.symm; have f5_ := f3_.symm; clear f1_ f2_ f3_; subst f4_; subst f5_))
   refine hK.out _ _ ⟨(blk_cell BK117.out 0).trans rfl, (blk_cell BK117.out 1).trans rfl, (blk_cell BK117.out 2).trans rfl, (blk_cell BK118.out 0).trans rfl, (blk_cell BK118.out 1).trans rfl, (blk_cell BK118.out 2).trans rfl⟩ (fun hHeld => ?_)
   clear hK K
   refine norm_ (a' := ?_) ?_ ?_
   rotate_left
   ·show Act.put _ (some 8) _ = _
    simp only [Act.put, List.setIfInBounds_toArray, List.set_cons_zero, List.set_cons_succ, i64_w, i32_w]
    rfl
   refine last_ (i := 4) (N := none) (bA 6 31) rfl rfl (by kernel_rfl) (by decide) (fun K hK => ?_)
   have hs13 : w11.cell? ⟨gb117, 0, none⟩ = some (.slice A0_0 l0_0.length c0_0) := (blk_cell BK117.out 0).trans rfl
   have hfs13 := blk_frozen BK117.out 0
   have hns13_1 := NB118_117.out
   have hms13_1 := NB117_118.out
   have hs15 : w11.cell? ⟨gb117, 1, none⟩ = some (.slice A0_1 l0_1.length c0_1) := (blk_cell BK117.out 1).trans rfl
   have hfs15 := blk_frozen BK117.out 1
   have hns15_1 := NB118_117.out
   have hms15_1 := NB117_118.out
   have hs16 : w11.cell? ⟨gb117, 2, none⟩ = some (.bool a0_2) := (blk_cell BK117.out 2).trans rfl
   have hfs16 := blk_frozen BK117.out 2
   have hns16_1 := NB118_117.out
   have hms16_1 := NB117_118.out
   refine skip_ (w1 := ?_) (by rfl) rfl ?_ ?_
   rotate_left
   ·go_simp
    rfl
   refine hK.out _ _ ?_
   clear hK K
   refine last_ (i := 5) (N := none) (bA 6 63) rfl rfl (by kernel_rfl) (by decide) (fun K hK => ?_)
   have hs18 : w11.cell? ⟨gb118, 0, none⟩ = some (.slice A1_0 l1_0.length c1_0) := (blk_cell BK118.out 0).trans rfl
   have hfs18 := blk_frozen BK118.out 0
   have hns18_0 := NB117_118.out
   have hms18_0 := NB118_117.out
   have hs20 : w11.cell? ⟨gb118, 1, none⟩ = some (.slice A1_1 l1_1.length c1_1) := (blk_cell BK118.out 1).trans rfl
   have hfs20 := blk_frozen BK118.out 1
   have hns20_0 := NB117_118.out
   have hms20_0 := NB118_117.out
   have hs21 : w11.cell? ⟨gb118, 2, none⟩ = some (.bool a1_2) := (blk_cell BK118.out 2).trans rfl
   have hfs21 := blk_frozen BK118.out 2
   have hns21_0 := NB117_118.out
   have hms21_0 := NB118_117.out
   refine skip_ (w1 := ?_) (by rfl) rfl ?_ ?_
   rotate_left
   ·go_simp
    rfl
   refine hK.out _ _ ?_
   clear hK K
   refine done_ (by kernel_rfl) ?_
   obtain ⟨x1_, x2_, x3_, x4_⟩ := own2 (.slice Ao12 t119.length co12) (.slice Ao14 t122.length co14) (.bool t125) (.slice Ao17 t126.length co17) (.slice Ao19 t129.length co19) (.bool t132) BK117.out BK118.out NB118_117.out HB.out GW117.out GW118.out
   have r0_ := x4_ _ _ _ HO121.out
   have r1_ := x4_ _ _ _ HO124.out
   have r2_ := x4_ _ _ _ HO128.out
   have r3_ := x4_ _ _ _ HO131.out
   clear x4_ HB HO121 HO124 HO128 HO131
   generalize ((((((w11.setCell ⟨gb117, 0, none⟩ (.slice Ao12 t119.length co12)).setCell ⟨gb117, 1, none⟩ (.slice Ao14 t122.length co14)).setCell ⟨gb117, 2, none⟩ (.bool t125)).setCell ⟨gb118, 0, none⟩ (.slice Ao17 t126.length co17)).setCell ⟨gb118, 1, none⟩ (.slice Ao19 t129.length co19)).setCell ⟨gb118, 2, none⟩ (.bool t132)) = wz at x1_ x2_ x3_ r0_ r1_ r2_ r3_ ⊢
   have yx1_0 : wz.cell? ⟨gb117, 0, none⟩ = some (.slice Ao12 t119.length co12) := (blk_cell x1_ 0).trans rfl
   have yx1_1 : wz.cell? ⟨gb117, 1, none⟩ = some (.slice Ao14 t122.length co14) := (blk_cell x1_ 1).trans rfl
   have yx1_2 : wz.cell? ⟨gb117, 2, none⟩ = some (.bool t125) := (blk_cell x1_ 2).trans rfl
   have yx2_0 : wz.cell? ⟨gb118, 0, none⟩ = some (.slice Ao17 t126.length co17) := (blk_cell x2_ 0).trans rfl
   have yx2_1 : wz.cell? ⟨gb118, 1, none⟩ = some (.slice Ao19 t129.length co19) := (blk_cell x2_ 1).trans rfl
   have yx2_2 : wz.cell? ⟨gb118, 2, none⟩ = some (.bool t132) := (blk_cell x2_ 2).trans rfl
   have hv0_ := own_string (P := Try.prog) Try.underlying23 Try.underlying5 Try.underlying9 (Kd.own_of_R r0_)
   have hv1_ := own_string (P := Try.prog) Try.underlying23 Try.underlying5 Try.underlying9 (Kd.own_of_R r1_)
   have hv2_ := own_string (P := Try.prog) Try.underlying23 Try.underlying5 Try.underlying9 (Kd.own_of_R r2_)
   have hv3_ := own_string (P := Try.prog) Try.underlying23 Try.underlying5 Try.underlying9 (Kd.own_of_R r3_)
   have HB := Aside0.mk x3_
   try go_wp2
   go_ret
   exact ⟨by first | rfl | (simp [errW_none, errW_some] <;> rfl) | (simp [*, errW_none, errW_some] <;> rfl), (belS HB.out)⟩
  ·rw [if_neg c6] at H
   have c6b0 : ((strOfNums t122).toList == (strOfNums t129).toList) = false := beq_eq_false_iff_ne.mpr c6
   have c6b1 : ((strOfNums t122).toList != (strOfNums t129).toList) = true := bne_iff_ne.mpr c6
   obtain rfl := Option.some.inj H
   go_enter Try.func52, Try.ntmps52
   try go_wp2_with (first | ((with_reducible refine gate_dst (N := 2) rfl ?_); refine box_event ?hg (N := 2) ?hd (cs := #[.slice A0_0 l0_0.length c0_0, .slice A0_1 l0_1.length c0_1, .bool a0_2]) (t := 49) ?hr ?_; (case hd => rfl); (case hg => rfl); (case hr => first | (go_simp; done) | (go_simp; rfl)); intro gb117 hg w29 hbox hb; have n0_ := Aside0.mk (below_step (belN HB.out) hb); have n1_ := Aside0.mk (hbox); have n2_ := Aside0.mk (szB hg HB.out); have n3_ := Aside0.mk (szB hg HB.out); clear HB; have HB := n0_; have BK117 := n1_; have GW117 := n2_; have GE117 := n3_; clear n0_ n1_ n2_ n3_; clear hb hbox hg) | ((with_reducible refine gate_dst (N := 3) rfl ?_); refine box_event ?hg (N := 3) ?hd (cs := #[.slice A1_0 l1_0.length c1_0, .slice A1_1 l1_1.length c1_1, .bool a1_2]) (t := 49) ?hr ?_; (case hd => rfl); (case hg => rfl); (case hr => first | (go_simp; done) | (go_simp; rfl)); intro gb118 hg w30 hbox hb; have n0_ := Aside0.mk (bkB BK117.out hb); have n1_ := Aside0.mk (below_step (belS HB.out) hb); have n2_ := Aside0.mk (hbox); have n3_ := Aside0.mk (szB hg HB.out); have n4_ := Aside0.mk (szB hg HB.out); have n5_ := Aside0.mk ((bk1 hg BK117.out)); have n6_ := Aside0.mk ((bk2 hg BK117.out)); clear BK117; clear HB; have BK117 := n0_; have HB := n1_; have BK118 := n2_; have GW118 := n3_; have GE118 := n4_; have NB117_118 := n5_; have NB118_117 := n6_; clear n0_ n1_ n2_ n3_ n4_ n5_ n6_; clear hb hbox hg))
   have n0_ := Aside0.mk (blk_drew BK117.out)
   have n1_ := Aside0.mk (blk_drew BK118.out)
   have n2_ := Aside0.mk (below_drew1 HB.out)
   clear BK117
   clear BK118
   clear HB
   have BK117 := n0_
   have BK118 := n1_
   have HB := n2_
   clear n0_ n1_ n2_
   refine start_ (n := 6) (S := fun w' => w'.cell? ⟨gb117, 0, none⟩ = some (.slice A0_0 l0_0.length c0_0) ∧ w'.cell? ⟨gb117, 1, none⟩ = some (.slice A0_1 l0_1.length c0_1) ∧ w'.cell? ⟨gb117, 2, none⟩ = some (.bool a0_2) ∧ w'.cell? ⟨gb118, 0, none⟩ = some (.slice A1_0 l1_0.length c1_0) ∧ w'.cell? ⟨gb118, 1, none⟩ = some (.slice A1_1 l1_1.length c1_1) ∧ w'.cell? ⟨gb118, 2, none⟩ = some (.bool a1_2)) (ds := [4, 5]) #[false, false, false, false, false, false] (by kernel_rfl) rfl rfl ⟨(blk_cell BK117.out 0).trans rfl, (blk_cell BK117.out 1).trans rfl, (blk_cell BK117.out 2).trans rfl, (blk_cell BK118.out 0).trans rfl, (blk_cell BK118.out 1).trans rfl, (blk_cell BK118.out 2).trans rfl⟩ (fun hHeld => ?_)
   generalize w30.drew = w31 at BK117 BK118 HB hHeld ⊢
   refine take_ (i := 0) (N := some 5) (v := ?_) (a' := ?_) (bA 6 1) rfl rfl (by kernel_rfl) (fun _ _ _ h => h) (Or.inl ⟨by rfl, ?_⟩) hHeld ?_ ?_
   rotate_left
   ·rintro w' ⟨s0, s1, s2, s3, s4, s5⟩
    go_simp
    with_reducible rfl
   rotate_left
   ·simp only [Act.put, List.setIfInBounds_toArray, List.set_cons_zero, List.set_cons_succ, i64_w, i32_w]
    rfl
   refine take_ (i := 2) (N := some 7) (v := ?_) (a' := ?_) (bA 6 5) rfl rfl (by kernel_rfl) (fun _ _ _ h => h) (Or.inl ⟨by rfl, ?_⟩) hHeld ?_ ?_
   rotate_left
   ·rintro w' ⟨s0, s1, s2, s3, s4, s5⟩
    go_simp
    with_reducible rfl
   rotate_left
   ·simp only [Act.put, List.setIfInBounds_toArray, List.set_cons_zero, List.set_cons_succ, i64_w, i32_w]
    rfl
   refine one_ (i := 1) (N := some 6) (bA 6 7) rfl rfl (by kernel_rfl) (by decide) (fun K hK => ?_)
   refine goes_ Try.func50 (by kernel_rfl) rfl #[.agg #[.slice A0_0 l0_0.length c0_0, .slice A0_1 l0_1.length c0_1, .bool a0_2]] (by rfl) rfl rfl argN ?_
   with_reducible refine (merge_own.calls _ _ l0_0 _ _ l0_1 a0_2 t119 t122 t125 _ ?side1 ?side2 ?side3 ?side4 A3.out).mono ?_
   (case side1 => repeat (first | exact (Kd.C_below HR0_0.out HB.out) | (with_reducible refine Kd.C_alloc ?_ _) | (with_reducible refine Kd.C_drewN ?_ _) | (with_reducible refine Kd.C_drew ?_)))
   (case side2 => exact HC0_0.out)
   (case side3 => repeat (first | exact (Kd.C_below HR0_1.out HB.out) | (with_reducible refine Kd.C_alloc ?_ _) | (with_reducible refine Kd.C_drewN ?_ _) | (with_reducible refine Kd.C_drew ?_)))
   (case side4 => exact HC0_1.out)
   rintro e w32 ⟨v120, v123, rfl, ho0, ho1, hb⟩
   refine ⟨_, rfl, ?_⟩
   have n0_ := Aside0.mk (Kd.R_lower ho0 (below_size (belS HB.out)))
   have n1_ := Aside0.mk (Kd.R_lower ho1 (below_size (belS HB.out)))
   have n2_ := Aside0.mk (bkB BK117.out hb)
   have n3_ := Aside0.mk (bkB BK118.out hb)
   have n4_ := Aside0.mk (below_step (belS HB.out) hb)
   clear BK117
   clear BK118
   clear HB
   have HO121 := n0_
   have HO124 := n1_
   have BK117 := n2_
   have BK118 := n3_
   have HB := n4_
   clear n0_ n1_ n2_ n3_ n4_
   (try clear hb)
   (try clear ho0)
   (try clear ho1)
   refine hK.out _ _ ⟨(blk_cell BK117.out 0).trans rfl, (blk_cell BK117.out 1).trans rfl, (blk_cell BK117.out 2).trans rfl, (blk_cell BK118.out 0).trans rfl, (blk_cell BK118.out 1).trans rfl, (blk_cell BK118.out 2).trans rfl⟩ (fun hHeld => ?_)
   clear hK K
   refine norm_ (a' := ?_) ?_ ?_
   rotate_left
   ·show Act.put _ (some 6) _ = _
    simp only [Act.put, List.setIfInBounds_toArray, List.set_cons_zero, List.set_cons_succ, i64_w, i32_w]
    rfl
   refine one_ (i := 3) (N := some 8) (bA 6 15) rfl rfl (by kernel_rfl) (by decide) (fun K hK => ?_)
   refine goes_ Try.func50 (by kernel_rfl) rfl #[.agg #[.slice A1_0 l1_0.length c1_0, .slice A1_1 l1_1.length c1_1, .bool a1_2]] (by rfl) rfl rfl argN ?_
   with_reducible refine (merge_own.calls _ _ l1_0 _ _ l1_1 a1_2 t126 t129 t132 _ ?side1 ?side2 ?side3 ?side4 A4.out).mono ?_
   (case side1 => repeat (first | exact (Kd.C_below HR1_0.out HB.out) | (with_reducible refine Kd.C_alloc ?_ _) | (with_reducible refine Kd.C_drewN ?_ _) | (with_reducible refine Kd.C_drew ?_)))
   (case side2 => exact HC1_0.out)
   (case side3 => repeat (first | exact (Kd.C_below HR1_1.out HB.out) | (with_reducible refine Kd.C_alloc ?_ _) | (with_reducible refine Kd.C_drewN ?_ _) | (with_reducible refine Kd.C_drew ?_)))
   (case side4 => exact HC1_1.out)
   rintro e w33 ⟨v127, v130, rfl, ho0, ho1, hb⟩
   refine ⟨_, rfl, ?_⟩
   have n0_ := Aside0.mk (Kd.R_mono (Kd.R_told (Kd.R_told (Kd.R_old (rowN HO121.out) hb) (Kd.R_base ho0)) (Kd.R_base ho1)) (fun _ h_ => h_.1))
   have n1_ := Aside0.mk (Kd.R_mono (Kd.R_told (Kd.R_told (Kd.R_old (rowN HO124.out) hb) (Kd.R_base ho0)) (Kd.R_base ho1)) (fun _ h_ => h_.1))
   have n2_ := Aside0.mk (Kd.R_lower (Kd.R_new' (Kd.R_new' ho0 (Kd.R_lt (rowN HO121.out))) (Kd.R_lt (rowN HO124.out))) (below_size (belS HB.out)))
   have n3_ := Aside0.mk (Kd.R_lower (Kd.R_new' (Kd.R_new' ho1 (Kd.R_lt (rowN HO121.out))) (Kd.R_lt (rowN HO124.out))) (below_size (belS HB.out)))
   have n4_ := Aside0.mk (bkB BK117.out hb)
   have n5_ := Aside0.mk (bkB BK118.out hb)
   have n6_ := Aside0.mk (below_step (belS HB.out) hb)
   clear HO121
   clear HO124
   clear BK117
   clear BK118
   clear HB
   have HO121 := n0_
   have HO124 := n1_
   have HO128 := n2_
   have HO131 := n3_
   have BK117 := n4_
   have BK118 := n5_
   have HB := n6_
   clear n0_ n1_ n2_ n3_ n4_ n5_ n6_
   (try clear hb)
   (try clear ho0)
   (try clear ho1)
   obtain ⟨Ao34, co34, eo34⟩ := Kd.R_slice HO121.out
   (first | subst eo34 | (injection eo34 with f1_ f2_ f3_; have f4_ := f1_.symm; have f5_ := f3_.symm; clear f1_ f2_ f3_; subst f4_; subst f5_))
   obtain ⟨Ao36, co36, eo36⟩ := Kd.R_slice HO124.out
   (first | subst eo36 | (injection eo36 with f1_ f2_ f3_; have f4_ := f1_.symm; have f5_ := f3_.symm; clear f1_ f2_ f3_; subst f4_; subst f5_))
   obtain ⟨Ao39, co39, eo39⟩ := Kd.R_slice HO128.out
   (first | subst eo39 | (injection eo39 with f1_ f2_ f3_; have f4_ := f1_.symm; have f5_ := f3_.symm; clear f1_ f2_ f3_; subst f4_; subst f5_))
   obtain ⟨Ao41, co41, eo41⟩ := Kd.R_slice HO131.out
   (first | subst eo41 | (injection eo41 with f1_ f2_ f3_; have f4_ := f1_.symm; have f5_ := f3_.symm; clear f1_ f2_ f3_; subst f4_; subst f5_))
   refine hK.out _ _ ⟨(blk_cell BK117.out 0).trans rfl, (blk_cell BK117.out 1).trans rfl, (blk_cell BK117.out 2).trans rfl, (blk_cell BK118.out 0).trans rfl, (blk_cell BK118.out 1).trans rfl, (blk_cell BK118.out 2).trans rfl⟩ (fun hHeld => ?_)
   clear hK K
   refine norm_ (a' := ?_) ?_ ?_
   rotate_left
   ·show Act.put _ (some 8) _ = _
    simp only [Act.put, List.setIfInBounds_toArray, List.set_cons_zero, List.set_cons_succ, i64_w, i32_w]
    rfl
   refine last_ (i := 4) (N := none) (bA 6 31) rfl rfl (by kernel_rfl) (by decide) (fun K hK => ?_)
   have hs35 : w33.cell? ⟨gb117, 0, none⟩ = some (.slice A0_0 l0_0.length c0_0) := (blk_cell BK117.out 0).trans rfl
   have hfs35 := blk_frozen BK117.out 0
   have hns35_1 := NB118_117.out
   have hms35_1 := NB117_118.out
   have hs37 : w33.cell? ⟨gb117, 1, none⟩ = some (.slice A0_1 l0_1.length c0_1) := (blk_cell BK117.out 1).trans rfl
   have hfs37 := blk_frozen BK117.out 1
   have hns37_1 := NB118_117.out
   have hms37_1 := NB117_118.out
   have hs38 : w33.cell? ⟨gb117, 2, none⟩ = some (.bool a0_2) := (blk_cell BK117.out 2).trans rfl
   have hfs38 := blk_frozen BK117.out 2
   have hns38_1 := NB118_117.out
   have hms38_1 := NB117_118.out
   refine skip_ (w1 := ?_) (by rfl) rfl ?_ ?_
   rotate_left
   ·go_simp
    rfl
   refine hK.out _ _ ?_
   clear hK K
   refine last_ (i := 5) (N := none) (bA 6 63) rfl rfl (by kernel_rfl) (by decide) (fun K hK => ?_)
   have hs40 : w33.cell? ⟨gb118, 0, none⟩ = some (.slice A1_0 l1_0.length c1_0) := (blk_cell BK118.out 0).trans rfl
   have hfs40 := blk_frozen BK118.out 0
   have hns40_0 := NB117_118.out
   have hms40_0 := NB118_117.out
   have hs42 : w33.cell? ⟨gb118, 1, none⟩ = some (.slice A1_1 l1_1.length c1_1) := (blk_cell BK118.out 1).trans rfl
   have hfs42 := blk_frozen BK118.out 1
   have hns42_0 := NB117_118.out
   have hms42_0 := NB118_117.out
   have hs43 : w33.cell? ⟨gb118, 2, none⟩ = some (.bool a1_2) := (blk_cell BK118.out 2).trans rfl
   have hfs43 := blk_frozen BK118.out 2
   have hns43_0 := NB117_118.out
   have hms43_0 := NB118_117.out
   refine skip_ (w1 := ?_) (by rfl) rfl ?_ ?_
   rotate_left
   ·go_simp
    rfl
   refine hK.out _ _ ?_
   clear hK K
   refine done_ (by kernel_rfl) ?_
   obtain ⟨x1_, x2_, x3_, x4_⟩ := own2 (.slice Ao34 t119.length co34) (.slice Ao36 t122.length co36) (.bool t125) (.slice Ao39 t126.length co39) (.slice Ao41 t129.length co41) (.bool t132) BK117.out BK118.out NB118_117.out HB.out GW117.out GW118.out
   have r0_ := x4_ _ _ _ HO121.out
   have r1_ := x4_ _ _ _ HO124.out
   have r2_ := x4_ _ _ _ HO128.out
   have r3_ := x4_ _ _ _ HO131.out
   clear x4_ HB HO121 HO124 HO128 HO131
   generalize ((((((w33.setCell ⟨gb117, 0, none⟩ (.slice Ao34 t119.length co34)).setCell ⟨gb117, 1, none⟩ (.slice Ao36 t122.length co36)).setCell ⟨gb117, 2, none⟩ (.bool t125)).setCell ⟨gb118, 0, none⟩ (.slice Ao39 t126.length co39)).setCell ⟨gb118, 1, none⟩ (.slice Ao41 t129.length co41)).setCell ⟨gb118, 2, none⟩ (.bool t132)) = wz at x1_ x2_ x3_ r0_ r1_ r2_ r3_ ⊢
   have yx1_0 : wz.cell? ⟨gb117, 0, none⟩ = some (.slice Ao34 t119.length co34) := (blk_cell x1_ 0).trans rfl
   have yx1_1 : wz.cell? ⟨gb117, 1, none⟩ = some (.slice Ao36 t122.length co36) := (blk_cell x1_ 1).trans rfl
   have yx1_2 : wz.cell? ⟨gb117, 2, none⟩ = some (.bool t125) := (blk_cell x1_ 2).trans rfl
   have yx2_0 : wz.cell? ⟨gb118, 0, none⟩ = some (.slice Ao39 t126.length co39) := (blk_cell x2_ 0).trans rfl
   have yx2_1 : wz.cell? ⟨gb118, 1, none⟩ = some (.slice Ao41 t129.length co41) := (blk_cell x2_ 1).trans rfl
   have yx2_2 : wz.cell? ⟨gb118, 2, none⟩ = some (.bool t132) := (blk_cell x2_ 2).trans rfl
   have hv0_ := own_string (P := Try.prog) Try.underlying23 Try.underlying5 Try.underlying9 (Kd.own_of_R r0_)
   have hv1_ := own_string (P := Try.prog) Try.underlying23 Try.underlying5 Try.underlying9 (Kd.own_of_R r1_)
   have hv2_ := own_string (P := Try.prog) Try.underlying23 Try.underlying5 Try.underlying9 (Kd.own_of_R r2_)
   have hv3_ := own_string (P := Try.prog) Try.underlying23 Try.underlying5 Try.underlying9 (Kd.own_of_R r3_)
   have HB := Aside0.mk x3_
   try go_wp2
   go_ret
   exact ⟨by first | rfl | (simp [errW_none, errW_some] <;> rfl) | (simp [*, errW_none, errW_some] <;> rfl), (belS HB.out)⟩
 ·rw [if_neg c5] at H
  have c5b0 : ((strOfNums t119).toList == (strOfNums t126).toList) = false := beq_eq_false_iff_ne.mpr c5
  have c5b1 : ((strOfNums t119).toList != (strOfNums t126).toList) = true := bne_iff_ne.mpr c5
  obtain rfl := Option.some.inj H
  go_enter Try.func52, Try.ntmps52
  try go_wp2_with (first | ((with_reducible refine gate_dst (N := 2) rfl ?_); refine box_event ?hg (N := 2) ?hd (cs := #[.slice A0_0 l0_0.length c0_0, .slice A0_1 l0_1.length c0_1, .bool a0_2]) (t := 49) ?hr ?_; (case hd => rfl); (case hg => rfl); (case hr => first | (go_simp; done) | (go_simp; rfl)); intro gb117 hg w51 hbox hb; have n0_ := Aside0.mk (below_step (belN HB.out) hb); have n1_ := Aside0.mk (hbox); have n2_ := Aside0.mk (szB hg HB.out); have n3_ := Aside0.mk (szB hg HB.out); clear HB; have HB := n0_; have BK117 := n1_; have GW117 := n2_; have GE117 := n3_; clear n0_ n1_ n2_ n3_; clear hb hbox hg) | ((with_reducible refine gate_dst (N := 3) rfl ?_); refine box_event ?hg (N := 3) ?hd (cs := #[.slice A1_0 l1_0.length c1_0, .slice A1_1 l1_1.length c1_1, .bool a1_2]) (t := 49) ?hr ?_; (case hd => rfl); (case hg => rfl); (case hr => first | (go_simp; done) | (go_simp; rfl)); intro gb118 hg w52 hbox hb; have n0_ := Aside0.mk (bkB BK117.out hb); have n1_ := Aside0.mk (below_step (belS HB.out) hb); have n2_ := Aside0.mk (hbox); have n3_ := Aside0.mk (szB hg HB.out); have n4_ := Aside0.mk (szB hg HB.out); have n5_ := Aside0.mk ((bk1 hg BK117.out)); have n6_ := Aside0.mk ((bk2 hg BK117.out)); clear BK117; clear HB; have BK117 := n0_; have HB := n1_; have BK118 := n2_; have GW118 := n3_; have GE118 := n4_; have NB117_118 := n5_; have NB118_117 := n6_; clear n0_ n1_ n2_ n3_ n4_ n5_ n6_; clear hb hbox hg))
  have n0_ := Aside0.mk (blk_drew BK117.out)
  have n1_ := Aside0.mk (blk_drew BK118.out)
  have n2_ := Aside0.mk (below_drew1 HB.out)
  clear BK117
  clear BK118
  clear HB
  have BK117 := n0_
  have BK118 := n1_
  have HB := n2_
  clear n0_ n1_ n2_
  refine start_ (n := 6) (S := fun w' => w'.cell? ⟨gb117, 0, none⟩ = some (.slice A0_0 l0_0.length c0_0) ∧ w'.cell? ⟨gb117, 1, none⟩ = some (.slice A0_1 l0_1.length c0_1) ∧ w'.cell? ⟨gb117, 2, none⟩ = some (.bool a0_2) ∧ w'.cell? ⟨gb118, 0, none⟩ = some (.slice A1_0 l1_0.length c1_0) ∧ w'.cell? ⟨gb118, 1, none⟩ = some (.slice A1_1 l1_1.length c1_1) ∧ w'.cell? ⟨gb118, 2, none⟩ = some (.bool a1_2)) (ds := [4, 5]) #[false, false, false, false, false, false] (by kernel_rfl) rfl rfl ⟨(blk_cell BK117.out 0).trans rfl, (blk_cell BK117.out 1).trans rfl, (blk_cell BK117.out 2).trans rfl, (blk_cell BK118.out 0).trans rfl, (blk_cell BK118.out 1).trans rfl, (blk_cell BK118.out 2).trans rfl⟩ (fun hHeld => ?_)
  generalize w52.drew = w53 at BK117 BK118 HB hHeld ⊢
  refine take_ (i := 0) (N := some 5) (v := ?_) (a' := ?_) (bA 6 1) rfl rfl (by kernel_rfl) (fun _ _ _ h => h) (Or.inl ⟨by rfl, ?_⟩) hHeld ?_ ?_
  rotate_left
  ·rintro w' ⟨s0, s1, s2, s3, s4, s5⟩
   go_simp
   with_reducible rfl
  rotate_left
  ·simp only [Act.put, List.setIfInBounds_toArray, List.set_cons_zero, List.set_cons_succ, i64_w, i32_w]
   rfl
  refine take_ (i := 2) (N := some 7) (v := ?_) (a' := ?_) (bA 6 5) rfl rfl (by kernel_rfl) (fun _ _ _ h => h) (Or.inl ⟨by rfl, ?_⟩) hHeld ?_ ?_
  rotate_left
  ·rintro w' ⟨s0, s1, s2, s3, s4, s5⟩
   go_simp
   with_reducible rfl
  rotate_left
  ·simp only [Act.put, List.setIfInBounds_toArray, List.set_cons_zero, List.set_cons_succ, i64_w, i32_w]
   rfl
  refine one_ (i := 1) (N := some 6) (bA 6 7) rfl rfl (by kernel_rfl) (by decide) (fun K hK => ?_)
  refine goes_ Try.func50 (by kernel_rfl) rfl #[.agg #[.slice A0_0 l0_0.length c0_0, .slice A0_1 l0_1.length c0_1, .bool a0_2]] (by rfl) rfl rfl argN ?_
  with_reducible refine (merge_own.calls _ _ l0_0 _ _ l0_1 a0_2 t119 t122 t125 _ ?side1 ?side2 ?side3 ?side4 A3.out).mono ?_
  (case side1 => repeat (first | exact (Kd.C_below HR0_0.out HB.out) | (with_reducible refine Kd.C_alloc ?_ _) | (with_reducible refine Kd.C_drewN ?_ _) | (with_reducible refine Kd.C_drew ?_)))
  (case side2 => exact HC0_0.out)
  (case side3 => repeat (first | exact (Kd.C_below HR0_1.out HB.out) | (with_reducible refine Kd.C_alloc ?_ _) | (with_reducible refine Kd.C_drewN ?_ _) | (with_reducible refine Kd.C_drew ?_)))
  (case side4 => exact HC0_1.out)
  rintro e w54 ⟨v120, v123, rfl, ho0, ho1, hb⟩
  refine ⟨_, rfl, ?_⟩
  have n0_ := Aside0.mk (Kd.R_lower ho0 (below_size (belS HB.out)))
  have n1_ := Aside0.mk (Kd.R_lower ho1 (below_size (belS HB.out)))
  have n2_ := Aside0.mk (bkB BK117.out hb)
  have n3_ := Aside0.mk (bkB BK118.out hb)
  have n4_ := Aside0.mk (below_step (belS HB.out) hb)
  clear BK117
  clear BK118
  clear HB
  have HO121 := n0_
  have HO124 := n1_
  have BK117 := n2_
  have BK118 := n3_
  have HB := n4_
  clear n0_ n1_ n2_ n3_ n4_
  (try clear hb)
  (try clear ho0)
  (try clear ho1)
  refine hK.out _ _ ⟨(blk_cell BK117.out 0).trans rfl, (blk_cell BK117.out 1).trans rfl, (blk_cell BK117.out 2).trans rfl, (blk_cell BK118.out 0).trans rfl, (blk_cell BK118.out 1).trans rfl, (blk_cell BK118.out 2).trans rfl⟩ (fun hHeld => ?_)
  clear hK K
  refine norm_ (a' := ?_) ?_ ?_
  rotate_left
  ·show Act.put _ (some 6) _ = _
   simp only [Act.put, List.setIfInBounds_toArray, List.set_cons_zero, List.set_cons_succ, i64_w, i32_w]
   rfl
  refine one_ (i := 3) (N := some 8) (bA 6 15) rfl rfl (by kernel_rfl) (by decide) (fun K hK => ?_)
  refine goes_ Try.func50 (by kernel_rfl) rfl #[.agg #[.slice A1_0 l1_0.length c1_0, .slice A1_1 l1_1.length c1_1, .bool a1_2]] (by rfl) rfl rfl argN ?_
  with_reducible refine (merge_own.calls _ _ l1_0 _ _ l1_1 a1_2 t126 t129 t132 _ ?side1 ?side2 ?side3 ?side4 A4.out).mono ?_
  (case side1 => repeat (first | exact (Kd.C_below HR1_0.out HB.out) | (with_reducible refine Kd.C_alloc ?_ _) | (with_reducible refine Kd.C_drewN ?_ _) | (with_reducible refine Kd.C_drew ?_)))
  (case side2 => exact HC1_0.out)
  (case side3 => repeat (first | exact (Kd.C_below HR1_1.out HB.out) | (with_reducible refine Kd.C_alloc ?_ _) | (with_reducible refine Kd.C_drewN ?_ _) | (with_reducible refine Kd.C_drew ?_)))
  (case side4 => exact HC1_1.out)
  rintro e w55 ⟨v127, v130, rfl, ho0, ho1, hb⟩
  refine ⟨_, rfl, ?_⟩
  have n0_ := Aside0.mk (Kd.R_mono (Kd.R_told (Kd.R_told (Kd.R_old (rowN HO121.out) hb) (Kd.R_base ho0)) (Kd.R_base ho1)) (fun _ h_ => h_.1))
  have n1_ := Aside0.mk (Kd.R_mono (Kd.R_told (Kd.R_told (Kd.R_old (rowN HO124.out) hb) (Kd.R_base ho0)) (Kd.R_base ho1)) (fun _ h_ => h_.1))
  have n2_ := Aside0.mk (Kd.R_lower (Kd.R_new' (Kd.R_new' ho0 (Kd.R_lt (rowN HO121.out))) (Kd.R_lt (rowN HO124.out))) (below_size (belS HB.out)))
  have n3_ := Aside0.mk (Kd.R_lower (Kd.R_new' (Kd.R_new' ho1 (Kd.R_lt (rowN HO121.out))) (Kd.R_lt (rowN HO124.out))) (below_size (belS HB.out)))
  have n4_ := Aside0.mk (bkB BK117.out hb)
  have n5_ := Aside0.mk (bkB BK118.out hb)
  have n6_ := Aside0.mk (below_step (belS HB.out) hb)
  clear HO121
  clear HO124
  clear BK117
  clear BK118
  clear HB
  have HO121 := n0_
  have HO124 := n1_
  have HO128 := n2_
  have HO131 := n3_
  have BK117 := n4_
  have BK118 := n5_
  have HB := n6_
  clear n0_ n1_ n2_ n3_ n4_ n5_ n6_
  (try clear hb)
  (try clear ho0)
  (try clear ho1)
  obtain ⟨Ao56, co56, eo56⟩ := Kd.R_slice HO121.out
  (first | subst eo56 | (injection eo56 with f1_ f2_ f3_; have f4_ := f1_.symm; have f5_ := f3_.symm; clear f1_ f2_ f3_; subst f4_; subst f5_))
  obtain ⟨Ao58, co58, eo58⟩ := Kd.R_slice HO124.out
  (first | subst eo58 | (injection eo58 with f1_ f2_ f3_; have f4_ := f1_.symm; have f5_ := f3_.symm; clear f1_ f2_ f3_; subst f4_; subst f5_))
  obtain ⟨Ao61, co61, eo61⟩ := Kd.R_slice HO128.out
  (first | subst eo61 | (injection eo61 with f1_ f2_ f3_; have f4_ := f1_.symm; have f5_ := f3_.symm; clear f1_ f2_ f3_; subst f4_; subst f5_))
  obtain ⟨Ao63, co63, eo63⟩ := Kd.R_slice HO131.out
  (first | subst eo63 | (injection eo63 with f1_ f2_ f3_; have f4_ := f1_.symm; have f5_ := f3_.symm; clear f1_ f2_ f3_; subst f4_; subst f5_))
  refine hK.out _ _ ⟨(blk_cell BK117.out 0).trans rfl, (blk_cell BK117.out 1).trans rfl, (blk_cell BK117.out 2).trans rfl, (blk_cell BK118.out 0).trans rfl, (blk_cell BK118.out 1).trans rfl, (blk_cell BK118.out 2).trans rfl⟩ (fun hHeld => ?_)
  clear hK K
  refine norm_ (a' := ?_) ?_ ?_
  rotate_left
  ·show Act.put _ (some 8) _ = _
   simp only [Act.put, List.setIfInBounds_toArray, List.set_cons_zero, List.set_cons_succ, i64_w, i32_w]
   rfl
  refine last_ (i := 4) (N := none) (bA 6 31) rfl rfl (by kernel_rfl) (by decide) (fun K hK => ?_)
  have hs57 : w55.cell? ⟨gb117, 0, none⟩ = some (.slice A0_0 l0_0.length c0_0) := (blk_cell BK117.out 0).trans rfl
  have hfs57 := blk_frozen BK117.out 0
  have hns57_1 := NB118_117.out
  have hms57_1 := NB117_118.out
  have hs59 : w55.cell? ⟨gb117, 1, none⟩ = some (.slice A0_1 l0_1.length c0_1) := (blk_cell BK117.out 1).trans rfl
  have hfs59 := blk_frozen BK117.out 1
  have hns59_1 := NB118_117.out
  have hms59_1 := NB117_118.out
  have hs60 : w55.cell? ⟨gb117, 2, none⟩ = some (.bool a0_2) := (blk_cell BK117.out 2).trans rfl
  have hfs60 := blk_frozen BK117.out 2
  have hns60_1 := NB118_117.out
  have hms60_1 := NB117_118.out
  refine skip_ (w1 := ?_) (by rfl) rfl ?_ ?_
  rotate_left
  ·go_simp
   rfl
  refine hK.out _ _ ?_
  clear hK K
  refine last_ (i := 5) (N := none) (bA 6 63) rfl rfl (by kernel_rfl) (by decide) (fun K hK => ?_)
  have hs62 : w55.cell? ⟨gb118, 0, none⟩ = some (.slice A1_0 l1_0.length c1_0) := (blk_cell BK118.out 0).trans rfl
  have hfs62 := blk_frozen BK118.out 0
  have hns62_0 := NB117_118.out
  have hms62_0 := NB118_117.out
  have hs64 : w55.cell? ⟨gb118, 1, none⟩ = some (.slice A1_1 l1_1.length c1_1) := (blk_cell BK118.out 1).trans rfl
  have hfs64 := blk_frozen BK118.out 1
  have hns64_0 := NB117_118.out
  have hms64_0 := NB118_117.out
  have hs65 : w55.cell? ⟨gb118, 2, none⟩ = some (.bool a1_2) := (blk_cell BK118.out 2).trans rfl
  have hfs65 := blk_frozen BK118.out 2
  have hns65_0 := NB117_118.out
  have hms65_0 := NB118_117.out
  refine skip_ (w1 := ?_) (by rfl) rfl ?_ ?_
  rotate_left
  ·go_simp
   rfl
  refine hK.out _ _ ?_
  clear hK K
  refine done_ (by kernel_rfl) ?_
  obtain ⟨x1_, x2_, x3_, x4_⟩ := own2 (.slice Ao56 t119.length co56) (.slice Ao58 t122.length co58) (.bool t125) (.slice Ao61 t126.length co61) (.slice Ao63 t129.length co63) (.bool t132) BK117.out BK118.out NB118_117.out HB.out GW117.out GW118.out
  have r0_ := x4_ _ _ _ HO121.out
  have r1_ := x4_ _ _ _ HO124.out
  have r2_ := x4_ _ _ _ HO128.out
  have r3_ := x4_ _ _ _ HO131.out
  clear x4_ HB HO121 HO124 HO128 HO131
  generalize ((((((w55.setCell ⟨gb117, 0, none⟩ (.slice Ao56 t119.length co56)).setCell ⟨gb117, 1, none⟩ (.slice Ao58 t122.length co58)).setCell ⟨gb117, 2, none⟩ (.bool t125)).setCell ⟨gb118, 0, none⟩ (.slice Ao61 t126.length co61)).setCell ⟨gb118, 1, none⟩ (.slice Ao63 t129.length co63)).setCell ⟨gb118, 2, none⟩ (.bool t132)) = wz at x1_ x2_ x3_ r0_ r1_ r2_ r3_ ⊢
  have yx1_0 : wz.cell? ⟨gb117, 0, none⟩ = some (.slice Ao56 t119.length co56) := (blk_cell x1_ 0).trans rfl
  have yx1_1 : wz.cell? ⟨gb117, 1, none⟩ = some (.slice Ao58 t122.length co58) := (blk_cell x1_ 1).trans rfl
  have yx1_2 : wz.cell? ⟨gb117, 2, none⟩ = some (.bool t125) := (blk_cell x1_ 2).trans rfl
  have yx2_0 : wz.cell? ⟨gb118, 0, none⟩ = some (.slice Ao61 t126.length co61) := (blk_cell x2_ 0).trans rfl
  have yx2_1 : wz.cell? ⟨gb118, 1, none⟩ = some (.slice Ao63 t129.length co63) := (blk_cell x2_ 1).trans rfl
  have yx2_2 : wz.cell? ⟨gb118, 2, none⟩ = some (.bool t132) := (blk_cell x2_ 2).trans rfl
  have hv0_ := own_string (P := Try.prog) Try.underlying23 Try.underlying5 Try.underlying9 (Kd.own_of_R r0_)
  have hv1_ := own_string (P := Try.prog) Try.underlying23 Try.underlying5 Try.underlying9 (Kd.own_of_R r1_)
  have hv2_ := own_string (P := Try.prog) Try.underlying23 Try.underlying5 Try.underlying9 (Kd.own_of_R r2_)
  have hv3_ := own_string (P := Try.prog) Try.underlying23 Try.underlying5 Try.underlying9 (Kd.own_of_R r3_)
  have HB := Aside0.mk x3_
  try go_wp2
  go_ret
  exact ⟨by first | rfl | (simp [errW_none, errW_some] <;> rfl) | (simp [*, errW_none, errW_some] <;> rfl), (belS HB.out)⟩

/-! ### api_Entry_of_merge_Same_1: function 51 -/
def api_Entry_of_merge_Same_1.l0 : Nat → List (S49) → List (S49) → Int → Int → Option (Bool)
 | 0, _, _, _, _ => none
 | k + 1, x1, x15, x16, x17 => if x17 < x16 then (if 0 ≤ x17 then (if x17 < (x15.length : Int) then (if x17 < (x1.length : Int) then ((merge_Same_1.f ((rd_T49 x15 x17).f0) ((rd_T49 x15 x17).f1) ((rd_T49 x15 x17).f2) ((rd_T49 x1 x17).f0) ((rd_T49 x1 x17).f1) ((rd_T49 x1 x17).f2)).bind fun t137 => (if t137 = true then (api_Entry_of_merge_Same_1.l0 k x1 x15 x16 (wrap64 (x17 + 1))) else (some false))) else (none)) else (none)) else (none)) else (some true)
def api_Entry_of_merge_Same_1.f (k : Nat) (l0 : List (S49)) (l1 : List (S49))  : Option (Bool) := if (l0.length : Int) = (l1.length : Int) then (api_Entry_of_merge_Same_1.l0 k l1 l0 (l0.length : Int) 0) else (some false)
theorem api_Entry_of_merge_Same_1.mono_l : ∀ k, (∀ y0 y1 y2 y3, LeO (api_Entry_of_merge_Same_1.l0 k y0 y1 y2 y3) (api_Entry_of_merge_Same_1.l0 (k + 1) y0 y1 y2 y3))
 | 0 => fun _ _ _ _ r h => by simp [api_Entry_of_merge_Same_1.l0] at h
 | k + 1 => by
  have ih0 := api_Entry_of_merge_Same_1.mono_l k
  ·intro y0 y1 y2 y3
   unfold api_Entry_of_merge_Same_1.l0
   repeat' first
   | (with_reducible exact ih0 _ _ _ _)
   | (with_reducible exact LeO.refl _)
   | (with_reducible exact LeO.none _)
   | (with_reducible refine LeO.ite ?_ ?_)
   | (with_reducible refine LeO.bind ?_ (fun _ => ?_))
   | exact ih0 _ _ _ _
   | exact LeO.none _
   | refine LeO.ite ?_ ?_
   | refine LeO.bind ?_ (fun _ => ?_)
theorem api_Entry_of_merge_Same_1.mono : ∀ a0 a1 k, LeO (api_Entry_of_merge_Same_1.f k a0 a1) (api_Entry_of_merge_Same_1.f (k + 1) a0 a1) := by
 intro a0 a1 k
 have ih0 := api_Entry_of_merge_Same_1.mono_l k
 unfold api_Entry_of_merge_Same_1.f
 repeat' first
   | (with_reducible exact ih0 _ _ _ _)
   | (with_reducible exact LeO.refl _)
   | (with_reducible exact LeO.none _)
   | (with_reducible refine LeO.ite ?_ ?_)
   | (with_reducible refine LeO.bind ?_ (fun _ => ?_))
   | exact ih0 _ _ _ _
   | exact LeO.none _
   | refine LeO.ite ?_ ?_
   | refine LeO.bind ?_ (fun _ => ?_)
set_option maxHeartbeats 8000000 in
set_option maxRecDepth 100000 in
theorem api_Entry_of_merge_Same_1.calls (k : Nat) (A0 : Option Addr) (c0 : Nat) (l0 : List (S49)) (A1 : Option Addr) (c1 : Nat) (l1 : List (S49))  (r : Bool) (w : World) (hr0 : Kd.C k49 w A0 l0.length l0) (hc0 : l0.length ≤ c0) (hr1 : Kd.C k49 w A1 l1.length l1) (hc1 : l1.length ≤ c1) (h : api_Entry_of_merge_Same_1.f k l0 l1 = some r) :
  Calls Try.prog 51 #[.slice A0 l0.length c0, .slice A1 l1.length c1, (.func (.func 52) #[] #[])] w fun e w' => e = .returned (.bool r) ∧ Below w.heap.size w w' := by
 have hu49 := Try.underlying49
 have HR0 := Aside0.mk hr0
 have HC0 := Aside0.mk hc0
 clear hr0 hc0
 have HR1 := Aside0.mk hr1
 have HC1 := Aside0.mk hc1
 clear hr1 hc1
 have HB := Aside0.mk (Below.refl w.heap.size w)
 have H : (if (l0.length : Int) = (l1.length : Int) then (api_Entry_of_merge_Same_1.l0 k l1 l0 (l0.length : Int) 0) else (some false)) = some r := h
 clear h
 by_cases c4 : (l0.length : Int) = (l1.length : Int)
 ·rw [if_pos c4] at H
  have c4b0 : ((l0.length : Int) == (l1.length : Int)) = true := beq_iff_eq.mpr c4
  have c4b1 : ((l0.length : Int) != (l1.length : Int)) = false := bne_eq_false_iff_eq.mpr c4
  have c4b2 : (l0.length == l1.length) = true := by first | simpa using c4 | (simp at c4 ⊢; omega)
  clear c4
  have H' := Aside0.mk H
  clear H
  go_enter Try.func51, Try.ntmps51
  go_wp2
  go_loopg [17] k (fun kq v17 w' => ∃ (x17_1 : Int), v17 = .int .i64 x17_1 ∧ Aside0 (api_Entry_of_merge_Same_1.l0 kq l1 l0 (l0.length : Int) x17_1 = some r) ∧ Aside0 (kq ≤ k) ∧ Aside0 (Below w.heap.size w w'))
  case atStart => exact ⟨(0), (by first | rfl | (simp; done) | (simp [*]; done)), H', ⟨Nat.le_refl _⟩, ⟨(belN HB.out)⟩⟩
  case round =>
   clear H'
   try clear c1
   try clear p2
   try clear c4
   try clear c4b0
   try clear c4b1
   try clear c4b2
   obtain ⟨x17_1, rfl, HA, HK1, HB⟩ := hrel
   cases gk with
   | zero => exact absurd HA.out (by simp [api_Entry_of_merge_Same_1.l0])
   | succ k1 =>
    have H := HA.out
    clear HA
    simp only [api_Entry_of_merge_Same_1.l0] at H
    by_cases c5 : x17_1 < (l0.length : Int)
    ·rw [if_pos c5] at H
     have c5b0 : decide (x17_1 < (l0.length : Int)) = true := decide_eq_true c5
     clear c5
     by_cases c6 : 0 ≤ x17_1
     ·rw [if_pos c6] at H
      have c6b0 : decide (0 ≤ x17_1) = true := decide_eq_true c6
      clear c6
      by_cases c7 : x17_1 < (l0.length : Int)
      ·rw [if_pos c7] at H
       have c7b0 : decide (x17_1 < (l0.length : Int)) = true := decide_eq_true c7
       clear c7
       by_cases c8 : x17_1 < (l1.length : Int)
       ·rw [if_pos c8] at H
        have c8b0 : decide (x17_1 < (l1.length : Int)) = true := decide_eq_true c8
        clear c8
        replace H := Option.bind_eq_some_iff.mp H
        obtain ⟨t137, A90, H⟩ := H
        replace H : (if t137 = true then (api_Entry_of_merge_Same_1.l0 k1 l1 l0 (l0.length : Int) (wrap64 (x17_1 + 1))) else (some false)) = some r := H
        have A9 := Aside0.mk A90
        clear A90
        by_cases c10 : t137 = true
        ·subst c10
         have H1 : (api_Entry_of_merge_Same_1.l0 k1 l1 l0 (l0.length : Int) (wrap64 (x17_1 + 1))) = some r := by rw [if_pos rfl] at H; exact H
         clear H
         have H := H1
         clear H1
         have H' := Aside0.mk H
         clear H
         have p133 : 0 ≤ (x17_1 : Int) := of_decide_eq_true (by first | (with_reducible assumption) | assumption)
         have q133 : x17_1 < (l0.length : Int) := of_decide_eq_true (by first | (with_reducible assumption) | assumption)
         obtain ⟨ad133, A133_0, c133_0, A133_1, c133_1, e133, hx133_0, hx133_1, hx133_2, hl133_0, hi133_0, hl133_1, hi133_1⟩ := at_T49 HR0.out x17_1 p133 q133
         cases e133
         replace hx133_0 := cellB HB.out hx133_0
         replace hx133_1 := cellB HB.out hx133_1
         replace hx133_2 := cellB HB.out hx133_2
         have HR133_0 := Aside0.mk hi133_0
         have HC133_0 := Aside0.mk hl133_0
         clear hi133_0 hl133_0
         have HR133_1 := Aside0.mk hi133_1
         have HC133_1 := Aside0.mk hl133_1
         clear hi133_1 hl133_1
         replace p133 := eq_true p133
         replace q133 := eq_true q133
         go_wp2_with (first | ((with_reducible refine gate_dst (N := 8) rfl ?_); refine box_event ?hg (N := 8) ?hd (cs := #[.slice none 0 0, .slice none 0 0, .bool false]) (t := 49) ?hr ?_; (case hd => rfl); (case hg => rfl); (case hr => first | (go_simp; done) | (go_simp; rfl)); intro gb134 hg w11 hbox hb; have n0_ := Aside0.mk (below_step (belN HB.out) hb); have n1_ := Aside0.mk (hbox); have n2_ := Aside0.mk (szB hg HB.out); have n3_ := Aside0.mk (szB hg HB.out); clear HB; have HB := n0_; have BK134 := n1_; have GW134 := n2_; have GE134 := n3_; clear n0_ n1_ n2_ n3_; clear hb hbox hg; have hcz12_0 : w11.cell? ⟨gb134, 0, none⟩ = some (.slice none 0 0) := (blk_cell BK134.out 0).trans rfl; have hcz12_1 : w11.cell? ⟨gb134, 1, none⟩ = some (.slice none 0 0) := (blk_cell BK134.out 1).trans rfl; have hcz12_2 : w11.cell? ⟨gb134, 2, none⟩ = some (.bool false) := (blk_cell BK134.out 2).trans rfl; have hfz12_0 := blk_frozen BK134.out 0; have hfz12_1 := blk_frozen BK134.out 1; have hfz12_2 := blk_frozen BK134.out 2; have p135 : 0 ≤ (x17_1 : Int) := of_decide_eq_true (by first | (with_reducible assumption) | assumption); have q135 : x17_1 < (l1.length : Int) := of_decide_eq_true (by first | (with_reducible assumption) | assumption); obtain ⟨ad135, A135_0, c135_0, A135_1, c135_1, e135, hx135_0, hx135_1, hx135_2, hl135_0, hi135_0, hl135_1, hi135_1⟩ := at_T49 HR1.out x17_1 p135 q135; cases e135; have hn135_0 : ad135.block ≠ gb134 := cellNe hx135_0 GW134.out; have hn135_1 : ad135.block ≠ gb134 := cellNe hx135_0 GW134.out; have hn135_2 : ad135.block ≠ gb134 := cellNe hx135_0 GW134.out; replace hx135_0 := cellB HB.out hx135_0; replace hx135_1 := cellB HB.out hx135_1; replace hx135_2 := cellB HB.out hx135_2; have HR135_0 := Aside0.mk hi135_0; have HC135_0 := Aside0.mk hl135_0; clear hi135_0 hl135_0; have HR135_1 := Aside0.mk hi135_1; have HC135_1 := Aside0.mk hl135_1; clear hi135_1 hl135_1; replace hx135_0 := (cell_far (p := ⟨gb134, 0, none⟩) (by first | (rw [add_block]; exact hn135_0) | (show (Addr.add _ _).block ≠ _; rw [add_block]; exact hn135_0) | exact hn135_0) (.slice A133_0 ((rd_T49 l0 x17_1).f0).length c133_0)).trans hx135_0; replace hx135_1 := (cell_far (p := ⟨gb134, 0, none⟩) (by first | (rw [add_block]; exact hn135_0) | (show (Addr.add _ _).block ≠ _; rw [add_block]; exact hn135_0) | exact hn135_0) (.slice A133_0 ((rd_T49 l0 x17_1).f0).length c133_0)).trans hx135_1; replace hx135_2 := (cell_far (p := ⟨gb134, 0, none⟩) (by first | (rw [add_block]; exact hn135_0) | (show (Addr.add _ _).block ≠ _; rw [add_block]; exact hn135_0) | exact hn135_0) (.slice A133_0 ((rd_T49 l0 x17_1).f0).length c133_0)).trans hx135_2; replace hx135_0 := (cell_far (p := ⟨gb134, 1, none⟩) (by first | (rw [add_block]; exact hn135_1) | (show (Addr.add _ _).block ≠ _; rw [add_block]; exact hn135_1) | exact hn135_1) (.slice A133_1 ((rd_T49 l0 x17_1).f1).length c133_1)).trans hx135_0; replace hx135_1 := (cell_far (p := ⟨gb134, 1, none⟩) (by first | (rw [add_block]; exact hn135_1) | (show (Addr.add _ _).block ≠ _; rw [add_block]; exact hn135_1) | exact hn135_1) (.slice A133_1 ((rd_T49 l0 x17_1).f1).length c133_1)).trans hx135_1; replace hx135_2 := (cell_far (p := ⟨gb134, 1, none⟩) (by first | (rw [add_block]; exact hn135_1) | (show (Addr.add _ _).block ≠ _; rw [add_block]; exact hn135_1) | exact hn135_1) (.slice A133_1 ((rd_T49 l0 x17_1).f1).length c133_1)).trans hx135_2; replace hx135_0 := (cell_far (p := ⟨gb134, 2, none⟩) (by first | (rw [add_block]; exact hn135_2) | (show (Addr.add _ _).block ≠ _; rw [add_block]; exact hn135_2) | exact hn135_2) (.bool ((rd_T49 l0 x17_1).f2))).trans hx135_0; replace hx135_1 := (cell_far (p := ⟨gb134, 2, none⟩) (by first | (rw [add_block]; exact hn135_2) | (show (Addr.add _ _).block ≠ _; rw [add_block]; exact hn135_2) | exact hn135_2) (.bool ((rd_T49 l0 x17_1).f2))).trans hx135_1; replace hx135_2 := (cell_far (p := ⟨gb134, 2, none⟩) (by first | (rw [add_block]; exact hn135_2) | (show (Addr.add _ _).block ≠ _; rw [add_block]; exact hn135_2) | exact hn135_2) (.bool ((rd_T49 l0 x17_1).f2))).trans hx135_2; clear hn135_0; clear hn135_1; clear hn135_2; replace p135 := eq_true p135; replace q135 := eq_true q135) | ((with_reducible refine gate_dst (N := 9) rfl ?_); refine box_event ?hg (N := 9) ?hd (cs := #[.slice none 0 0, .slice none 0 0, .bool false]) (t := 49) ?hr ?_; (case hd => rfl); (case hg => rfl); (case hr => first | (go_simp; done) | (go_simp; rfl)); intro gb136 hg w13 hbox hb; have n0_ := Aside0.mk (blk_below (g := gb134) (o := .cells #[.slice A133_0 ((rd_T49 l0 x17_1).f0).length c133_0, .slice A133_1 ((rd_T49 l0 x17_1).f1).length c133_1, .bool ((rd_T49 l0 x17_1).f2)] 49 (0, 0)) (by (with_reducible repeat (first | refine blk_drewN ?_ _ | refine blk_drew ?_ | refine blk_alloc ?_ _)); refine blk_put (cs := #[.slice A133_0 ((rd_T49 l0 x17_1).f0).length c133_0, .slice A133_1 ((rd_T49 l0 x17_1).f1).length c133_1, .bool false]) ?_ 2 _ rfl; (with_reducible repeat (first | refine blk_drewN ?_ _ | refine blk_drew ?_ | refine blk_alloc ?_ _)); refine blk_put (cs := #[.slice A133_0 ((rd_T49 l0 x17_1).f0).length c133_0, .slice none 0 0, .bool false]) ?_ 1 _ rfl; (with_reducible repeat (first | refine blk_drewN ?_ _ | refine blk_drew ?_ | refine blk_alloc ?_ _)); refine blk_put (cs := #[.slice none 0 0, .slice none 0 0, .bool false]) ?_ 0 _ rfl; (with_reducible repeat (first | refine blk_drewN ?_ _ | refine blk_drew ?_ | refine blk_alloc ?_ _)); exact BK134.out) hb); have n1_ := Aside0.mk (below_step (belS HB.out) hb); have n2_ := Aside0.mk (hbox); have n3_ := Aside0.mk (szB hg HB.out); have n4_ := Aside0.mk (szB hg HB.out); have n5_ := Aside0.mk ((by rw [hg]; exact Nat.ne_of_lt (blk_lt (g := gb134) (o := .cells #[.slice A133_0 ((rd_T49 l0 x17_1).f0).length c133_0, .slice A133_1 ((rd_T49 l0 x17_1).f1).length c133_1, .bool ((rd_T49 l0 x17_1).f2)] 49 (0, 0)) (by (with_reducible repeat (first | refine blk_drewN ?_ _ | refine blk_drew ?_ | refine blk_alloc ?_ _)); refine blk_put (cs := #[.slice A133_0 ((rd_T49 l0 x17_1).f0).length c133_0, .slice A133_1 ((rd_T49 l0 x17_1).f1).length c133_1, .bool false]) ?_ 2 _ rfl; (with_reducible repeat (first | refine blk_drewN ?_ _ | refine blk_drew ?_ | refine blk_alloc ?_ _)); refine blk_put (cs := #[.slice A133_0 ((rd_T49 l0 x17_1).f0).length c133_0, .slice none 0 0, .bool false]) ?_ 1 _ rfl; (with_reducible repeat (first | refine blk_drewN ?_ _ | refine blk_drew ?_ | refine blk_alloc ?_ _)); refine blk_put (cs := #[.slice none 0 0, .slice none 0 0, .bool false]) ?_ 0 _ rfl; (with_reducible repeat (first | refine blk_drewN ?_ _ | refine blk_drew ?_ | refine blk_alloc ?_ _)); exact BK134.out)) : gb134 ≠ gb136)); have n6_ := Aside0.mk ((by rw [hg]; exact Nat.ne_of_gt (blk_lt (g := gb134) (o := .cells #[.slice A133_0 ((rd_T49 l0 x17_1).f0).length c133_0, .slice A133_1 ((rd_T49 l0 x17_1).f1).length c133_1, .bool ((rd_T49 l0 x17_1).f2)] 49 (0, 0)) (by (with_reducible repeat (first | refine blk_drewN ?_ _ | refine blk_drew ?_ | refine blk_alloc ?_ _)); refine blk_put (cs := #[.slice A133_0 ((rd_T49 l0 x17_1).f0).length c133_0, .slice A133_1 ((rd_T49 l0 x17_1).f1).length c133_1, .bool false]) ?_ 2 _ rfl; (with_reducible repeat (first | refine blk_drewN ?_ _ | refine blk_drew ?_ | refine blk_alloc ?_ _)); refine blk_put (cs := #[.slice A133_0 ((rd_T49 l0 x17_1).f0).length c133_0, .slice none 0 0, .bool false]) ?_ 1 _ rfl; (with_reducible repeat (first | refine blk_drewN ?_ _ | refine blk_drew ?_ | refine blk_alloc ?_ _)); refine blk_put (cs := #[.slice none 0 0, .slice none 0 0, .bool false]) ?_ 0 _ rfl; (with_reducible repeat (first | refine blk_drewN ?_ _ | refine blk_drew ?_ | refine blk_alloc ?_ _)); exact BK134.out)) : gb136 ≠ gb134)); clear BK134; clear HB; have BK134 := n0_; have HB := n1_; have BK136 := n2_; have GW136 := n3_; have GE136 := n4_; have NB134_136 := n5_; have NB136_134 := n6_; clear n0_ n1_ n2_ n3_ n4_ n5_ n6_; clear hb hbox hg; have hnb14 := NB136_134.out; have hnc14 := NB134_136.out; have hcz15_0 : w13.cell? ⟨gb136, 0, none⟩ = some (.slice none 0 0) := (blk_cell BK136.out 0).trans rfl; have hcz15_1 : w13.cell? ⟨gb136, 1, none⟩ = some (.slice none 0 0) := (blk_cell BK136.out 1).trans rfl; have hcz15_2 : w13.cell? ⟨gb136, 2, none⟩ = some (.bool false) := (blk_cell BK136.out 2).trans rfl; have hfz15_0 := blk_frozen BK136.out 0; have hfz15_1 := blk_frozen BK136.out 1; have hfz15_2 := blk_frozen BK136.out 2; have hcz16_0 : w13.cell? ⟨gb134, 0, none⟩ = some (.slice A133_0 ((rd_T49 l0 x17_1).f0).length c133_0) := (blk_cell BK134.out 0).trans rfl; have hcz16_1 : w13.cell? ⟨gb134, 1, none⟩ = some (.slice A133_1 ((rd_T49 l0 x17_1).f1).length c133_1) := (blk_cell BK134.out 1).trans rfl; have hcz16_2 : w13.cell? ⟨gb134, 2, none⟩ = some (.bool ((rd_T49 l0 x17_1).f2)) := (blk_cell BK134.out 2).trans rfl; have hfz16_0 := blk_frozen BK134.out 0; have hfz16_1 := blk_frozen BK134.out 1; have hfz16_2 := blk_frozen BK134.out 2) | (go_at_call 52; (with_reducible refine (merge_Same_1.calls _ _ ((rd_T49 l0 x17_1).f0) _ _ ((rd_T49 l0 x17_1).f1) ((rd_T49 l0 x17_1).f2) _ _ ((rd_T49 l1 x17_1).f0) _ _ ((rd_T49 l1 x17_1).f1) ((rd_T49 l1 x17_1).f2) true _ ?side1 ?side2 ?side3 ?side4 ?side5 ?side6 ?side7 ?side8 A9.out).mono ?_); (case side1 => exact Kd.C_below HR133_0.out (belS HB.out)); (case side2 => exact HC133_0.out); (case side3 => exact Kd.C_below HR133_1.out (belS HB.out)); (case side4 => exact HC133_1.out); (case side5 => exact Kd.C_below HR135_0.out (belS HB.out)); (case side6 => exact HC135_0.out); (case side7 => exact Kd.C_below HR135_1.out (belS HB.out)); (case side8 => exact HC135_1.out); rintro e w17 ⟨rfl, hb⟩; have n0_ := Aside0.mk (bkBF BK134.out hb); have n1_ := Aside0.mk (blk_below (g := gb136) (o := .cells #[.slice A135_0 ((rd_T49 l1 x17_1).f0).length c135_0, .slice A135_1 ((rd_T49 l1 x17_1).f1).length c135_1, .bool ((rd_T49 l1 x17_1).f2)] 49 (0, 0)) (by (with_reducible repeat (first | refine blk_drewN ?_ _ | refine blk_drew ?_ | refine blk_alloc ?_ _)); refine blk_put (cs := #[.slice A135_0 ((rd_T49 l1 x17_1).f0).length c135_0, .slice A135_1 ((rd_T49 l1 x17_1).f1).length c135_1, .bool false]) ?_ 2 _ rfl; (with_reducible repeat (first | refine blk_drewN ?_ _ | refine blk_drew ?_ | refine blk_alloc ?_ _)); refine blk_put (cs := #[.slice A135_0 ((rd_T49 l1 x17_1).f0).length c135_0, .slice none 0 0, .bool false]) ?_ 1 _ rfl; (with_reducible repeat (first | refine blk_drewN ?_ _ | refine blk_drew ?_ | refine blk_alloc ?_ _)); refine blk_put (cs := #[.slice none 0 0, .slice none 0 0, .bool false]) ?_ 0 _ rfl; (with_reducible repeat (first | refine blk_drewN ?_ _ | refine blk_drew ?_ | refine blk_alloc ?_ _)); exact BK136.out) hb); have n2_ := Aside0.mk (below_step (belS HB.out) hb); clear BK134; clear BK136; clear HB; have BK134 := n0_; have BK136 := n1_; have HB := n2_; clear n0_ n1_ n2_; (try clear hb)))
         go_roundg k1
         case measure => have := HK1.out; omega
         case rel => exact ⟨(wrap64 (x17_1 + 1)), (by first | rfl | (simp; done) | (simp [*]; done)), H', ⟨by have := HK1.out; omega⟩, ⟨(belS HB.out)⟩⟩
        ·replace c10 := Bool.eq_false_iff.mpr c10
         subst c10
         have H1 : (some false) = some r := by rw [if_neg (show ¬ (false = true) by decide)] at H; exact H
         clear H
         have H := H1
         clear H1
         obtain rfl := Option.some.inj H
         have p133 : 0 ≤ (x17_1 : Int) := of_decide_eq_true (by first | (with_reducible assumption) | assumption)
         have q133 : x17_1 < (l0.length : Int) := of_decide_eq_true (by first | (with_reducible assumption) | assumption)
         obtain ⟨ad133, A133_0, c133_0, A133_1, c133_1, e133, hx133_0, hx133_1, hx133_2, hl133_0, hi133_0, hl133_1, hi133_1⟩ := at_T49 HR0.out x17_1 p133 q133
         cases e133
         replace hx133_0 := cellB HB.out hx133_0
         replace hx133_1 := cellB HB.out hx133_1
         replace hx133_2 := cellB HB.out hx133_2
         have HR133_0 := Aside0.mk hi133_0
         have HC133_0 := Aside0.mk hl133_0
         clear hi133_0 hl133_0
         have HR133_1 := Aside0.mk hi133_1
         have HC133_1 := Aside0.mk hl133_1
         clear hi133_1 hl133_1
         replace p133 := eq_true p133
         replace q133 := eq_true q133
         go_wp2_with (first | ((with_reducible refine gate_dst (N := 8) rfl ?_); refine box_event ?hg (N := 8) ?hd (cs := #[.slice none 0 0, .slice none 0 0, .bool false]) (t := 49) ?hr ?_; (case hd => rfl); (case hg => rfl); (case hr => first | (go_simp; done) | (go_simp; rfl)); intro gb134 hg w18 hbox hb; have n0_ := Aside0.mk (below_step (belN HB.out) hb); have n1_ := Aside0.mk (hbox); have n2_ := Aside0.mk (szB hg HB.out); have n3_ := Aside0.mk (szB hg HB.out); clear HB; have HB := n0_; have BK134 := n1_; have GW134 := n2_; have GE134 := n3_; clear n0_ n1_ n2_ n3_; clear hb hbox hg; have hcz19_0 : w18.cell? ⟨gb134, 0, none⟩ = some (.slice none 0 0) := (blk_cell BK134.out 0).trans rfl; have hcz19_1 : w18.cell? ⟨gb134, 1, none⟩ = some (.slice none 0 0) := (blk_cell BK134.out 1).trans rfl; have hcz19_2 : w18.cell? ⟨gb134, 2, none⟩ = some (.bool false) := (blk_cell BK134.out 2).trans rfl; have hfz19_0 := blk_frozen BK134.out 0; have hfz19_1 := blk_frozen BK134.out 1; have hfz19_2 := blk_frozen BK134.out 2; have p135 : 0 ≤ (x17_1 : Int) := of_decide_eq_true (by first | (with_reducible assumption) | assumption); have q135 : x17_1 < (l1.length : Int) := of_decide_eq_true (by first | (with_reducible assumption) | assumption); obtain ⟨ad135, A135_0, c135_0, A135_1, c135_1, e135, hx135_0, hx135_1, hx135_2, hl135_0, hi135_0, hl135_1, hi135_1⟩ := at_T49 HR1.out x17_1 p135 q135; cases e135; have hn135_0 : ad135.block ≠ gb134 := cellNe hx135_0 GW134.out; have hn135_1 : ad135.block ≠ gb134 := cellNe hx135_0 GW134.out; have hn135_2 : ad135.block ≠ gb134 := cellNe hx135_0 GW134.out; replace hx135_0 := cellB HB.out hx135_0; replace hx135_1 := cellB HB.out hx135_1; replace hx135_2 := cellB HB.out hx135_2; have HR135_0 := Aside0.mk hi135_0; have HC135_0 := Aside0.mk hl135_0; clear hi135_0 hl135_0; have HR135_1 := Aside0.mk hi135_1; have HC135_1 := Aside0.mk hl135_1; clear hi135_1 hl135_1; replace hx135_0 := (cell_far (p := ⟨gb134, 0, none⟩) (by first | (rw [add_block]; exact hn135_0) | (show (Addr.add _ _).block ≠ _; rw [add_block]; exact hn135_0) | exact hn135_0) (.slice A133_0 ((rd_T49 l0 x17_1).f0).length c133_0)).trans hx135_0; replace hx135_1 := (cell_far (p := ⟨gb134, 0, none⟩) (by first | (rw [add_block]; exact hn135_0) | (show (Addr.add _ _).block ≠ _; rw [add_block]; exact hn135_0) | exact hn135_0) (.slice A133_0 ((rd_T49 l0 x17_1).f0).length c133_0)).trans hx135_1; replace hx135_2 := (cell_far (p := ⟨gb134, 0, none⟩) (by first | (rw [add_block]; exact hn135_0) | (show (Addr.add _ _).block ≠ _; rw [add_block]; exact hn135_0) | exact hn135_0) (.slice A133_0 ((rd_T49 l0 x17_1).f0).length c133_0)).trans hx135_2; replace hx135_0 := (cell_far (p := ⟨gb134, 1, none⟩) (by first | (rw [add_block]; exact hn135_1) | (show (Addr.add _ _).block ≠ _; rw [add_block]; exact hn135_1) | exact hn135_1) (.slice A133_1 ((rd_T49 l0 x17_1).f1).length c133_1)).trans hx135_0; replace hx135_1 := (cell_far (p := ⟨gb134, 1, none⟩) (by first | (rw [add_block]; exact hn135_1) | (show (Addr.add _ _).block ≠ _; rw [add_block]; exact hn135_1) | exact hn135_1) (.slice A133_1 ((rd_T49 l0 x17_1).f1).length c133_1)).trans hx135_1; replace hx135_2 := (cell_far (p := ⟨gb134, 1, none⟩) (by first | (rw [add_block]; exact hn135_1) | (show (Addr.add _ _).block ≠ _; rw [add_block]; exact hn135_1) | exact hn135_1) (.slice A133_1 ((rd_T49 l0 x17_1).f1).length c133_1)).trans hx135_2; replace hx135_0 := (cell_far (p := ⟨gb134, 2, none⟩) (by first | (rw [add_block]; exact hn135_2) | (show (Addr.add _ _).block ≠ _; rw [add_block]; exact hn135_2) | exact hn135_2) (.bool ((rd_T49 l0 x17_1).f2))).trans hx135_0; replace hx135_1 := (cell_far (p := ⟨gb134, 2, none⟩) (by first | (rw [add_block]; exact hn135_2) | (show (Addr.add _ _).block ≠ _; rw [add_block]; exact hn135_2) | exact hn135_2) (.bool ((rd_T49 l0 x17_1).f2))).trans hx135_1; replace hx135_2 := (cell_far (p := ⟨gb134, 2, none⟩) (by first | (rw [add_block]; exact hn135_2) | (show (Addr.add _ _).block ≠ _; rw [add_block]; exact hn135_2) | exact hn135_2) (.bool ((rd_T49 l0 x17_1).f2))).trans hx135_2; clear hn135_0; clear hn135_1; clear hn135_2; replace p135 := eq_true p135; replace q135 := eq_true q135) | ((with_reducible refine gate_dst (N := 9) rfl ?_); refine box_event ?hg (N := 9) ?hd (cs := #[.slice none 0 0, .slice none 0 0, .bool false]) (t := 49) ?hr ?_; (case hd => rfl); (case hg => rfl); (case hr => first | (go_simp; done) | (go_simp; rfl)); intro gb136 hg w20 hbox hb; have n0_ := Aside0.mk (blk_below (g := gb134) (o := .cells #[.slice A133_0 ((rd_T49 l0 x17_1).f0).length c133_0, .slice A133_1 ((rd_T49 l0 x17_1).f1).length c133_1, .bool ((rd_T49 l0 x17_1).f2)] 49 (0, 0)) (by (with_reducible repeat (first | refine blk_drewN ?_ _ | refine blk_drew ?_ | refine blk_alloc ?_ _)); refine blk_put (cs := #[.slice A133_0 ((rd_T49 l0 x17_1).f0).length c133_0, .slice A133_1 ((rd_T49 l0 x17_1).f1).length c133_1, .bool false]) ?_ 2 _ rfl; (with_reducible repeat (first | refine blk_drewN ?_ _ | refine blk_drew ?_ | refine blk_alloc ?_ _)); refine blk_put (cs := #[.slice A133_0 ((rd_T49 l0 x17_1).f0).length c133_0, .slice none 0 0, .bool false]) ?_ 1 _ rfl; (with_reducible repeat (first | refine blk_drewN ?_ _ | refine blk_drew ?_ | refine blk_alloc ?_ _)); refine blk_put (cs := #[.slice none 0 0, .slice none 0 0, .bool false]) ?_ 0 _ rfl; (with_reducible repeat (first | refine blk_drewN ?_ _ | refine blk_drew ?_ | refine blk_alloc ?_ _)); exact BK134.out) hb); have n1_ := Aside0.mk (below_step (belS HB.out) hb); have n2_ := Aside0.mk (hbox); have n3_ := Aside0.mk (szB hg HB.out); have n4_ := Aside0.mk (szB hg HB.out); have n5_ := Aside0.mk ((by rw [hg]; exact Nat.ne_of_lt (blk_lt (g := gb134) (o := .cells #[.slice A133_0 ((rd_T49 l0 x17_1).f0).length c133_0, .slice A133_1 ((rd_T49 l0 x17_1).f1).length c133_1, .bool ((rd_T49 l0 x17_1).f2)] 49 (0, 0)) (by (with_reducible repeat (first | refine blk_drewN ?_ _ | refine blk_drew ?_ | refine blk_alloc ?_ _)); refine blk_put (cs := #[.slice A133_0 ((rd_T49 l0 x17_1).f0).length c133_0, .slice A133_1 ((rd_T49 l0 x17_1).f1).length c133_1, .bool false]) ?_ 2 _ rfl; (with_reducible repeat (first | refine blk_drewN ?_ _ | refine blk_drew ?_ | refine blk_alloc ?_ _)); refine blk_put (cs := #[.slice A133_0 ((rd_T49 l0 x17_1).f0).length c133_0, .slice none 0 0, .bool false]) ?_ 1 _ rfl; (with_reducible repeat (first | refine blk_drewN ?_ _ | refine blk_drew ?_ | refine blk_alloc ?_ _)); refine blk_put (cs := #[.slice none 0 0, .slice none 0 0, .bool false]) ?_ 0 _ rfl; (with_reducible repeat (first | refine blk_drewN ?_ _ | refine blk_drew ?_ | refine blk_alloc ?_ _)); exact BK134.out)) : gb134 ≠ gb136)); have n6_ := Aside0.mk ((by rw [hg]; exact Nat.ne_of_gt (blk_lt (g := gb134) (o := .cells #[.slice A133_0 ((rd_T49 l0 x17_1).f0).length c133_0, .slice A133_1 ((rd_T49 l0 x17_1).f1).length c133_1, .bool ((rd_T49 l0 x17_1).f2)] 49 (0, 0)) (by (with_reducible repeat (first | refine blk_drewN ?_ _ | refine blk_drew ?_ | refine blk_alloc ?_ _)); refine blk_put (cs := #[.slice A133_0 ((rd_T49 l0 x17_1).f0).length c133_0, .slice A133_1 ((rd_T49 l0 x17_1).f1).length c133_1, .bool false]) ?_ 2 _ rfl; (with_reducible repeat (first | refine blk_drewN ?_ _ | refine blk_drew ?_ | refine blk_alloc ?_ _)); refine blk_put (cs := #[.slice A133_0 ((rd_T49 l0 x17_1).f0).length c133_0, .slice none 0 0, .bool false]) ?_ 1 _ rfl; (with_reducible repeat (first | refine blk_drewN ?_ _ | refine blk_drew ?_ | refine blk_alloc ?_ _)); refine blk_put (cs := #[.slice none 0 0, .slice none 0 0, .bool false]) ?_ 0 _ rfl; (with_reducible repeat (first | refine blk_drewN ?_ _ | refine blk_drew ?_ | refine blk_alloc ?_ _)); exact BK134.out)) : gb136 ≠ gb134)); clear BK134; clear HB; have BK134 := n0_; have HB := n1_; have BK136 := n2_; have GW136 := n3_; have GE136 := n4_; have NB134_136 := n5_; have NB136_134 := n6_; clear n0_ n1_ n2_ n3_ n4_ n5_ n6_; clear hb hbox hg; have hnb21 := NB136_134.out; have hnc21 := NB134_136.out; have hcz22_0 : w20.cell? ⟨gb136, 0, none⟩ = some (.slice none 0 0) := (blk_cell BK136.out 0).trans rfl; have hcz22_1 : w20.cell? ⟨gb136, 1, none⟩ = some (.slice none 0 0) := (blk_cell BK136.out 1).trans rfl; have hcz22_2 : w20.cell? ⟨gb136, 2, none⟩ = some (.bool false) := (blk_cell BK136.out 2).trans rfl; have hfz22_0 := blk_frozen BK136.out 0; have hfz22_1 := blk_frozen BK136.out 1; have hfz22_2 := blk_frozen BK136.out 2; have hcz23_0 : w20.cell? ⟨gb134, 0, none⟩ = some (.slice A133_0 ((rd_T49 l0 x17_1).f0).length c133_0) := (blk_cell BK134.out 0).trans rfl; have hcz23_1 : w20.cell? ⟨gb134, 1, none⟩ = some (.slice A133_1 ((rd_T49 l0 x17_1).f1).length c133_1) := (blk_cell BK134.out 1).trans rfl; have hcz23_2 : w20.cell? ⟨gb134, 2, none⟩ = some (.bool ((rd_T49 l0 x17_1).f2)) := (blk_cell BK134.out 2).trans rfl; have hfz23_0 := blk_frozen BK134.out 0; have hfz23_1 := blk_frozen BK134.out 1; have hfz23_2 := blk_frozen BK134.out 2) | (go_at_call 52; (with_reducible refine (merge_Same_1.calls _ _ ((rd_T49 l0 x17_1).f0) _ _ ((rd_T49 l0 x17_1).f1) ((rd_T49 l0 x17_1).f2) _ _ ((rd_T49 l1 x17_1).f0) _ _ ((rd_T49 l1 x17_1).f1) ((rd_T49 l1 x17_1).f2) false _ ?side1 ?side2 ?side3 ?side4 ?side5 ?side6 ?side7 ?side8 A9.out).mono ?_); (case side1 => exact Kd.C_below HR133_0.out (belS HB.out)); (case side2 => exact HC133_0.out); (case side3 => exact Kd.C_below HR133_1.out (belS HB.out)); (case side4 => exact HC133_1.out); (case side5 => exact Kd.C_below HR135_0.out (belS HB.out)); (case side6 => exact HC135_0.out); (case side7 => exact Kd.C_below HR135_1.out (belS HB.out)); (case side8 => exact HC135_1.out); rintro e w24 ⟨rfl, hb⟩; have n0_ := Aside0.mk (bkBF BK134.out hb); have n1_ := Aside0.mk (blk_below (g := gb136) (o := .cells #[.slice A135_0 ((rd_T49 l1 x17_1).f0).length c135_0, .slice A135_1 ((rd_T49 l1 x17_1).f1).length c135_1, .bool ((rd_T49 l1 x17_1).f2)] 49 (0, 0)) (by (with_reducible repeat (first | refine blk_drewN ?_ _ | refine blk_drew ?_ | refine blk_alloc ?_ _)); refine blk_put (cs := #[.slice A135_0 ((rd_T49 l1 x17_1).f0).length c135_0, .slice A135_1 ((rd_T49 l1 x17_1).f1).length c135_1, .bool false]) ?_ 2 _ rfl; (with_reducible repeat (first | refine blk_drewN ?_ _ | refine blk_drew ?_ | refine blk_alloc ?_ _)); refine blk_put (cs := #[.slice A135_0 ((rd_T49 l1 x17_1).f0).length c135_0, .slice none 0 0, .bool false]) ?_ 1 _ rfl; (with_reducible repeat (first | refine blk_drewN ?_ _ | refine blk_drew ?_ | refine blk_alloc ?_ _)); refine blk_put (cs := #[.slice none 0 0, .slice none 0 0, .bool false]) ?_ 0 _ rfl; (with_reducible repeat (first | refine blk_drewN ?_ _ | refine blk_drew ?_ | refine blk_alloc ?_ _)); exact BK136.out) hb); have n2_ := Aside0.mk (below_step (belS HB.out) hb); clear BK134; clear BK136; clear HB; have BK134 := n0_; have BK136 := n1_; have HB := n2_; clear n0_ n1_ n2_; (try clear hb)))
         go_ret
         exact ⟨by first | rfl | (simp [errW_none, errW_some] <;> rfl) | (simp [*, errW_none, errW_some] <;> rfl), (belS HB.out)⟩
       ·rw [if_neg c8] at H
        exact absurd H (by simp)
      ·rw [if_neg c7] at H
       exact absurd H (by simp)
     ·rw [if_neg c6] at H
      exact absurd H (by simp)
    ·rw [if_neg c5] at H
     have c5b0 : decide (x17_1 < (l0.length : Int)) = false := decide_eq_false c5
     clear c5
     obtain rfl := Option.some.inj H
     go_wp2
     go_ret
     exact ⟨by first | rfl | (simp [errW_none, errW_some] <;> rfl) | (simp [*, errW_none, errW_some] <;> rfl), (belN HB.out)⟩
 ·rw [if_neg c4] at H
  have c4b0 : ((l0.length : Int) == (l1.length : Int)) = false := beq_eq_false_iff_ne.mpr c4
  have c4b1 : ((l0.length : Int) != (l1.length : Int)) = true := bne_iff_ne.mpr c4
  have c4b2 : (l0.length == l1.length) = false := by first | simpa using c4 | (simp at c4 ⊢; omega)
  obtain rfl := Option.some.inj H
  go_enter Try.func51, Try.ntmps51
  go_wp2
  go_ret
  exact ⟨by first | rfl | (simp [errW_none, errW_some] <;> rfl) | (simp [*, errW_none, errW_some] <;> rfl), (belN HB.out)⟩

/-! ### merge_Same: function 27 -/
def merge_Same.f (k : Nat) (l0 : List (S49)) (l1 : List (S49)) : Option (Bool) := (api_Entry_of_merge_Same_1.f k l0 l1).bind fun t138 => (some t138)
theorem merge_Same.mono : ∀ a0 a1 k, LeO (merge_Same.f k a0 a1) (merge_Same.f (k + 1) a0 a1) := by
 intro a0 a1 k
 unfold merge_Same.f
 repeat' first
   | (with_reducible exact api_Entry_of_merge_Same_1.mono _ _ _)
   | (with_reducible exact LeO.refl _)
   | (with_reducible exact LeO.none _)
   | (with_reducible refine LeO.ite ?_ ?_)
   | (with_reducible refine LeO.bind ?_ (fun _ => ?_))
   | exact api_Entry_of_merge_Same_1.mono _ _ _
   | exact LeO.none _
   | refine LeO.ite ?_ ?_
   | refine LeO.bind ?_ (fun _ => ?_)
set_option maxHeartbeats 8000000 in
set_option maxRecDepth 100000 in
theorem merge_Same.calls (k : Nat) (A0 : Option Addr) (c0 : Nat) (l0 : List (S49)) (A1 : Option Addr) (c1 : Nat) (l1 : List (S49)) (r : Bool) (w : World) (hr0 : Kd.C k49 w A0 l0.length l0) (hc0 : l0.length ≤ c0) (hr1 : Kd.C k49 w A1 l1.length l1) (hc1 : l1.length ≤ c1) (h : merge_Same.f k l0 l1 = some r) :
  Calls Try.prog 27 #[.slice A0 l0.length c0, .slice A1 l1.length c1] w fun e w' => e = .returned (.bool r) ∧ Below w.heap.size w w' := by
 have HR0 := Aside0.mk hr0
 have HC0 := Aside0.mk hc0
 clear hr0 hc0
 have HR1 := Aside0.mk hr1
 have HC1 := Aside0.mk hc1
 clear hr1 hc1
 have HB := Aside0.mk (Below.refl w.heap.size w)
 have H : ((api_Entry_of_merge_Same_1.f k l0 l1).bind fun t138 => (some t138)) = some r := h
 clear h
 replace H := Option.bind_eq_some_iff.mp H
 obtain ⟨t138, A30, H⟩ := H
 replace H : (some t138) = some r := H
 have A3 := Aside0.mk A30
 clear A30
 obtain rfl := Option.some.inj H
 go_enter Try.func27, Try.ntmps27
 go_wp2_with (first | ((with_reducible refine gate_callee (f := 51) rfl ?_); refine goesL_ (some 7) rfl rfl Try.func51 (by kernel_rfl) rfl #[.slice A0 l0.length c0, .slice A1 l1.length c1, (.func (.func 52) #[] #[])] rfl argN ?_; (with_reducible refine (api_Entry_of_merge_Same_1.calls k _ _ l0 _ _ l1  t138 _ ?side1 ?side2 ?side3 ?side4 A3.out).mono ?_); (case side1 => repeat (first | exact HR0.out | (with_reducible refine Kd.C_alloc ?_ _) | (with_reducible refine Kd.C_drewN ?_ _) | (with_reducible refine Kd.C_drew ?_))); (case side2 => exact HC0.out); (case side3 => repeat (first | exact HR1.out | (with_reducible refine Kd.C_alloc ?_ _) | (with_reducible refine Kd.C_drewN ?_ _) | (with_reducible refine Kd.C_drew ?_))); (case side4 => exact HC1.out); rintro e w4 ⟨rfl, hb⟩; refine ⟨_, rfl, ?_⟩; have n0_ := Aside0.mk (below_step (belN HB.out) hb); clear HB; have HB := n0_; clear n0_; (try clear hb)))
 go_ret
 exact ⟨by first | rfl | (simp [errW_none, errW_some] <;> rfl) | (simp [*, errW_none, errW_some] <;> rfl), (belN HB.out)⟩

end Go.Proofs.Ytmimfnangdabmaa.PMergeNumbers

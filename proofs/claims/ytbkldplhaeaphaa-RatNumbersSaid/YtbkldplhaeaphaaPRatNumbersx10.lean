/- The walk of the Go functions that a law reaches, told as plain functions; a program of this session has written it. No condition beyond the statement's own. -/
import Derived.Test.YtbkldplhaeaphaaPRatNumbersx0
import Derived.Test.YtbkldplhaeaphaaPRatNumbersx1
import Derived.Test.YtbkldplhaeaphaaPRatNumbersx2
import Derived.Test.YtbkldplhaeaphaaPRatNumbersx3
import Derived.Test.YtbkldplhaeaphaaPRatNumbersx8
import Derived.Test.YtbkldplhaeaphaaPRatNumbersx9
namespace Go.Proofs.Ytbkldplhaeaphaa.PRatNumbers
open Go.RowKit Go.Proofs.YtbkldplhaeaphaaW.PrintWords Go.Proofs.YtbkldplhaeaphaaW.PrintLast Go.Proofs.YtbkldplhaeaphaaW.PrintMore
attribute [local go_sem] max2_int min2_int max_two min_two max_three min_three max_four min_four   -- for this text's walks alone
set_option linter.unusedVariables false
set_option linter.unusedSimpArgs false

attribute [local go_sem high] eqA23
/-! ### marigraphref1_Parse: function 28 -/
mutual
def marigraphref1_Parse.j1 : Nat → ByteArray → Int → Int → Int → Option (Int × Int × Int)
 | 0, _, _, _, _ => none
 | k + 1, x0, x5, x271000, x271001 => if 0 ≤ x5 then (if x5 ≤ (x0.size : Int) then ((marigraphref1_Number.f k (x0.extract 0 (x5 : Int).toNat)).bind fun bt271 => (if x5 < (x0.size : Int) then (if 0 ≤ (wrap64 (x5 + 1)) then (if (wrap64 (x5 + 1)) ≤ (x0.size : Int) then ((marigraphref1_Number.f k (x0.extract ((wrap64 (x5 + 1)) : Int).toNat x0.size)).bind fun bt273 => (if bt271.2 = true then (marigraphref1_Parse.j2 k x0 bt273.2 bt271.1 bt273.1) else (marigraphref1_Parse.j2 k x0 false bt271.1 bt273.1))) else (none)) else (none)) else (marigraphref1_Parse.j2 k x0 bt271.2 bt271.1 x271001))) else (none)) else (none)
def marigraphref1_Parse.j2 : Nat → ByteArray → Bool → Int → Int → Option (Int × Int × Int)
 | 0, _, _, _, _ => none
 | k + 1, x0, x8, x271000, x271001 => if x8 = true then ((marigraphref1_Right.f k x271000 x271001).bind fun t275 => (if t275 = true then ((marigraphref1_Text.f k x271000 x271001).bind fun t276 => (if t276.toList = x0.toList then (some (x271000, x271001, 0)) else (some (0, 0, 12)))) else (some (0, 0, 12)))) else (some (0, 0, 12))
def marigraphref1_Parse.l0 : Nat → ByteArray → Int → Int → Int → Int → Option (Int × Int × Int)
 | 0, _, _, _, _, _ => none
 | k + 1, x0, x5, x6, x271000, x271001 => if x6 < (x0.size : Int) then (if 0 ≤ x6 then (if (bt x0 x6) = 47 then (marigraphref1_Parse.j1 k x0 x6 x271000 x271001) else (marigraphref1_Parse.l0 k x0 x5 (wrap64 (x6 + 1)) x271000 x271001)) else (none)) else (marigraphref1_Parse.j1 k x0 x5 x271000 x271001)
end
def marigraphref1_Parse.f (k : Nat) (a0 : ByteArray) : Option (Int × Int × Int) := marigraphref1_Parse.l0 k a0 (a0.size : Int) 0 0 1
theorem marigraphref1_Parse.mono_l : ∀ k, (∀ y0 y1 y2 y3, LeO (marigraphref1_Parse.j1 k y0 y1 y2 y3) (marigraphref1_Parse.j1 (k + 1) y0 y1 y2 y3)) ∧ (∀ y0 y1 y2 y3, LeO (marigraphref1_Parse.j2 k y0 y1 y2 y3) (marigraphref1_Parse.j2 (k + 1) y0 y1 y2 y3)) ∧ (∀ y0 y1 y2 y3 y4, LeO (marigraphref1_Parse.l0 k y0 y1 y2 y3 y4) (marigraphref1_Parse.l0 (k + 1) y0 y1 y2 y3 y4))
 | 0 => ⟨fun _ _ _ _ r h => by simp [marigraphref1_Parse.j1] at h, fun _ _ _ _ r h => by simp [marigraphref1_Parse.j2] at h, fun _ _ _ _ _ r h => by simp [marigraphref1_Parse.l0] at h⟩
 | k + 1 => by
  obtain ⟨ih0, ih1, ih2⟩ := marigraphref1_Parse.mono_l k
  refine ⟨?_, ?_, ?_⟩
  ·intro y0 y1 y2 y3
   unfold marigraphref1_Parse.j1
   repeat' first
   | (with_reducible exact ih0 _ _ _ _)
   | (with_reducible exact ih1 _ _ _ _)
   | (with_reducible exact ih2 _ _ _ _ _)
   | (with_reducible exact marigraphref1_Number.mono _ _)
   | (with_reducible exact marigraphref1_Right.mono _ _ _)
   | (with_reducible exact marigraphref1_Text.mono _ _ _)
   | (with_reducible exact LeO.refl _)
   | (with_reducible exact LeO.none _)
   | (with_reducible refine LeO.ite ?_ ?_)
   | (with_reducible refine LeO.bind ?_ (fun _ => ?_))
   | exact ih0 _ _ _ _
   | exact ih1 _ _ _ _
   | exact ih2 _ _ _ _ _
   | exact marigraphref1_Number.mono _ _
   | exact marigraphref1_Right.mono _ _ _
   | exact marigraphref1_Text.mono _ _ _
   | exact LeO.none _
   | refine LeO.ite ?_ ?_
   | refine LeO.bind ?_ (fun _ => ?_)
  ·intro y0 y1 y2 y3
   unfold marigraphref1_Parse.j2
   repeat' first
   | (with_reducible exact ih0 _ _ _ _)
   | (with_reducible exact ih1 _ _ _ _)
   | (with_reducible exact ih2 _ _ _ _ _)
   | (with_reducible exact marigraphref1_Number.mono _ _)
   | (with_reducible exact marigraphref1_Right.mono _ _ _)
   | (with_reducible exact marigraphref1_Text.mono _ _ _)
   | (with_reducible exact LeO.refl _)
   | (with_reducible exact LeO.none _)
   | (with_reducible refine LeO.ite ?_ ?_)
   | (with_reducible refine LeO.bind ?_ (fun _ => ?_))
   | exact ih0 _ _ _ _
   | exact ih1 _ _ _ _
   | exact ih2 _ _ _ _ _
   | exact marigraphref1_Number.mono _ _
   | exact marigraphref1_Right.mono _ _ _
   | exact marigraphref1_Text.mono _ _ _
   | exact LeO.none _
   | refine LeO.ite ?_ ?_
   | refine LeO.bind ?_ (fun _ => ?_)
  ·intro y0 y1 y2 y3 y4
   unfold marigraphref1_Parse.l0
   repeat' first
   | (with_reducible exact ih0 _ _ _ _)
   | (with_reducible exact ih1 _ _ _ _)
   | (with_reducible exact ih2 _ _ _ _ _)
   | (with_reducible exact marigraphref1_Number.mono _ _)
   | (with_reducible exact marigraphref1_Right.mono _ _ _)
   | (with_reducible exact marigraphref1_Text.mono _ _ _)
   | (with_reducible exact LeO.refl _)
   | (with_reducible exact LeO.none _)
   | (with_reducible refine LeO.ite ?_ ?_)
   | (with_reducible refine LeO.bind ?_ (fun _ => ?_))
   | exact ih0 _ _ _ _
   | exact ih1 _ _ _ _
   | exact ih2 _ _ _ _ _
   | exact marigraphref1_Number.mono _ _
   | exact marigraphref1_Right.mono _ _ _
   | exact marigraphref1_Text.mono _ _ _
   | exact LeO.none _
   | refine LeO.ite ?_ ?_
   | refine LeO.bind ?_ (fun _ => ?_)
theorem marigraphref1_Parse.mono : ∀ a0 k, LeO (marigraphref1_Parse.f k a0) (marigraphref1_Parse.f (k + 1) a0) := by
 intro a0 k
 obtain ⟨ih0, ih1, ih2⟩ := marigraphref1_Parse.mono_l k
 unfold marigraphref1_Parse.f
 repeat' first
   | (with_reducible exact ih0 _ _ _ _)
   | (with_reducible exact ih1 _ _ _ _)
   | (with_reducible exact ih2 _ _ _ _ _)
   | (with_reducible exact marigraphref1_Number.mono _ _)
   | (with_reducible exact marigraphref1_Right.mono _ _ _)
   | (with_reducible exact marigraphref1_Text.mono _ _ _)
   | (with_reducible exact LeO.refl _)
   | (with_reducible exact LeO.none _)
   | (with_reducible refine LeO.ite ?_ ?_)
   | (with_reducible refine LeO.bind ?_ (fun _ => ?_))
   | exact ih0 _ _ _ _
   | exact ih1 _ _ _ _
   | exact ih2 _ _ _ _ _
   | exact marigraphref1_Number.mono _ _
   | exact marigraphref1_Right.mono _ _ _
   | exact marigraphref1_Text.mono _ _ _
   | exact LeO.none _
   | refine LeO.ite ?_ ?_
   | refine LeO.bind ?_ (fun _ => ?_)
set_option maxHeartbeats 8000000 in
set_option maxRecDepth 100000 in
theorem marigraphref1_Parse.calls (k : Nat) (a0 : ByteArray) (r1 : Int) (r2 : Int) (r3 : Int) (w : World) (h : marigraphref1_Parse.f k a0 = some (r1, r2, r3)) :
  Calls Try.prog 28 #[.string a0] w fun e w' => e = .returned (.tuple #[.agg #[.int .i64 r1, .int .i64 r2], .int .i64 r3]) ∧ Below w.heap.size w w' := by
 have hu23 := Try.underlying23
 have HB := Aside0.mk (Below.refl w.heap.size w)
 have H : (marigraphref1_Parse.l0 k a0 (a0.size : Int) 0 0 1) = some (r1, r2, r3) := h
 clear h
 have HC2 := Aside0.mk H
 clear H
 go_enter Try.func28, Try.ntmps28
 go_upto_block 0 with (first | ((with_reducible refine gate_dst (N := 2) rfl ?_); refine box_event ?hg (N := 2) ?hd (cs := #[.int .i64 0, .int .i64 0]) (t := 23) ?hr ?_; (case hd => rfl); (case hg => rfl); (case hr => first | (go_simp; done) | (go_simp; rfl)); intro gb269 hg w3 hbox hb; have n0_ := Aside0.mk (below_step (belN HB.out) hb); have n1_ := Aside0.mk (hbox); have n2_ := Aside0.mk (szB hg HB.out); have n3_ := Aside0.mk (szB hg HB.out); clear HB; have HB := n0_; have BK269 := n1_; have GW269 := n2_; have GE269 := n3_; clear n0_ n1_ n2_ n3_; clear hb hbox hg) | ((with_reducible refine gate_dst (N := 4) rfl ?_); refine box_event ?hg (N := 4) ?hd (cs := #[.int .i64 0, .int .i64 0]) (t := 23) ?hr ?_; (case hd => rfl); (case hg => rfl); (case hr => first | (go_simp; done) | (go_simp; rfl)); intro gb270 hg w4 hbox hb; have n0_ := Aside0.mk (bkB BK269.out hb); have n1_ := Aside0.mk (below_step (belS HB.out) hb); have n2_ := Aside0.mk (hbox); have n3_ := Aside0.mk (szB hg HB.out); have n4_ := Aside0.mk (szB hg HB.out); have n5_ := Aside0.mk ((bk1 hg BK269.out)); have n6_ := Aside0.mk ((bk2 hg BK269.out)); clear BK269; clear HB; have BK269 := n0_; have HB := n1_; have BK270 := n2_; have GW270 := n3_; have GE270 := n4_; have NB269_270 := n5_; have NB270_269 := n6_; clear n0_ n1_ n2_ n3_ n4_ n5_ n6_; clear hb hbox hg; have hnb5 := NB270_269.out; have hnc5 := NB269_270.out; have hcz6_0 : w4.cell? ⟨gb270, 0, none⟩ = some (.int .i64 0) := (blk_cell BK270.out 0).trans rfl; have hcz6_1 : w4.cell? ⟨gb270, 1, none⟩ = some (.int .i64 0) := (blk_cell BK270.out 1).trans rfl; have hfz6_0 := blk_frozen BK270.out 0; have hfz6_1 := blk_frozen BK270.out 1))
 (try simp only [Act.put, List.setIfInBounds_toArray, List.set_cons_zero, List.set_cons_succ])
 go_cut [5] (fun v5 wc => ∃ (kq : Nat) (x5_1 : Int), v5 = .int .i64 x5_1 ∧ Aside0 (marigraphref1_Parse.j1 kq a0 x5_1 0 1 = some (r1, r2, r3)) ∧ Aside0 (kq ≤ k) ∧ Aside0 (wc.heap[gb269]? = some (.cells #[.int .i64 0, .int .i64 0] 23 (0, 0))) ∧ Aside0 (wc.heap[gb270]? = some (.cells #[.int .i64 0, .int .i64 1] 23 (0, 0))) ∧ Aside0 (Below w.heap.size w wc))
 case first =>
  have H := HC2.out
  clear HC2
  have H' := Aside0.mk H
  clear H
  go_wp2
  go_loopg [5, 6] k (fun kq v5 v6 w' => ∃ (x5_1 : Int) (x6_1 : Int), v5 = .int .i64 x5_1 ∧ v6 = .int .i64 x6_1 ∧ Aside0 (marigraphref1_Parse.l0 kq a0 x5_1 x6_1 0 1 = some (r1, r2, r3)) ∧ Aside0 (kq ≤ k) ∧ Aside0 (w'.heap[gb269]? = some (.cells #[.int .i64 0, .int .i64 0] 23 (0, 0))) ∧ Aside0 (w'.heap[gb270]? = some (.cells #[.int .i64 0, .int .i64 1] 23 (0, 0))) ∧ Aside0 (Below w.heap.size w w'))
  case atStart => exact ⟨((a0.size : Int)), (0), (by first | rfl | (simp; done) | (simp [*]; done)), (by first | rfl | (simp; done) | (simp [*]; done)), H', ⟨Nat.le_refl _⟩, ⟨blkF BK269.out⟩, ⟨by (with_reducible repeat (first | refine blk_drewN ?_ _ | refine blk_drew ?_ | refine blk_alloc ?_ _)); refine blk_put (cs := #[.int .i64 0, .int .i64 0]) ?_ 1 _ rfl; (with_reducible repeat (first | refine blk_drewN ?_ _ | refine blk_drew ?_ | refine blk_alloc ?_ _)); refine blk_put (cs := #[.int .i64 0, .int .i64 0]) ?_ 0 _ rfl; (with_reducible repeat (first | refine blk_drewN ?_ _ | refine blk_drew ?_ | refine blk_alloc ?_ _)); exact BK270.out⟩, ⟨(belS HB.out)⟩⟩
  case round =>
   clear H'
   try clear c2
   try clear p2
   try clear c5
   try clear hcz6_0
   try clear hcz6_1
   try clear hfz6_0
   try clear hfz6_1
   obtain ⟨x5_1, x6_1, rfl, rfl, HA, HK1, BK269, BK270, HB⟩ := hrel
   cases gk with
   | zero => exact absurd HA.out (by simp [marigraphref1_Parse.l0])
   | succ k1 =>
    have H := HA.out
    clear HA
    simp only [marigraphref1_Parse.l0] at H
    by_cases c7 : x6_1 < (a0.size : Int)
    ·rw [if_pos c7] at H
     have c7b0 : decide (x6_1 < (a0.size : Int)) = true := decide_eq_true c7
     clear c7
     (first | rw [c7b0] | rw [c7b1] | (simp only [i64_w, i32_w]; rw [c7b0]) | skip)
     by_cases c8 : 0 ≤ x6_1
     ·rw [if_pos c8] at H
      have c8b0 : decide (0 ≤ x6_1) = true := decide_eq_true c8
      clear c8
      by_cases c10 : (bt a0 x6_1) = 47
      ·rw [if_pos c10] at H
       have c10b0 : ((bt a0 x6_1) == 47) = true := beq_iff_eq.mpr c10
       have c10b1 : ((bt a0 x6_1) != 47) = false := bne_eq_false_iff_eq.mpr c10
       clear c10
       have H' := Aside0.mk H
       clear H
       have p9 : 0 ≤ (x6_1 : Int) := of_decide_eq_true (by first | (with_reducible assumption) | assumption)
       have q9 : x6_1 < (a0.size : Int) := of_decide_eq_true (by first | (with_reducible assumption) | assumption)
       have hx9 := bt_at a0 x6_1
       replace p9 := eq_true p9
       replace q9 := eq_true q9
       go_wp2
       go_meet
       case rel => exact ⟨_, (x6_1), (by first | rfl | (simp; done) | (simp [*]; done)), H', ⟨by have := HK1.out; first | omega | exact Nat.le_refl _⟩, ⟨blkN BK269.out⟩, ⟨blkN BK270.out⟩, ⟨(belS HB.out)⟩⟩
      ·rw [if_neg c10] at H
       have c10b0 : ((bt a0 x6_1) == 47) = false := beq_eq_false_iff_ne.mpr c10
       have c10b1 : ((bt a0 x6_1) != 47) = true := bne_iff_ne.mpr c10
       have H' := Aside0.mk H
       clear H
       have p9 : 0 ≤ (x6_1 : Int) := of_decide_eq_true (by first | (with_reducible assumption) | assumption)
       have q9 : x6_1 < (a0.size : Int) := of_decide_eq_true (by first | (with_reducible assumption) | assumption)
       have hx9 := bt_at a0 x6_1
       replace p9 := eq_true p9
       replace q9 := eq_true q9
       go_wp2
       go_roundg k1
       case measure => have := HK1.out; omega
       case rel => exact ⟨(x5_1), (wrap64 (x6_1 + 1)), (by first | rfl | (simp; done) | (simp [*]; done)), (by first | rfl | (simp; done) | (simp [*]; done)), H', ⟨by have := HK1.out; omega⟩, ⟨blkN BK269.out⟩, ⟨blkN BK270.out⟩, ⟨(belS HB.out)⟩⟩
     ·rw [if_neg c8] at H
      exact absurd H (by simp)
    ·rw [if_neg c7] at H
     have c7b0 : decide (x6_1 < (a0.size : Int)) = false := decide_eq_false c7
     clear c7
     (first | rw [c7b0] | rw [c7b1] | (simp only [i64_w, i32_w]; rw [c7b0]) | skip)
     have H' := Aside0.mk H
     clear H
     go_wp2
     go_meet
     case rel => exact ⟨_, (x5_1), (by first | rfl | (simp; done) | (simp [*]; done)), H', ⟨by have := HK1.out; first | omega | exact Nat.le_refl _⟩, ⟨blkN BK269.out⟩, ⟨blkN BK270.out⟩, ⟨(belS HB.out)⟩⟩
 case rest =>
  clear HC2
  try clear c1
  try clear c2
  try clear p2
  try clear c5
  try clear p6
  try clear c7
  try clear c7b0
  try clear c8
  try clear c8b0
  try clear p9
  try clear q9
  try clear hx9
  try clear c10
  try clear c10b0
  try clear c10b1
  try clear hcz6_0
  try clear hcz6_1
  try clear hfz6_0
  try clear hfz6_1
  try clear p2
  try clear p9
  try clear q9
  obtain ⟨kq, x5_1, rfl, HA, HJ1, BK269, BK270, HB⟩ := hcut
  cases kq with
  | zero => exact absurd HA.out (by simp [marigraphref1_Parse.j1])
  | succ kj1 =>
   have H := HA.out
   clear HA
   simp only [marigraphref1_Parse.j1] at H
   by_cases c11 : 0 ≤ x5_1
   ·rw [if_pos c11] at H
    have c11b0 := eq_true c11
    have c11b1 : decide (0 ≤ x5_1) = true := decide_eq_true c11
    clear c11
    by_cases c12 : x5_1 ≤ (a0.size : Int)
    ·rw [if_pos c12] at H
     have c12b0 := eq_true c12
     have c12b1 : decide (x5_1 ≤ (a0.size : Int)) = true := decide_eq_true c12
     clear c12
     replace H := Option.bind_eq_some_iff.mp H
     obtain ⟨⟨t271, t272⟩, A130, H⟩ := H
     replace H : (if x5_1 < (a0.size : Int) then (if 0 ≤ (wrap64 (x5_1 + 1)) then (if (wrap64 (x5_1 + 1)) ≤ (a0.size : Int) then ((marigraphref1_Number.f kj1 (a0.extract ((wrap64 (x5_1 + 1)) : Int).toNat a0.size)).bind fun bt273 => (if t272 = true then (marigraphref1_Parse.j2 kj1 a0 bt273.2 t271 bt273.1) else (marigraphref1_Parse.j2 kj1 a0 false t271 bt273.1))) else (none)) else (none)) else (marigraphref1_Parse.j2 kj1 a0 t272 t271 1)) = some (r1, r2, r3) := H
     have A13 := Aside0.mk A130
     clear A130
     have HC14 := Aside0.mk H
     clear H
     go_upto_if 37 with (first | ((with_reducible refine gate_callee (f := 46) rfl ?_); refine goesL_ (some 29) rfl rfl Try.func46 (by kernel_rfl) rfl #[.string (a0.extract 0 (x5_1 : Int).toNat)] rfl argN ?_; (with_reducible refine (marigraphref1_Number.calls kj1 (a0.extract 0 (x5_1 : Int).toNat) t271 t272 _ A13.out).mono ?_); rintro e w' ⟨rfl, ⟨nd, rfl⟩⟩; refine ⟨_, rfl, ?_⟩; (try (rw [drewN_self wc]; generalize hq_ : World.drewN wc _ = wc; have n0_ := Aside0.mk (blk_at hq_ BK269.out); have n1_ := Aside0.mk (blk_at hq_ BK270.out); have n2_ := Aside0.mk (below_at hq_ HB.out); clear hq_ BK269 BK270 HB; have BK269 := n0_; have BK270 := n1_; have HB := n2_; clear n0_ n1_ n2_)); have hnb15 := NB270_269.out; have hnc15 := NB269_270.out; have hcz16_0 : wc.cell? ⟨gb270, 0, none⟩ = some (.int .i64 0) := (blk_cell BK270.out 0).trans rfl; have hcz16_1 : wc.cell? ⟨gb270, 1, none⟩ = some (.int .i64 1) := (blk_cell BK270.out 1).trans rfl; have hfz16_0 := blk_frozen BK270.out 0; have hfz16_1 := blk_frozen BK270.out 1))
     (try simp only [Act.put, List.setIfInBounds_toArray, List.set_cons_zero, List.set_cons_succ])
     go_cut [8] (fun v8 wc => ∃ (kq : Nat) (x8_13 : Bool) (x271001_13 : Int), v8 = .bool x8_13 ∧ Aside0 (marigraphref1_Parse.j2 kq a0 x8_13 t271 x271001_13 = some (r1, r2, r3)) ∧ Aside0 (kq ≤ kj1) ∧ Aside0 (wc.heap[gb269]? = some (.cells #[.int .i64 0, .int .i64 0] 23 (0, 0))) ∧ Aside0 (wc.heap[gb270]? = some (.cells #[.int .i64 t271, .int .i64 x271001_13] 23 (0, 0))) ∧ Aside0 (Below w.heap.size w wc))
     case first =>
      have H := HC14.out
      clear HC14
      by_cases c17 : x5_1 < (a0.size : Int)
      ·rw [if_pos c17] at H
       have c17b0 : decide (x5_1 < (a0.size : Int)) = true := decide_eq_true c17
       clear c17
       (first | rw [c17b0] | rw [c17b1] | (simp only [i64_w, i32_w]; rw [c17b0]) | skip)
       obtain ⟨ji18, hji18⟩ : ∃ j_ : Int, (wrap64 (x5_1 + 1)) = j_ := ⟨_, rfl⟩
       replace H : (if 0 ≤ (ji18) then (if (ji18) ≤ (a0.size : Int) then ((marigraphref1_Number.f kj1 (a0.extract ((ji18) : Int).toNat a0.size)).bind fun bt273 => (if t272 = true then (marigraphref1_Parse.j2 kj1 a0 bt273.2 t271 bt273.1) else (marigraphref1_Parse.j2 kj1 a0 false t271 bt273.1))) else (none)) else (none)) = some (r1, r2, r3) := by first | (rw [hji18] at H; exact H) | (simp only [hji18] at H ⊢; exact H)
       have hji18w : (IntKind.i64.wrap (x5_1 + 1)) = ji18 := (i64_w _).trans hji18
       by_cases c19 : 0 ≤ (ji18)
       ·rw [if_pos c19] at H
        have c19b0 := eq_true c19
        have c19b1 : decide (0 ≤ (ji18)) = true := decide_eq_true c19
        clear c19
        by_cases c20 : (ji18) ≤ (a0.size : Int)
        ·rw [if_pos c20] at H
         have c20b0 := eq_true c20
         have c20b1 : decide ((ji18) ≤ (a0.size : Int)) = true := decide_eq_true c20
         clear c20
         replace H := Option.bind_eq_some_iff.mp H
         obtain ⟨⟨t273, t274⟩, A210, H⟩ := H
         replace H : (if t272 = true then (marigraphref1_Parse.j2 kj1 a0 t274 t271 t273) else (marigraphref1_Parse.j2 kj1 a0 false t271 t273)) = some (r1, r2, r3) := H
         have A21 := Aside0.mk A210
         clear A210
         by_cases c22 : t272 = true
         ·subst c22
          have H1 : (marigraphref1_Parse.j2 kj1 a0 t274 t271 t273) = some (r1, r2, r3) := by rw [if_pos rfl] at H; exact H
          clear H
          have H := H1
          clear H1
          have H' := Aside0.mk H
          clear H
          go_wp2_with (first | ((with_reducible refine gate_callee (f := 46) rfl ?_); refine goesL_ (some 43) rfl rfl Try.func46 (by kernel_rfl) rfl #[.string (a0.extract ((ji18) : Int).toNat a0.size)] rfl (by (try simp only [List.map_toArray, List.map_cons, List.map_nil]); first | done | (simp only [hji18]; rfl) | rfl | (simp only [List.length_drop, List.length_take]; rfl)) ?_; (with_reducible refine (marigraphref1_Number.calls kj1 (a0.extract ((ji18) : Int).toNat a0.size) t273 t274 _ A21.out).mono ?_); rintro e w' ⟨rfl, ⟨nd, rfl⟩⟩; refine ⟨_, rfl, ?_⟩; have hnb23 := NB270_269.out; have hnc23 := NB269_270.out; have hcz24_0 : wc.cell? ⟨gb270, 0, none⟩ = some (.int .i64 0) := (blk_cell BK270.out 0).trans rfl; have hcz24_1 : wc.cell? ⟨gb270, 1, none⟩ = some (.int .i64 1) := (blk_cell BK270.out 1).trans rfl; have hfz24_0 := blk_frozen BK270.out 0; have hfz24_1 := blk_frozen BK270.out 1))
          go_meet
          case rel => exact ⟨_, (t274), (t273), (by first | rfl | (simp; done) | (simp [*]; done)), H', ⟨by have := HJ1.out; first | omega | exact Nat.le_refl _⟩, ⟨blkF BK269.out⟩, ⟨by (with_reducible repeat (first | refine blk_drewN ?_ _ | refine blk_drew ?_ | refine blk_alloc ?_ _)); refine blk_put (cs := #[.int .i64 t271, .int .i64 1]) ?_ 1 _ rfl; (with_reducible repeat (first | refine blk_drewN ?_ _ | refine blk_drew ?_ | refine blk_alloc ?_ _)); refine blk_put (cs := #[.int .i64 0, .int .i64 1]) ?_ 0 _ rfl; (with_reducible repeat (first | refine blk_drewN ?_ _ | refine blk_drew ?_ | refine blk_alloc ?_ _)); exact BK270.out⟩, ⟨(belS HB.out)⟩⟩
         ·replace c22 := Bool.eq_false_iff.mpr c22
          subst c22
          have H1 : (marigraphref1_Parse.j2 kj1 a0 false t271 t273) = some (r1, r2, r3) := by rw [if_neg (show ¬ (false = true) by decide)] at H; exact H
          clear H
          have H := H1
          clear H1
          have H' := Aside0.mk H
          clear H
          go_wp2_with (first | ((with_reducible refine gate_callee (f := 46) rfl ?_); refine goesL_ (some 43) rfl rfl Try.func46 (by kernel_rfl) rfl #[.string (a0.extract ((ji18) : Int).toNat a0.size)] rfl (by (try simp only [List.map_toArray, List.map_cons, List.map_nil]); first | done | (simp only [hji18]; rfl) | rfl | (simp only [List.length_drop, List.length_take]; rfl)) ?_; (with_reducible refine (marigraphref1_Number.calls kj1 (a0.extract ((ji18) : Int).toNat a0.size) t273 t274 _ A21.out).mono ?_); rintro e w' ⟨rfl, ⟨nd, rfl⟩⟩; refine ⟨_, rfl, ?_⟩; have hnb25 := NB270_269.out; have hnc25 := NB269_270.out; have hcz26_0 : wc.cell? ⟨gb270, 0, none⟩ = some (.int .i64 0) := (blk_cell BK270.out 0).trans rfl; have hcz26_1 : wc.cell? ⟨gb270, 1, none⟩ = some (.int .i64 1) := (blk_cell BK270.out 1).trans rfl; have hfz26_0 := blk_frozen BK270.out 0; have hfz26_1 := blk_frozen BK270.out 1))
          go_meet
          case rel => exact ⟨_, (false), (t273), (by first | rfl | (simp; done) | (simp [*]; done)), H', ⟨by have := HJ1.out; first | omega | exact Nat.le_refl _⟩, ⟨blkF BK269.out⟩, ⟨by (with_reducible repeat (first | refine blk_drewN ?_ _ | refine blk_drew ?_ | refine blk_alloc ?_ _)); refine blk_put (cs := #[.int .i64 t271, .int .i64 1]) ?_ 1 _ rfl; (with_reducible repeat (first | refine blk_drewN ?_ _ | refine blk_drew ?_ | refine blk_alloc ?_ _)); refine blk_put (cs := #[.int .i64 0, .int .i64 1]) ?_ 0 _ rfl; (with_reducible repeat (first | refine blk_drewN ?_ _ | refine blk_drew ?_ | refine blk_alloc ?_ _)); exact BK270.out⟩, ⟨(belS HB.out)⟩⟩
        ·rw [if_neg c20] at H
         exact absurd H (by simp)
       ·rw [if_neg c19] at H
        exact absurd H (by simp)
      ·rw [if_neg c17] at H
       have c17b0 : decide (x5_1 < (a0.size : Int)) = false := decide_eq_false c17
       clear c17
       (first | rw [c17b0] | rw [c17b1] | (simp only [i64_w, i32_w]; rw [c17b0]) | skip)
       have H' := Aside0.mk H
       clear H
       go_wp2
       go_meet
       case rel => exact ⟨_, (t272), (1), (by first | rfl | (simp; done) | (simp [*]; done)), H', ⟨by have := HJ1.out; first | omega | exact Nat.le_refl _⟩, ⟨blkF BK269.out⟩, ⟨by (with_reducible repeat (first | refine blk_drewN ?_ _ | refine blk_drew ?_ | refine blk_alloc ?_ _)); refine blk_put (cs := #[.int .i64 0, .int .i64 1]) ?_ 0 _ rfl; (with_reducible repeat (first | refine blk_drewN ?_ _ | refine blk_drew ?_ | refine blk_alloc ?_ _)); exact BK270.out⟩, ⟨(belS HB.out)⟩⟩
     case rest =>
      clear HC14
      try clear c1
      try clear c2
      try clear p2
      try clear c4
      try clear c5
      try clear p6
      try clear c7
      try clear c7b0
      try clear c8
      try clear c8b0
      try clear p9
      try clear q9
      try clear hx9
      try clear c10
      try clear c10b0
      try clear c10b1
      try clear c11
      try clear c11b0
      try clear c11b1
      try clear c12
      try clear c12b0
      try clear c12b1
      try clear c15
      try clear c17
      try clear c17b0
      try clear c19
      try clear c19b0
      try clear c19b1
      try clear c20
      try clear c20b0
      try clear c20b1
      try clear c22
      try clear c23
      try clear c25
      try clear hcz16_0
      try clear hcz16_1
      try clear hcz24_0
      try clear hcz24_1
      try clear hcz26_0
      try clear hcz26_1
      try clear hcz6_0
      try clear hcz6_1
      try clear hfz16_0
      try clear hfz16_1
      try clear hfz24_0
      try clear hfz24_1
      try clear hfz26_0
      try clear hfz26_1
      try clear hfz6_0
      try clear hfz6_1
      try clear p2
      try clear p6
      try clear p9
      try clear q9
      obtain ⟨kq, x8_13, x271001_13, rfl, HA, HJ13, BK269, BK270, HB⟩ := hcut
      cases kq with
      | zero => exact absurd HA.out (by simp [marigraphref1_Parse.j2])
      | succ kj13 =>
       have H := HA.out
       clear HA
       simp only [marigraphref1_Parse.j2] at H
       by_cases c27 : x8_13 = true
       ·subst c27
        have H1 : ((marigraphref1_Right.f kj13 t271 x271001_13).bind fun t275 => (if t275 = true then ((marigraphref1_Text.f kj13 t271 x271001_13).bind fun t276 => (if t276.toList = a0.toList then (some (t271, x271001_13, 0)) else (some (0, 0, 12)))) else (some (0, 0, 12)))) = some (r1, r2, r3) := by rw [if_pos rfl] at H; exact H
        clear H
        have H := H1
        clear H1
        replace H := Option.bind_eq_some_iff.mp H
        obtain ⟨t275, A280, H⟩ := H
        replace H : (if t275 = true then ((marigraphref1_Text.f kj13 t271 x271001_13).bind fun t276 => (if t276.toList = a0.toList then (some (t271, x271001_13, 0)) else (some (0, 0, 12)))) else (some (0, 0, 12))) = some (r1, r2, r3) := H
        have A28 := Aside0.mk A280
        clear A280
        by_cases c29 : t275 = true
        ·subst c29
         have H1 : ((marigraphref1_Text.f kj13 t271 x271001_13).bind fun t276 => (if t276.toList = a0.toList then (some (t271, x271001_13, 0)) else (some (0, 0, 12)))) = some (r1, r2, r3) := by rw [if_pos rfl] at H; exact H
         clear H
         have H := H1
         clear H1
         replace H := Option.bind_eq_some_iff.mp H
         obtain ⟨t276, A300, H⟩ := H
         replace H : (if t276.toList = a0.toList then (some (t271, x271001_13, 0)) else (some (0, 0, 12))) = some (r1, r2, r3) := H
         have A30 := Aside0.mk A300
         clear A300
         by_cases c31 : t276.toList = a0.toList
         ·rw [if_pos c31] at H
          have c31b0 : (t276.toList == a0.toList) = true := beq_iff_eq.mpr c31
          have c31b1 : (t276.toList != a0.toList) = false := bne_eq_false_iff_eq.mpr c31
          clear c31
          simp only [Option.some.injEq, Prod.mk.injEq] at H
          obtain ⟨rfl, rfl, rfl⟩ := H
          have hnb32 := NB270_269.out
          have hnc32 := NB269_270.out
          have hcz33_0 : wc.cell? ⟨gb270, 0, none⟩ = some (.int .i64 t271) := (blk_cell BK270.out 0).trans rfl
          have hcz33_1 : wc.cell? ⟨gb270, 1, none⟩ = some (.int .i64 x271001_13) := (blk_cell BK270.out 1).trans rfl
          have hfz33_0 := blk_frozen BK270.out 0
          have hfz33_1 := blk_frozen BK270.out 1
          go_wp2_with (first | (go_at_call 22; (with_reducible refine (marigraphref1_Right.calls kj13 t271 x271001_13 true _ A28.out).mono ?_); rintro e w34 ⟨rfl, hb⟩; have n0_ := Aside0.mk (bkB BK269.out hb); have n1_ := Aside0.mk (bkB BK270.out hb); have n2_ := Aside0.mk (below_step (belS HB.out) hb); clear BK269; clear BK270; clear HB; have BK269 := n0_; have BK270 := n1_; have HB := n2_; clear n0_ n1_ n2_; (try clear hb); have hcz35_0 : w34.cell? ⟨gb270, 0, none⟩ = some (.int .i64 t271) := (blk_cell BK270.out 0).trans rfl; have hcz35_1 : w34.cell? ⟨gb270, 1, none⟩ = some (.int .i64 x271001_13) := (blk_cell BK270.out 1).trans rfl; have hfz35_0 := blk_frozen BK270.out 0; have hfz35_1 := blk_frozen BK270.out 1) | (go_at_call 11; (with_reducible refine (marigraphref1_Text.calls kj13 t271 x271001_13 t276 _ A30.out).mono ?_); rintro e w36 ⟨rfl, hb⟩; have n0_ := Aside0.mk (bkB BK269.out hb); have n1_ := Aside0.mk (bkB BK270.out hb); have n2_ := Aside0.mk (below_step (belS HB.out) hb); clear BK269; clear BK270; clear HB; have BK269 := n0_; have BK270 := n1_; have HB := n2_; clear n0_ n1_ n2_; (try clear hb); have hcz37_0 : w36.cell? ⟨gb270, 0, none⟩ = some (.int .i64 t271) := (blk_cell BK270.out 0).trans rfl; have hcz37_1 : w36.cell? ⟨gb270, 1, none⟩ = some (.int .i64 x271001_13) := (blk_cell BK270.out 1).trans rfl; have hfz37_0 := blk_frozen BK270.out 0; have hfz37_1 := blk_frozen BK270.out 1; have hcz38_0 : w36.cell? ⟨gb269, 0, none⟩ = some (.int .i64 0) := (blk_cell BK269.out 0).trans rfl; have hcz38_1 : w36.cell? ⟨gb269, 1, none⟩ = some (.int .i64 0) := (blk_cell BK269.out 1).trans rfl; have hfz38_0 := blk_frozen BK269.out 0; have hfz38_1 := blk_frozen BK269.out 1))
          refine bodyPost_ret (results_ct rfl _ _ gb269 23 #[.int .i64 t271, .int .i64 x271001_13] (0, 0) _ rfl (by (with_reducible repeat (first | refine blk_drewN ?_ _ | refine blk_drew ?_ | refine blk_alloc ?_ _)); refine blk_put (cs := #[.int .i64 t271, .int .i64 0]) ?_ 1 _ rfl; (with_reducible repeat (first | refine blk_drewN ?_ _ | refine blk_drew ?_ | refine blk_alloc ?_ _)); refine blk_put (cs := #[.int .i64 0, .int .i64 0]) ?_ 0 _ rfl; (with_reducible repeat (first | refine blk_drewN ?_ _ | refine blk_drew ?_ | refine blk_alloc ?_ _)); exact BK269.out) Try.underlying23 rfl (by kernel_rfl)) rfl ?_
          exact ⟨by first | rfl | (simp [errW_none, errW_some] <;> rfl) | (simp [*, errW_none, errW_some] <;> rfl), (belS HB.out)⟩
         ·rw [if_neg c31] at H
          have c31b0 : (t276.toList == a0.toList) = false := beq_eq_false_iff_ne.mpr c31
          have c31b1 : (t276.toList != a0.toList) = true := bne_iff_ne.mpr c31
          simp only [Option.some.injEq, Prod.mk.injEq] at H
          obtain ⟨rfl, rfl, rfl⟩ := H
          have hnb39 := NB270_269.out
          have hnc39 := NB269_270.out
          have hcz40_0 : wc.cell? ⟨gb270, 0, none⟩ = some (.int .i64 t271) := (blk_cell BK270.out 0).trans rfl
          have hcz40_1 : wc.cell? ⟨gb270, 1, none⟩ = some (.int .i64 x271001_13) := (blk_cell BK270.out 1).trans rfl
          have hfz40_0 := blk_frozen BK270.out 0
          have hfz40_1 := blk_frozen BK270.out 1
          go_wp2_with (first | (go_at_call 22; (with_reducible refine (marigraphref1_Right.calls kj13 t271 x271001_13 true _ A28.out).mono ?_); rintro e w41 ⟨rfl, hb⟩; have n0_ := Aside0.mk (bkB BK269.out hb); have n1_ := Aside0.mk (bkB BK270.out hb); have n2_ := Aside0.mk (below_step (belS HB.out) hb); clear BK269; clear BK270; clear HB; have BK269 := n0_; have BK270 := n1_; have HB := n2_; clear n0_ n1_ n2_; (try clear hb); have hcz42_0 : w41.cell? ⟨gb270, 0, none⟩ = some (.int .i64 t271) := (blk_cell BK270.out 0).trans rfl; have hcz42_1 : w41.cell? ⟨gb270, 1, none⟩ = some (.int .i64 x271001_13) := (blk_cell BK270.out 1).trans rfl; have hfz42_0 := blk_frozen BK270.out 0; have hfz42_1 := blk_frozen BK270.out 1) | (go_at_call 11; (with_reducible refine (marigraphref1_Text.calls kj13 t271 x271001_13 t276 _ A30.out).mono ?_); rintro e w43 ⟨rfl, hb⟩; have n0_ := Aside0.mk (bkB BK269.out hb); have n1_ := Aside0.mk (bkB BK270.out hb); have n2_ := Aside0.mk (below_step (belS HB.out) hb); clear BK269; clear BK270; clear HB; have BK269 := n0_; have BK270 := n1_; have HB := n2_; clear n0_ n1_ n2_; (try clear hb); have hcz44_0 : w43.cell? ⟨gb269, 0, none⟩ = some (.int .i64 0) := (blk_cell BK269.out 0).trans rfl; have hcz44_1 : w43.cell? ⟨gb269, 1, none⟩ = some (.int .i64 0) := (blk_cell BK269.out 1).trans rfl; have hfz44_0 := blk_frozen BK269.out 0; have hfz44_1 := blk_frozen BK269.out 1))
          refine bodyPost_ret (results_ct rfl _ _ gb269 23 #[.int .i64 0, .int .i64 0] (0, 0) _ rfl (by (with_reducible repeat (first | refine blk_drewN ?_ _ | refine blk_drew ?_ | refine blk_alloc ?_ _)); refine blk_put (cs := #[.int .i64 0, .int .i64 0]) ?_ 1 _ rfl; (with_reducible repeat (first | refine blk_drewN ?_ _ | refine blk_drew ?_ | refine blk_alloc ?_ _)); refine blk_put (cs := #[.int .i64 0, .int .i64 0]) ?_ 0 _ rfl; (with_reducible repeat (first | refine blk_drewN ?_ _ | refine blk_drew ?_ | refine blk_alloc ?_ _)); exact BK269.out) Try.underlying23 rfl (by kernel_rfl)) rfl ?_
          exact ⟨by first | rfl | (simp [errW_none, errW_some] <;> rfl) | (simp [*, errW_none, errW_some] <;> rfl), (belS HB.out)⟩
        ·replace c29 := Bool.eq_false_iff.mpr c29
         subst c29
         have H1 : (some (0, 0, 12)) = some (r1, r2, r3) := by rw [if_neg (show ¬ (false = true) by decide)] at H; exact H
         clear H
         have H := H1
         clear H1
         simp only [Option.some.injEq, Prod.mk.injEq] at H
         obtain ⟨rfl, rfl, rfl⟩ := H
         have hnb45 := NB270_269.out
         have hnc45 := NB269_270.out
         have hcz46_0 : wc.cell? ⟨gb270, 0, none⟩ = some (.int .i64 t271) := (blk_cell BK270.out 0).trans rfl
         have hcz46_1 : wc.cell? ⟨gb270, 1, none⟩ = some (.int .i64 x271001_13) := (blk_cell BK270.out 1).trans rfl
         have hfz46_0 := blk_frozen BK270.out 0
         have hfz46_1 := blk_frozen BK270.out 1
         go_wp2_with (first | (go_at_call 22; (with_reducible refine (marigraphref1_Right.calls kj13 t271 x271001_13 false _ A28.out).mono ?_); rintro e w47 ⟨rfl, hb⟩; have n0_ := Aside0.mk (bkB BK269.out hb); have n1_ := Aside0.mk (bkB BK270.out hb); have n2_ := Aside0.mk (below_step (belS HB.out) hb); clear BK269; clear BK270; clear HB; have BK269 := n0_; have BK270 := n1_; have HB := n2_; clear n0_ n1_ n2_; (try clear hb); have hcz48_0 : w47.cell? ⟨gb269, 0, none⟩ = some (.int .i64 0) := (blk_cell BK269.out 0).trans rfl; have hcz48_1 : w47.cell? ⟨gb269, 1, none⟩ = some (.int .i64 0) := (blk_cell BK269.out 1).trans rfl; have hfz48_0 := blk_frozen BK269.out 0; have hfz48_1 := blk_frozen BK269.out 1))
         refine bodyPost_ret (results_ct rfl _ _ gb269 23 #[.int .i64 0, .int .i64 0] (0, 0) _ rfl (by (with_reducible repeat (first | refine blk_drewN ?_ _ | refine blk_drew ?_ | refine blk_alloc ?_ _)); refine blk_put (cs := #[.int .i64 0, .int .i64 0]) ?_ 1 _ rfl; (with_reducible repeat (first | refine blk_drewN ?_ _ | refine blk_drew ?_ | refine blk_alloc ?_ _)); refine blk_put (cs := #[.int .i64 0, .int .i64 0]) ?_ 0 _ rfl; (with_reducible repeat (first | refine blk_drewN ?_ _ | refine blk_drew ?_ | refine blk_alloc ?_ _)); exact BK269.out) Try.underlying23 rfl (by kernel_rfl)) rfl ?_
         exact ⟨by first | rfl | (simp [errW_none, errW_some] <;> rfl) | (simp [*, errW_none, errW_some] <;> rfl), (belS HB.out)⟩
       ·replace c27 := Bool.eq_false_iff.mpr c27
        subst c27
        have H1 : (some (0, 0, 12)) = some (r1, r2, r3) := by rw [if_neg (show ¬ (false = true) by decide)] at H; exact H
        clear H
        have H := H1
        clear H1
        simp only [Option.some.injEq, Prod.mk.injEq] at H
        obtain ⟨rfl, rfl, rfl⟩ := H
        have hnb49 := NB269_270.out
        have hnc49 := NB270_269.out
        have hcz50_0 : wc.cell? ⟨gb269, 0, none⟩ = some (.int .i64 0) := (blk_cell BK269.out 0).trans rfl
        have hcz50_1 : wc.cell? ⟨gb269, 1, none⟩ = some (.int .i64 0) := (blk_cell BK269.out 1).trans rfl
        have hfz50_0 := blk_frozen BK269.out 0
        have hfz50_1 := blk_frozen BK269.out 1
        go_wp2
        refine bodyPost_ret (results_ct rfl _ _ gb269 23 #[.int .i64 0, .int .i64 0] (0, 0) _ rfl (by (with_reducible repeat (first | refine blk_drewN ?_ _ | refine blk_drew ?_ | refine blk_alloc ?_ _)); refine blk_put (cs := #[.int .i64 0, .int .i64 0]) ?_ 1 _ rfl; (with_reducible repeat (first | refine blk_drewN ?_ _ | refine blk_drew ?_ | refine blk_alloc ?_ _)); refine blk_put (cs := #[.int .i64 0, .int .i64 0]) ?_ 0 _ rfl; (with_reducible repeat (first | refine blk_drewN ?_ _ | refine blk_drew ?_ | refine blk_alloc ?_ _)); exact BK269.out) Try.underlying23 rfl (by kernel_rfl)) rfl ?_
        exact ⟨by first | rfl | (simp [errW_none, errW_some] <;> rfl) | (simp [*, errW_none, errW_some] <;> rfl), (belS HB.out)⟩
    ·rw [if_neg c12] at H
     exact absurd H (by simp)
   ·rw [if_neg c11] at H
    exact absurd H (by simp)

/-! ### marigraphlaw1_parses: function 9 -/
def marigraphlaw1_parses.f (k : Nat) (a0 : ByteArray) : Option (Bool) := (rat_Parse.f k a0).bind fun bt277 => ((marigraphref1_Parse.f k a0).bind fun bt281 => (if (bt277.1 == bt281.1 && (bt277.2.1 == bt281.2.1)) = true then (some (bt277.2.2 == bt281.2.2)) else (some false)))
theorem marigraphlaw1_parses.mono : ∀ a0 k, LeO (marigraphlaw1_parses.f k a0) (marigraphlaw1_parses.f (k + 1) a0) := by
 intro a0 k
 unfold marigraphlaw1_parses.f
 repeat' first
   | (with_reducible exact marigraphref1_Parse.mono _ _)
   | (with_reducible exact rat_Parse.mono _ _)
   | (with_reducible exact LeO.refl _)
   | (with_reducible exact LeO.none _)
   | (with_reducible refine LeO.ite ?_ ?_)
   | (with_reducible refine LeO.bind ?_ (fun _ => ?_))
   | exact marigraphref1_Parse.mono _ _
   | exact rat_Parse.mono _ _
   | exact LeO.none _
   | refine LeO.ite ?_ ?_
   | refine LeO.bind ?_ (fun _ => ?_)
set_option maxHeartbeats 8000000 in
set_option maxRecDepth 100000 in
theorem marigraphlaw1_parses.calls (k : Nat) (a0 : ByteArray) (r : Bool) (w : World) (h : marigraphlaw1_parses.f k a0 = some r) :
  Calls Try.prog 9 #[.string a0] w fun e w' => e = .returned (.bool r) ∧ Below w.heap.size w w' := by
 have hu23 := Try.underlying23
 have HB := Aside0.mk (Below.refl w.heap.size w)
 have H : ((rat_Parse.f k a0).bind fun bt277 => ((marigraphref1_Parse.f k a0).bind fun bt281 => (if (bt277.1 == bt281.1 && (bt277.2.1 == bt281.2.1)) = true then (some (bt277.2.2 == bt281.2.2)) else (some false)))) = some r := h
 clear h
 replace H := Option.bind_eq_some_iff.mp H
 obtain ⟨⟨t277, t278, t279⟩, A20, H⟩ := H
 replace H : ((marigraphref1_Parse.f k a0).bind fun bt281 => (if (t277 == bt281.1 && (t278 == bt281.2.1)) = true then (some (t279 == bt281.2.2)) else (some false))) = some r := H
 have A2 := Aside0.mk A20
 clear A20
 replace H := Option.bind_eq_some_iff.mp H
 obtain ⟨⟨t281, t282, t283⟩, A30, H⟩ := H
 replace H : (if (t277 == t281 && (t278 == t282)) = true then (some (t279 == t283)) else (some false)) = some r := H
 have A3 := Aside0.mk A30
 clear A30
 by_cases c4 : (t277 == t281 && (t278 == t282)) = true
 ·rw [if_pos c4] at H
  have c4b0 : (t277 == t281 && (t278 == t282)) = true := c4
  (try (have c4b1 : decide (t277 = t281 && (t278 == t282)) = true := by simpa using c4))
  (try (have c4b2 : (t277 == t281 && (t278 == t282)) = true := by simpa using c4))
  clear c4
  obtain rfl := Option.some.inj H
  go_enter Try.func9, Try.ntmps9
  go_wp2_with (first | ((with_reducible refine gate_callee (f := 27) rfl ?_); refine goesL_ (some 9) rfl rfl Try.func27 (by kernel_rfl) rfl #[.string a0] rfl argN ?_; (with_reducible refine (rat_Parse.calls k a0 t277 t278 t279 _ A2.out).mono ?_); rintro e w5 ⟨rfl, hb⟩; refine ⟨_, rfl, ?_⟩; have n0_ := Aside0.mk (below_step (belN HB.out) hb); clear HB; have HB := n0_; clear n0_; (try clear hb)) | ((with_reducible refine gate_dst (N := 3) rfl ?_); refine box_event ?hg (N := 3) ?hd (cs := #[.int .i64 0, .int .i64 0]) (t := 23) ?hr ?_; (case hd => rfl); (case hg => rfl); (case hr => first | (go_simp; done) | (go_simp; rfl)); intro gb280 hg w6 hbox hb; have n0_ := Aside0.mk (below_step (belN HB.out) hb); have n1_ := Aside0.mk (hbox); have n2_ := Aside0.mk (szB hg HB.out); have n3_ := Aside0.mk (szB hg HB.out); clear HB; have HB := n0_; have BK280 := n1_; have GW280 := n2_; have GE280 := n3_; clear n0_ n1_ n2_ n3_; clear hb hbox hg; have hcz7_0 : w6.cell? ⟨gb280, 0, none⟩ = some (.int .i64 0) := (blk_cell BK280.out 0).trans rfl; have hcz7_1 : w6.cell? ⟨gb280, 1, none⟩ = some (.int .i64 0) := (blk_cell BK280.out 1).trans rfl; have hfz7_0 := blk_frozen BK280.out 0; have hfz7_1 := blk_frozen BK280.out 1) | ((with_reducible refine gate_callee (f := 28) rfl ?_); refine goesL_ (some 14) rfl rfl Try.func28 (by kernel_rfl) rfl #[.string a0] rfl argN ?_; (with_reducible refine (marigraphref1_Parse.calls k a0 t281 t282 t283 _ A3.out).mono ?_); rintro e w8 ⟨rfl, hb⟩; refine ⟨_, rfl, ?_⟩; have n0_ := Aside0.mk (blk_below (g := gb280) (o := .cells #[.int .i64 t277, .int .i64 t278] 23 (0, 0)) (by (with_reducible repeat (first | refine blk_drewN ?_ _ | refine blk_drew ?_ | refine blk_alloc ?_ _)); refine blk_put (cs := #[.int .i64 t277, .int .i64 0]) ?_ 1 _ rfl; (with_reducible repeat (first | refine blk_drewN ?_ _ | refine blk_drew ?_ | refine blk_alloc ?_ _)); refine blk_put (cs := #[.int .i64 0, .int .i64 0]) ?_ 0 _ rfl; (with_reducible repeat (first | refine blk_drewN ?_ _ | refine blk_drew ?_ | refine blk_alloc ?_ _)); exact BK280.out) hb); have n1_ := Aside0.mk (below_step (belS HB.out) hb); clear BK280; clear HB; have BK280 := n0_; have HB := n1_; clear n0_ n1_; (try clear hb)) | ((with_reducible refine gate_dst (N := 5) rfl ?_); refine box_event ?hg (N := 5) ?hd (cs := #[.int .i64 0, .int .i64 0]) (t := 23) ?hr ?_; (case hd => rfl); (case hg => rfl); (case hr => first | (go_simp; done) | (go_simp; rfl)); intro gb284 hg w9 hbox hb; have n0_ := Aside0.mk (bkB BK280.out hb); have n1_ := Aside0.mk (below_step (belS HB.out) hb); have n2_ := Aside0.mk (hbox); have n3_ := Aside0.mk (szB hg HB.out); have n4_ := Aside0.mk (szB hg HB.out); have n5_ := Aside0.mk ((bk1 hg BK280.out)); have n6_ := Aside0.mk ((bk2 hg BK280.out)); clear BK280; clear HB; have BK280 := n0_; have HB := n1_; have BK284 := n2_; have GW284 := n3_; have GE284 := n4_; have NB280_284 := n5_; have NB284_280 := n6_; clear n0_ n1_ n2_ n3_ n4_ n5_ n6_; clear hb hbox hg; have hnb10 := NB284_280.out; have hnc10 := NB280_284.out; have hcz11_0 : w9.cell? ⟨gb284, 0, none⟩ = some (.int .i64 0) := (blk_cell BK284.out 0).trans rfl; have hcz11_1 : w9.cell? ⟨gb284, 1, none⟩ = some (.int .i64 0) := (blk_cell BK284.out 1).trans rfl; have hfz11_0 := blk_frozen BK284.out 0; have hfz11_1 := blk_frozen BK284.out 1; have hcz12_0 : w9.cell? ⟨gb280, 0, none⟩ = some (.int .i64 t277) := (blk_cell BK280.out 0).trans rfl; have hcz12_1 : w9.cell? ⟨gb280, 1, none⟩ = some (.int .i64 t278) := (blk_cell BK280.out 1).trans rfl; have hfz12_0 := blk_frozen BK280.out 0; have hfz12_1 := blk_frozen BK280.out 1))
  go_ret
  exact ⟨by first | rfl | (simp [errW_none, errW_some] <;> rfl) | (simp [*, errW_none, errW_some] <;> rfl), (belS HB.out)⟩
 ·rw [if_neg c4] at H
  have c4b0 : (t277 == t281 && (t278 == t282)) = false := by simpa using c4
  (try (have c4b1 : decide (t277 = t281 && (t278 == t282)) = false := by simpa using c4))
  (try (have c4b2 : (t277 == t281 && (t278 == t282)) = false := by simpa using c4))
  (try (have c4b3 : ¬ (t277 = t281 && (t278 == t282)) := by simpa using c4))
  clear c4
  obtain rfl := Option.some.inj H
  go_enter Try.func9, Try.ntmps9
  go_wp2_with (first | ((with_reducible refine gate_callee (f := 27) rfl ?_); refine goesL_ (some 9) rfl rfl Try.func27 (by kernel_rfl) rfl #[.string a0] rfl argN ?_; (with_reducible refine (rat_Parse.calls k a0 t277 t278 t279 _ A2.out).mono ?_); rintro e w13 ⟨rfl, hb⟩; refine ⟨_, rfl, ?_⟩; have n0_ := Aside0.mk (below_step (belN HB.out) hb); clear HB; have HB := n0_; clear n0_; (try clear hb)) | ((with_reducible refine gate_dst (N := 3) rfl ?_); refine box_event ?hg (N := 3) ?hd (cs := #[.int .i64 0, .int .i64 0]) (t := 23) ?hr ?_; (case hd => rfl); (case hg => rfl); (case hr => first | (go_simp; done) | (go_simp; rfl)); intro gb280 hg w14 hbox hb; have n0_ := Aside0.mk (below_step (belN HB.out) hb); have n1_ := Aside0.mk (hbox); have n2_ := Aside0.mk (szB hg HB.out); have n3_ := Aside0.mk (szB hg HB.out); clear HB; have HB := n0_; have BK280 := n1_; have GW280 := n2_; have GE280 := n3_; clear n0_ n1_ n2_ n3_; clear hb hbox hg; have hcz15_0 : w14.cell? ⟨gb280, 0, none⟩ = some (.int .i64 0) := (blk_cell BK280.out 0).trans rfl; have hcz15_1 : w14.cell? ⟨gb280, 1, none⟩ = some (.int .i64 0) := (blk_cell BK280.out 1).trans rfl; have hfz15_0 := blk_frozen BK280.out 0; have hfz15_1 := blk_frozen BK280.out 1) | ((with_reducible refine gate_callee (f := 28) rfl ?_); refine goesL_ (some 14) rfl rfl Try.func28 (by kernel_rfl) rfl #[.string a0] rfl argN ?_; (with_reducible refine (marigraphref1_Parse.calls k a0 t281 t282 t283 _ A3.out).mono ?_); rintro e w16 ⟨rfl, hb⟩; refine ⟨_, rfl, ?_⟩; have n0_ := Aside0.mk (blk_below (g := gb280) (o := .cells #[.int .i64 t277, .int .i64 t278] 23 (0, 0)) (by (with_reducible repeat (first | refine blk_drewN ?_ _ | refine blk_drew ?_ | refine blk_alloc ?_ _)); refine blk_put (cs := #[.int .i64 t277, .int .i64 0]) ?_ 1 _ rfl; (with_reducible repeat (first | refine blk_drewN ?_ _ | refine blk_drew ?_ | refine blk_alloc ?_ _)); refine blk_put (cs := #[.int .i64 0, .int .i64 0]) ?_ 0 _ rfl; (with_reducible repeat (first | refine blk_drewN ?_ _ | refine blk_drew ?_ | refine blk_alloc ?_ _)); exact BK280.out) hb); have n1_ := Aside0.mk (below_step (belS HB.out) hb); clear BK280; clear HB; have BK280 := n0_; have HB := n1_; clear n0_ n1_; (try clear hb)) | ((with_reducible refine gate_dst (N := 5) rfl ?_); refine box_event ?hg (N := 5) ?hd (cs := #[.int .i64 0, .int .i64 0]) (t := 23) ?hr ?_; (case hd => rfl); (case hg => rfl); (case hr => first | (go_simp; done) | (go_simp; rfl)); intro gb284 hg w17 hbox hb; have n0_ := Aside0.mk (bkB BK280.out hb); have n1_ := Aside0.mk (below_step (belS HB.out) hb); have n2_ := Aside0.mk (hbox); have n3_ := Aside0.mk (szB hg HB.out); have n4_ := Aside0.mk (szB hg HB.out); have n5_ := Aside0.mk ((bk1 hg BK280.out)); have n6_ := Aside0.mk ((bk2 hg BK280.out)); clear BK280; clear HB; have BK280 := n0_; have HB := n1_; have BK284 := n2_; have GW284 := n3_; have GE284 := n4_; have NB280_284 := n5_; have NB284_280 := n6_; clear n0_ n1_ n2_ n3_ n4_ n5_ n6_; clear hb hbox hg; have hnb18 := NB284_280.out; have hnc18 := NB280_284.out; have hcz19_0 : w17.cell? ⟨gb284, 0, none⟩ = some (.int .i64 0) := (blk_cell BK284.out 0).trans rfl; have hcz19_1 : w17.cell? ⟨gb284, 1, none⟩ = some (.int .i64 0) := (blk_cell BK284.out 1).trans rfl; have hfz19_0 := blk_frozen BK284.out 0; have hfz19_1 := blk_frozen BK284.out 1; have hcz20_0 : w17.cell? ⟨gb280, 0, none⟩ = some (.int .i64 t277) := (blk_cell BK280.out 0).trans rfl; have hcz20_1 : w17.cell? ⟨gb280, 1, none⟩ = some (.int .i64 t278) := (blk_cell BK280.out 1).trans rfl; have hfz20_0 := blk_frozen BK280.out 0; have hfz20_1 := blk_frozen BK280.out 1))
  go_ret
  exact ⟨by first | rfl | (simp [errW_none, errW_some] <;> rfl) | (simp [*, errW_none, errW_some] <;> rfl), (belS HB.out)⟩

/-! ### marigraphlaw1_known: function 12 -/
def marigraphlaw1_known.f (k : Nat)  : Option (Bool) := (rat_Add.f k 1 2 1 3).bind fun bt285 => ((rat_New.f k 4 (-6)).bind fun bt289 => (if bt285.2.2 = 0 then (if (bt285.1 == 5 && (bt285.2.1 == 6)) = true then (if bt289.2.2 = 0 then (some (bt289.1 == (-2) && (bt289.2.1 == 3))) else (some false)) else (some false)) else (some false)))
theorem marigraphlaw1_known.mono : ∀ k, LeO (marigraphlaw1_known.f k ) (marigraphlaw1_known.f (k + 1) ) := by
 intro  k
 unfold marigraphlaw1_known.f
 repeat' first
   | (with_reducible exact rat_Add.mono _ _ _ _ _)
   | (with_reducible exact rat_New.mono _ _ _)
   | (with_reducible exact LeO.refl _)
   | (with_reducible exact LeO.none _)
   | (with_reducible refine LeO.ite ?_ ?_)
   | (with_reducible refine LeO.bind ?_ (fun _ => ?_))
   | exact rat_Add.mono _ _ _ _ _
   | exact rat_New.mono _ _ _
   | exact LeO.none _
   | refine LeO.ite ?_ ?_
   | refine LeO.bind ?_ (fun _ => ?_)
set_option maxHeartbeats 8000000 in
set_option maxRecDepth 100000 in
theorem marigraphlaw1_known.calls (k : Nat)  (r : Bool) (w : World) (h : marigraphlaw1_known.f k  = some r) :
  Calls Try.prog 12 #[] w fun e w' => e = .returned (.bool r) ∧ Below w.heap.size w w' := by
 have hu23 := Try.underlying23
 have HB := Aside0.mk (Below.refl w.heap.size w)
 have H : ((rat_Add.f k 1 2 1 3).bind fun bt285 => ((rat_New.f k 4 (-6)).bind fun bt289 => (if bt285.2.2 = 0 then (if (bt285.1 == 5 && (bt285.2.1 == 6)) = true then (if bt289.2.2 = 0 then (some (bt289.1 == (-2) && (bt289.2.1 == 3))) else (some false)) else (some false)) else (some false)))) = some r := h
 clear h
 replace H := Option.bind_eq_some_iff.mp H
 obtain ⟨⟨t285, t286, t287⟩, A10, H⟩ := H
 replace H : ((rat_New.f k 4 (-6)).bind fun bt289 => (if t287 = 0 then (if (t285 == 5 && (t286 == 6)) = true then (if bt289.2.2 = 0 then (some (bt289.1 == (-2) && (bt289.2.1 == 3))) else (some false)) else (some false)) else (some false))) = some r := H
 have A1 := Aside0.mk A10
 clear A10
 replace H := Option.bind_eq_some_iff.mp H
 obtain ⟨⟨t289, t290, t291⟩, A20, H⟩ := H
 replace H : (if t287 = 0 then (if (t285 == 5 && (t286 == 6)) = true then (if t291 = 0 then (some (t289 == (-2) && (t290 == 3))) else (some false)) else (some false)) else (some false)) = some r := H
 have A2 := Aside0.mk A20
 clear A20
 by_cases c3 : t287 = 0
 ·rw [if_pos c3] at H
  have c3b0 : (t287 == 0) = true := beq_iff_eq.mpr c3
  have c3b1 : (t287 != 0) = false := bne_eq_false_iff_eq.mpr c3
  clear c3
  by_cases c4 : (t285 == 5 && (t286 == 6)) = true
  ·rw [if_pos c4] at H
   have c4b0 : (t285 == 5 && (t286 == 6)) = true := c4
   (try (have c4b1 : decide (t285 = 5 && (t286 == 6)) = true := by simpa using c4))
   (try (have c4b2 : (t285 == 5 && (t286 == 6)) = true := by simpa using c4))
   clear c4
   by_cases c5 : t291 = 0
   ·rw [if_pos c5] at H
    have c5b0 : (t291 == 0) = true := beq_iff_eq.mpr c5
    have c5b1 : (t291 != 0) = false := bne_eq_false_iff_eq.mpr c5
    clear c5
    obtain rfl := Option.some.inj H
    go_enter Try.func12, Try.ntmps12
    go_wp2_with (first | ((with_reducible refine gate_callee (f := 14) rfl ?_); refine goesL_ (some 8) rfl rfl Try.func14 (by kernel_rfl) rfl #[.agg #[.int .i64 1, .int .i64 2], .agg #[.int .i64 1, .int .i64 3]] rfl argN ?_; (with_reducible refine (rat_Add.calls k 1 2 1 3 t285 t286 t287 _ A1.out).mono ?_); rintro e w6 ⟨rfl, hb⟩; refine ⟨_, rfl, ?_⟩; have n0_ := Aside0.mk (below_step (belN HB.out) hb); clear HB; have HB := n0_; clear n0_; (try clear hb)) | ((with_reducible refine gate_dst (N := 1) rfl ?_); refine box_event ?hg (N := 1) ?hd (cs := #[.int .i64 0, .int .i64 0]) (t := 23) ?hr ?_; (case hd => rfl); (case hg => rfl); (case hr => first | (go_simp; done) | (go_simp; rfl)); intro gb288 hg w7 hbox hb; have n0_ := Aside0.mk (below_step (belN HB.out) hb); have n1_ := Aside0.mk (hbox); have n2_ := Aside0.mk (szB hg HB.out); have n3_ := Aside0.mk (szB hg HB.out); clear HB; have HB := n0_; have BK288 := n1_; have GW288 := n2_; have GE288 := n3_; clear n0_ n1_ n2_ n3_; clear hb hbox hg; have hcz8_0 : w7.cell? ⟨gb288, 0, none⟩ = some (.int .i64 0) := (blk_cell BK288.out 0).trans rfl; have hcz8_1 : w7.cell? ⟨gb288, 1, none⟩ = some (.int .i64 0) := (blk_cell BK288.out 1).trans rfl; have hfz8_0 := blk_frozen BK288.out 0; have hfz8_1 := blk_frozen BK288.out 1) | ((with_reducible refine gate_callee (f := 24) rfl ?_); refine goesL_ (some 12) rfl rfl Try.func24 (by kernel_rfl) rfl #[.int .i64 4, .int .i64 (-6)] rfl argN ?_; (with_reducible refine (rat_New.calls k 4 (-6) t289 t290 t291 _ A2.out).mono ?_); rintro e w9 ⟨rfl, hb⟩; refine ⟨_, rfl, ?_⟩; have n0_ := Aside0.mk (blk_below (g := gb288) (o := .cells #[.int .i64 t285, .int .i64 t286] 23 (0, 0)) (by (with_reducible repeat (first | refine blk_drewN ?_ _ | refine blk_drew ?_ | refine blk_alloc ?_ _)); refine blk_put (cs := #[.int .i64 t285, .int .i64 0]) ?_ 1 _ rfl; (with_reducible repeat (first | refine blk_drewN ?_ _ | refine blk_drew ?_ | refine blk_alloc ?_ _)); refine blk_put (cs := #[.int .i64 0, .int .i64 0]) ?_ 0 _ rfl; (with_reducible repeat (first | refine blk_drewN ?_ _ | refine blk_drew ?_ | refine blk_alloc ?_ _)); exact BK288.out) hb); have n1_ := Aside0.mk (below_step (belS HB.out) hb); clear BK288; clear HB; have BK288 := n0_; have HB := n1_; clear n0_ n1_; (try clear hb)) | ((with_reducible refine gate_dst (N := 3) rfl ?_); refine box_event ?hg (N := 3) ?hd (cs := #[.int .i64 0, .int .i64 0]) (t := 23) ?hr ?_; (case hd => rfl); (case hg => rfl); (case hr => first | (go_simp; done) | (go_simp; rfl)); intro gb292 hg w10 hbox hb; have n0_ := Aside0.mk (bkB BK288.out hb); have n1_ := Aside0.mk (below_step (belS HB.out) hb); have n2_ := Aside0.mk (hbox); have n3_ := Aside0.mk (szB hg HB.out); have n4_ := Aside0.mk (szB hg HB.out); have n5_ := Aside0.mk ((bk1 hg BK288.out)); have n6_ := Aside0.mk ((bk2 hg BK288.out)); clear BK288; clear HB; have BK288 := n0_; have HB := n1_; have BK292 := n2_; have GW292 := n3_; have GE292 := n4_; have NB288_292 := n5_; have NB292_288 := n6_; clear n0_ n1_ n2_ n3_ n4_ n5_ n6_; clear hb hbox hg; have hnb11 := NB292_288.out; have hnc11 := NB288_292.out; have hcz12_0 : w10.cell? ⟨gb292, 0, none⟩ = some (.int .i64 0) := (blk_cell BK292.out 0).trans rfl; have hcz12_1 : w10.cell? ⟨gb292, 1, none⟩ = some (.int .i64 0) := (blk_cell BK292.out 1).trans rfl; have hfz12_0 := blk_frozen BK292.out 0; have hfz12_1 := blk_frozen BK292.out 1; have hcz13_0 : w10.cell? ⟨gb288, 0, none⟩ = some (.int .i64 t285) := (blk_cell BK288.out 0).trans rfl; have hcz13_1 : w10.cell? ⟨gb288, 1, none⟩ = some (.int .i64 t286) := (blk_cell BK288.out 1).trans rfl; have hfz13_0 := blk_frozen BK288.out 0; have hfz13_1 := blk_frozen BK288.out 1))
    go_ret
    exact ⟨by first | rfl | (simp [errW_none, errW_some] <;> rfl) | (simp [*, errW_none, errW_some] <;> rfl), (belS HB.out)⟩
   ·rw [if_neg c5] at H
    have c5b0 : (t291 == 0) = false := beq_eq_false_iff_ne.mpr c5
    have c5b1 : (t291 != 0) = true := bne_iff_ne.mpr c5
    obtain rfl := Option.some.inj H
    go_enter Try.func12, Try.ntmps12
    go_wp2_with (first | ((with_reducible refine gate_callee (f := 14) rfl ?_); refine goesL_ (some 8) rfl rfl Try.func14 (by kernel_rfl) rfl #[.agg #[.int .i64 1, .int .i64 2], .agg #[.int .i64 1, .int .i64 3]] rfl argN ?_; (with_reducible refine (rat_Add.calls k 1 2 1 3 t285 t286 t287 _ A1.out).mono ?_); rintro e w14 ⟨rfl, hb⟩; refine ⟨_, rfl, ?_⟩; have n0_ := Aside0.mk (below_step (belN HB.out) hb); clear HB; have HB := n0_; clear n0_; (try clear hb)) | ((with_reducible refine gate_dst (N := 1) rfl ?_); refine box_event ?hg (N := 1) ?hd (cs := #[.int .i64 0, .int .i64 0]) (t := 23) ?hr ?_; (case hd => rfl); (case hg => rfl); (case hr => first | (go_simp; done) | (go_simp; rfl)); intro gb288 hg w15 hbox hb; have n0_ := Aside0.mk (below_step (belN HB.out) hb); have n1_ := Aside0.mk (hbox); have n2_ := Aside0.mk (szB hg HB.out); have n3_ := Aside0.mk (szB hg HB.out); clear HB; have HB := n0_; have BK288 := n1_; have GW288 := n2_; have GE288 := n3_; clear n0_ n1_ n2_ n3_; clear hb hbox hg; have hcz16_0 : w15.cell? ⟨gb288, 0, none⟩ = some (.int .i64 0) := (blk_cell BK288.out 0).trans rfl; have hcz16_1 : w15.cell? ⟨gb288, 1, none⟩ = some (.int .i64 0) := (blk_cell BK288.out 1).trans rfl; have hfz16_0 := blk_frozen BK288.out 0; have hfz16_1 := blk_frozen BK288.out 1) | ((with_reducible refine gate_callee (f := 24) rfl ?_); refine goesL_ (some 12) rfl rfl Try.func24 (by kernel_rfl) rfl #[.int .i64 4, .int .i64 (-6)] rfl argN ?_; (with_reducible refine (rat_New.calls k 4 (-6) t289 t290 t291 _ A2.out).mono ?_); rintro e w17 ⟨rfl, hb⟩; refine ⟨_, rfl, ?_⟩; have n0_ := Aside0.mk (blk_below (g := gb288) (o := .cells #[.int .i64 t285, .int .i64 t286] 23 (0, 0)) (by (with_reducible repeat (first | refine blk_drewN ?_ _ | refine blk_drew ?_ | refine blk_alloc ?_ _)); refine blk_put (cs := #[.int .i64 t285, .int .i64 0]) ?_ 1 _ rfl; (with_reducible repeat (first | refine blk_drewN ?_ _ | refine blk_drew ?_ | refine blk_alloc ?_ _)); refine blk_put (cs := #[.int .i64 0, .int .i64 0]) ?_ 0 _ rfl; (with_reducible repeat (first | refine blk_drewN ?_ _ | refine blk_drew ?_ | refine blk_alloc ?_ _)); exact BK288.out) hb); have n1_ := Aside0.mk (below_step (belS HB.out) hb); clear BK288; clear HB; have BK288 := n0_; have HB := n1_; clear n0_ n1_; (try clear hb)) | ((with_reducible refine gate_dst (N := 3) rfl ?_); refine box_event ?hg (N := 3) ?hd (cs := #[.int .i64 0, .int .i64 0]) (t := 23) ?hr ?_; (case hd => rfl); (case hg => rfl); (case hr => first | (go_simp; done) | (go_simp; rfl)); intro gb292 hg w18 hbox hb; have n0_ := Aside0.mk (bkB BK288.out hb); have n1_ := Aside0.mk (below_step (belS HB.out) hb); have n2_ := Aside0.mk (hbox); have n3_ := Aside0.mk (szB hg HB.out); have n4_ := Aside0.mk (szB hg HB.out); have n5_ := Aside0.mk ((bk1 hg BK288.out)); have n6_ := Aside0.mk ((bk2 hg BK288.out)); clear BK288; clear HB; have BK288 := n0_; have HB := n1_; have BK292 := n2_; have GW292 := n3_; have GE292 := n4_; have NB288_292 := n5_; have NB292_288 := n6_; clear n0_ n1_ n2_ n3_ n4_ n5_ n6_; clear hb hbox hg; have hnb19 := NB292_288.out; have hnc19 := NB288_292.out; have hcz20_0 : w18.cell? ⟨gb292, 0, none⟩ = some (.int .i64 0) := (blk_cell BK292.out 0).trans rfl; have hcz20_1 : w18.cell? ⟨gb292, 1, none⟩ = some (.int .i64 0) := (blk_cell BK292.out 1).trans rfl; have hfz20_0 := blk_frozen BK292.out 0; have hfz20_1 := blk_frozen BK292.out 1; have hcz21_0 : w18.cell? ⟨gb288, 0, none⟩ = some (.int .i64 t285) := (blk_cell BK288.out 0).trans rfl; have hcz21_1 : w18.cell? ⟨gb288, 1, none⟩ = some (.int .i64 t286) := (blk_cell BK288.out 1).trans rfl; have hfz21_0 := blk_frozen BK288.out 0; have hfz21_1 := blk_frozen BK288.out 1))
    go_ret
    exact ⟨by first | rfl | (simp [errW_none, errW_some] <;> rfl) | (simp [*, errW_none, errW_some] <;> rfl), (belS HB.out)⟩
  ·rw [if_neg c4] at H
   have c4b0 : (t285 == 5 && (t286 == 6)) = false := by simpa using c4
   (try (have c4b1 : decide (t285 = 5 && (t286 == 6)) = false := by simpa using c4))
   (try (have c4b2 : (t285 == 5 && (t286 == 6)) = false := by simpa using c4))
   (try (have c4b3 : ¬ (t285 = 5 && (t286 == 6)) := by simpa using c4))
   clear c4
   obtain rfl := Option.some.inj H
   go_enter Try.func12, Try.ntmps12
   go_wp2_with (first | ((with_reducible refine gate_callee (f := 14) rfl ?_); refine goesL_ (some 8) rfl rfl Try.func14 (by kernel_rfl) rfl #[.agg #[.int .i64 1, .int .i64 2], .agg #[.int .i64 1, .int .i64 3]] rfl argN ?_; (with_reducible refine (rat_Add.calls k 1 2 1 3 t285 t286 t287 _ A1.out).mono ?_); rintro e w22 ⟨rfl, hb⟩; refine ⟨_, rfl, ?_⟩; have n0_ := Aside0.mk (below_step (belN HB.out) hb); clear HB; have HB := n0_; clear n0_; (try clear hb)) | ((with_reducible refine gate_dst (N := 1) rfl ?_); refine box_event ?hg (N := 1) ?hd (cs := #[.int .i64 0, .int .i64 0]) (t := 23) ?hr ?_; (case hd => rfl); (case hg => rfl); (case hr => first | (go_simp; done) | (go_simp; rfl)); intro gb288 hg w23 hbox hb; have n0_ := Aside0.mk (below_step (belN HB.out) hb); have n1_ := Aside0.mk (hbox); have n2_ := Aside0.mk (szB hg HB.out); have n3_ := Aside0.mk (szB hg HB.out); clear HB; have HB := n0_; have BK288 := n1_; have GW288 := n2_; have GE288 := n3_; clear n0_ n1_ n2_ n3_; clear hb hbox hg; have hcz24_0 : w23.cell? ⟨gb288, 0, none⟩ = some (.int .i64 0) := (blk_cell BK288.out 0).trans rfl; have hcz24_1 : w23.cell? ⟨gb288, 1, none⟩ = some (.int .i64 0) := (blk_cell BK288.out 1).trans rfl; have hfz24_0 := blk_frozen BK288.out 0; have hfz24_1 := blk_frozen BK288.out 1) | ((with_reducible refine gate_callee (f := 24) rfl ?_); refine goesL_ (some 12) rfl rfl Try.func24 (by kernel_rfl) rfl #[.int .i64 4, .int .i64 (-6)] rfl argN ?_; (with_reducible refine (rat_New.calls k 4 (-6) t289 t290 t291 _ A2.out).mono ?_); rintro e w25 ⟨rfl, hb⟩; refine ⟨_, rfl, ?_⟩; have n0_ := Aside0.mk (blk_below (g := gb288) (o := .cells #[.int .i64 t285, .int .i64 t286] 23 (0, 0)) (by (with_reducible repeat (first | refine blk_drewN ?_ _ | refine blk_drew ?_ | refine blk_alloc ?_ _)); refine blk_put (cs := #[.int .i64 t285, .int .i64 0]) ?_ 1 _ rfl; (with_reducible repeat (first | refine blk_drewN ?_ _ | refine blk_drew ?_ | refine blk_alloc ?_ _)); refine blk_put (cs := #[.int .i64 0, .int .i64 0]) ?_ 0 _ rfl; (with_reducible repeat (first | refine blk_drewN ?_ _ | refine blk_drew ?_ | refine blk_alloc ?_ _)); exact BK288.out) hb); have n1_ := Aside0.mk (below_step (belS HB.out) hb); clear BK288; clear HB; have BK288 := n0_; have HB := n1_; clear n0_ n1_; (try clear hb)) | ((with_reducible refine gate_dst (N := 3) rfl ?_); refine box_event ?hg (N := 3) ?hd (cs := #[.int .i64 0, .int .i64 0]) (t := 23) ?hr ?_; (case hd => rfl); (case hg => rfl); (case hr => first | (go_simp; done) | (go_simp; rfl)); intro gb292 hg w26 hbox hb; have n0_ := Aside0.mk (bkB BK288.out hb); have n1_ := Aside0.mk (below_step (belS HB.out) hb); have n2_ := Aside0.mk (hbox); have n3_ := Aside0.mk (szB hg HB.out); have n4_ := Aside0.mk (szB hg HB.out); have n5_ := Aside0.mk ((bk1 hg BK288.out)); have n6_ := Aside0.mk ((bk2 hg BK288.out)); clear BK288; clear HB; have BK288 := n0_; have HB := n1_; have BK292 := n2_; have GW292 := n3_; have GE292 := n4_; have NB288_292 := n5_; have NB292_288 := n6_; clear n0_ n1_ n2_ n3_ n4_ n5_ n6_; clear hb hbox hg; have hnb27 := NB292_288.out; have hnc27 := NB288_292.out; have hcz28_0 : w26.cell? ⟨gb292, 0, none⟩ = some (.int .i64 0) := (blk_cell BK292.out 0).trans rfl; have hcz28_1 : w26.cell? ⟨gb292, 1, none⟩ = some (.int .i64 0) := (blk_cell BK292.out 1).trans rfl; have hfz28_0 := blk_frozen BK292.out 0; have hfz28_1 := blk_frozen BK292.out 1; have hcz29_0 : w26.cell? ⟨gb288, 0, none⟩ = some (.int .i64 t285) := (blk_cell BK288.out 0).trans rfl; have hcz29_1 : w26.cell? ⟨gb288, 1, none⟩ = some (.int .i64 t286) := (blk_cell BK288.out 1).trans rfl; have hfz29_0 := blk_frozen BK288.out 0; have hfz29_1 := blk_frozen BK288.out 1))
   go_ret
   exact ⟨by first | rfl | (simp [errW_none, errW_some] <;> rfl) | (simp [*, errW_none, errW_some] <;> rfl), (belS HB.out)⟩
 ·rw [if_neg c3] at H
  have c3b0 : (t287 == 0) = false := beq_eq_false_iff_ne.mpr c3
  have c3b1 : (t287 != 0) = true := bne_iff_ne.mpr c3
  obtain rfl := Option.some.inj H
  go_enter Try.func12, Try.ntmps12
  go_wp2_with (first | ((with_reducible refine gate_callee (f := 14) rfl ?_); refine goesL_ (some 8) rfl rfl Try.func14 (by kernel_rfl) rfl #[.agg #[.int .i64 1, .int .i64 2], .agg #[.int .i64 1, .int .i64 3]] rfl argN ?_; (with_reducible refine (rat_Add.calls k 1 2 1 3 t285 t286 t287 _ A1.out).mono ?_); rintro e w30 ⟨rfl, hb⟩; refine ⟨_, rfl, ?_⟩; have n0_ := Aside0.mk (below_step (belN HB.out) hb); clear HB; have HB := n0_; clear n0_; (try clear hb)) | ((with_reducible refine gate_dst (N := 1) rfl ?_); refine box_event ?hg (N := 1) ?hd (cs := #[.int .i64 0, .int .i64 0]) (t := 23) ?hr ?_; (case hd => rfl); (case hg => rfl); (case hr => first | (go_simp; done) | (go_simp; rfl)); intro gb288 hg w31 hbox hb; have n0_ := Aside0.mk (below_step (belN HB.out) hb); have n1_ := Aside0.mk (hbox); have n2_ := Aside0.mk (szB hg HB.out); have n3_ := Aside0.mk (szB hg HB.out); clear HB; have HB := n0_; have BK288 := n1_; have GW288 := n2_; have GE288 := n3_; clear n0_ n1_ n2_ n3_; clear hb hbox hg; have hcz32_0 : w31.cell? ⟨gb288, 0, none⟩ = some (.int .i64 0) := (blk_cell BK288.out 0).trans rfl; have hcz32_1 : w31.cell? ⟨gb288, 1, none⟩ = some (.int .i64 0) := (blk_cell BK288.out 1).trans rfl; have hfz32_0 := blk_frozen BK288.out 0; have hfz32_1 := blk_frozen BK288.out 1) | ((with_reducible refine gate_callee (f := 24) rfl ?_); refine goesL_ (some 12) rfl rfl Try.func24 (by kernel_rfl) rfl #[.int .i64 4, .int .i64 (-6)] rfl argN ?_; (with_reducible refine (rat_New.calls k 4 (-6) t289 t290 t291 _ A2.out).mono ?_); rintro e w33 ⟨rfl, hb⟩; refine ⟨_, rfl, ?_⟩; have n0_ := Aside0.mk (blk_below (g := gb288) (o := .cells #[.int .i64 t285, .int .i64 t286] 23 (0, 0)) (by (with_reducible repeat (first | refine blk_drewN ?_ _ | refine blk_drew ?_ | refine blk_alloc ?_ _)); refine blk_put (cs := #[.int .i64 t285, .int .i64 0]) ?_ 1 _ rfl; (with_reducible repeat (first | refine blk_drewN ?_ _ | refine blk_drew ?_ | refine blk_alloc ?_ _)); refine blk_put (cs := #[.int .i64 0, .int .i64 0]) ?_ 0 _ rfl; (with_reducible repeat (first | refine blk_drewN ?_ _ | refine blk_drew ?_ | refine blk_alloc ?_ _)); exact BK288.out) hb); have n1_ := Aside0.mk (below_step (belS HB.out) hb); clear BK288; clear HB; have BK288 := n0_; have HB := n1_; clear n0_ n1_; (try clear hb)) | ((with_reducible refine gate_dst (N := 3) rfl ?_); refine box_event ?hg (N := 3) ?hd (cs := #[.int .i64 0, .int .i64 0]) (t := 23) ?hr ?_; (case hd => rfl); (case hg => rfl); (case hr => first | (go_simp; done) | (go_simp; rfl)); intro gb292 hg w34 hbox hb; have n0_ := Aside0.mk (bkB BK288.out hb); have n1_ := Aside0.mk (below_step (belS HB.out) hb); have n2_ := Aside0.mk (hbox); have n3_ := Aside0.mk (szB hg HB.out); have n4_ := Aside0.mk (szB hg HB.out); have n5_ := Aside0.mk ((bk1 hg BK288.out)); have n6_ := Aside0.mk ((bk2 hg BK288.out)); clear BK288; clear HB; have BK288 := n0_; have HB := n1_; have BK292 := n2_; have GW292 := n3_; have GE292 := n4_; have NB288_292 := n5_; have NB292_288 := n6_; clear n0_ n1_ n2_ n3_ n4_ n5_ n6_; clear hb hbox hg; have hnb35 := NB292_288.out; have hnc35 := NB288_292.out; have hcz36_0 : w34.cell? ⟨gb292, 0, none⟩ = some (.int .i64 0) := (blk_cell BK292.out 0).trans rfl; have hcz36_1 : w34.cell? ⟨gb292, 1, none⟩ = some (.int .i64 0) := (blk_cell BK292.out 1).trans rfl; have hfz36_0 := blk_frozen BK292.out 0; have hfz36_1 := blk_frozen BK292.out 1))
  go_ret
  exact ⟨by first | rfl | (simp [errW_none, errW_some] <;> rfl) | (simp [*, errW_none, errW_some] <;> rfl), (belS HB.out)⟩

-- NOT PRINTED: function 30 (marigraphlaw1_must_1)

-- NOT PRINTED: function 31 (rat_Must)

/-! ### marigraphlaw1_must: function 13 -/
set_option maxHeartbeats 8000000
set_option maxRecDepth 100000
/-- rat.Must tells what it is given, where nothing was refused. -/
theorem Must_ok (x y : Int) (w : World) : Calls Try.prog 31 #[.agg #[.int .i64 x, .int .i64 y], .int .i64 0] w fun e w' => e = .returned (.agg #[.int .i64 x, .int .i64 y]) ∧ Below w.heap.size w w' := by
  have HB := Below.refl w.heap.size w
  go_enter Try.func31, Try.ntmps31
  go_wp2
  simp [bodyPost, results, Try.results31, go_sem]
  exact below_alloc (below_alloc HB _) _
/-- It panics with a refusal. -/
def refusal (e : Int) : List PanicEntry := [{ v := .iface 37 (.int .i64 e), recovered := false }]
theorem Must_panics (x y e : Int) (w : World) (he : ¬ e = 0) : Calls Try.prog 31 #[.agg #[.int .i64 x, .int .i64 y], .int .i64 e] w fun o w' => o = .panicked (refusal e) ∧ Below w.heap.size w w' := by
  have HB := Below.refl w.heap.size w
  have hpan : ∀ (w : World), (Instr.panic (.iface 37 (.int .i64 e))).run Try.prog w = .halt (.panic (.iface 37 (.int .i64 e))) w := fun _ => rfl
  go_enter Try.func31, Try.ntmps31
  have hb1 : (e != 0) = true := by simp [he]
  go_wp2
  exact ⟨rfl, rfl, below_alloc (below_alloc HB _) _⟩
theorem must_idle (w : World) : CallsD Try.prog 30 #[] .returning w fun e u' w' => e = .returned (.tuple #[]) ∧ u' = .returning ∧ w' = w := by
  refine callsD_of_wpS Try.func30 rfl fun c₀ cs hu => ?_
  apply wpS_region
  simp [wpOpsS, go_sem, recoverD, hu, Try.ntmps30, bodyPostS, results, Try.results30]
  cases c₀
  simp_all
theorem must_panics (u : TypeId) (pv : Value) (older : List PanicEntry) (w : World) : CallsD Try.prog 30 #[] (.panicking ({ v := .iface u pv, recovered := false } :: older)) w fun e u' w' =>
      e = .returned (.tuple #[]) ∧ u' = .panicking ({ v := .iface u pv, recovered := true } :: older) ∧ w' = w := by
  refine callsD_of_wpS Try.func30 rfl fun c₀ cs hu => ?_
  apply wpS_region
  simp [wpOpsS, go_sem, recoverD, hu, Try.ntmps30, bodyPostS, results, Try.results30]
def marigraphlaw1_must.f (a0_0 : Int) (a0_1 : Int) (a1 : Int) : Option (Int × Int × Bool) := if a1 = 0 then some (a0_0, a0_1, true) else some (0, 0, false)
theorem marigraphlaw1_must.calls (a0_0 : Int) (a0_1 : Int) (a1 : Int) (r1 : Int) (r2 : Int) (r3 : Bool) (w : World) (h : marigraphlaw1_must.f a0_0 a0_1 a1 = some (r1, r2, r3)) :
    Calls Try.prog 13 #[.agg #[.int .i64 a0_0, .int .i64 a0_1], .int .i64 a1] w fun e w' => e = .returned (.tuple #[.agg #[.int .i64 r1, .int .i64 r2], .bool r3]) ∧ Below w.heap.size w w' := by
  have hmf : ∀ (fn : Fn) (first cap : Array Value) (w : World), (Instr.makeFunc fn first cap).run Try.prog w = .ok (.func fn first cap) w := fun _ _ _ _ => rfl
  have hu23 := Try.underlying23
  unfold marigraphlaw1_must.f at h
  have HB : Below w.heap.size w ((w.alloc (Obj.cells #[Value.int IntKind.i64 a0_0, Value.int IntKind.i64 a0_1] 23)).alloc (Obj.cells #[Value.int IntKind.i64 0, Value.int IntKind.i64 0] 23)) := below_alloc (below_alloc (Below.refl _ _) _) _
  have z1 : (w.alloc (Obj.cells #[Value.int IntKind.i64 a0_0, Value.int IntKind.i64 a0_1] 23)).heap.size = w.heap.size + 1 := Array.size_push _
  have b0 := blk_new (w.alloc (Obj.cells #[Value.int IntKind.i64 a0_0, Value.int IntKind.i64 a0_1] 23)) (Obj.cells #[Value.int IntKind.i64 0, Value.int IntKind.i64 0] 23)
  rw [z1] at b0
  by_cases c : a1 = 0
  · rw [if_pos c] at h
    subst c
    cases h
    go_enter_defers Try.func13, Try.ntmps13
    go_wp2_with (go_at_call 31; refine (Must_ok a0_0 a0_1 _).mono ?_; rintro e w1 ⟨rfl, hb⟩; have b1 := blk_below b0 hb; have c0_ := (blk_cell b1 0).trans rfl; have c1_ := (blk_cell b1 1).trans rfl; have f0_ := blk_frozen b1 0; have f1_ := blk_frozen b1 1; have HB1 := below_step HB hb)
    have b2 := blk_put (blk_put (blk_put (blk_put b1 0 (.int .i64 a0_0) rfl) 1 (.int .i64 a0_1) rfl) 0 (.int .i64 a0_0) rfl) 1 (.int .i64 a0_1) rfl
    have HB2 := below_set (j := 1) (v := .int .i64 a0_1) (below_set (j := 0) (v := .int .i64 a0_0) (below_set (j := 1) (v := .int .i64 a0_1) (below_set (j := 0) (v := .int .i64 a0_0) HB1 (Nat.le_succ w.heap.size)) (Nat.le_succ w.heap.size)) (Nat.le_succ w.heap.size)) (Nat.le_succ w.heap.size)
    have d0 := (blk_cell b2 0).trans rfl
    have d1 := (blk_cell b2 1).trans rfl
    refine leaves_cons (f := 30) (args := #[]) (by simp) (by simp [go_sem]) ?_
    refine (must_idle _).mono ?_
    rintro e u' w'' ⟨rfl, rfl, rfl⟩
    simp [Leaves, settle, results, Try.results13, go_sem, d0, d1]
    exact HB2
  · rw [if_neg c] at h
    cases h
    go_enter_defers Try.func13, Try.ntmps13
    go_wp2_with (go_at_call 31; refine (Must_panics a0_0 a0_1 a1 _ c).mono ?_; rintro e w1 ⟨rfl, hb⟩; have b1 := blk_below b0 hb; have c0_ := (blk_cell b1 0).trans rfl; have c1_ := (blk_cell b1 1).trans rfl; have f0_ := blk_frozen b1 0; have f1_ := blk_frozen b1 1; have HB1 := below_step HB hb)
    have d0 := (blk_cell b1 0).trans rfl
    have d1 := (blk_cell b1 1).trans rfl
    refine leaves_cons (f := 30) (args := #[]) (by simp) (by simp [go_sem]) ?_
    refine (must_panics 37 _ [] _).mono ?_
    rintro e u' w'' ⟨rfl, rfl, rfl⟩
    simp [Leaves, settle, results, Try.results13, go_sem, d0, d1]
    exact HB1

end Go.Proofs.Ytbkldplhaeaphaa.PRatNumbers

/- The walk of the Go functions that a law reaches, told as plain functions; a program of this session has written it. No condition beyond the statement's own. -/
import Derived.Test.YtbkldplhaeaphaaPRatNumbersx0
import Derived.Test.YtbkldplhaeaphaaPRatNumbersx2
import Derived.Test.YtbkldplhaeaphaaPRatNumbersx3
import Derived.Test.YtbkldplhaeaphaaPRatNumbersx6
import Derived.Test.YtbkldplhaeaphaaPRatNumbersx7
namespace Go.Proofs.Ytbkldplhaeaphaa.PRatNumbers
open Go.RowKit Go.Proofs.YtbkldplhaeaphaaW.PrintWords Go.Proofs.YtbkldplhaeaphaaW.PrintLast Go.Proofs.YtbkldplhaeaphaaW.PrintMore
attribute [local go_sem] max2_int min2_int max_two min_two max_three min_three max_four min_four   -- for this text's walks alone
set_option linter.unusedVariables false
set_option linter.unusedSimpArgs false

/-! ### rat_Parse: function 27 -/
mutual
def rat_Parse.j0 : Nat → ByteArray → ByteArray → Bool → Option (Int × Int × Int)
 | 0, _, _, _ => none
 | k + 1, x0, x4, x5 => if x5 = true then (if 1 ≤ (x0.size : Int) then (rat_Parse.j1 k x0 (x0.extract 1 x0.size) x5) else (none)) else (rat_Parse.j1 k x0 x4 x5)
def rat_Parse.j1 : Nat → ByteArray → ByteArray → Bool → Option (Int × Int × Int)
 | 0, _, _, _ => none
 | k + 1, x0, x4, x5 => (rat_number.f k x4).bind fun bt261 => (if x5 = true then (rat_Parse.j2 k x0 bt261.2 (wrap64 (-bt261.1)) 1) else (rat_Parse.j2 k x0 bt261.2 bt261.1 1))
def rat_Parse.j2 : Nat → ByteArray → ByteArray → Int → Int → Option (Int × Int × Int)
 | 0, _, _, _, _ => none
 | k + 1, x0, x4, x261000, x261001 => if x4.toList = ([] : List UInt8) then (rat_Parse.j3 k x0 x261000 x261001) else (if 1 ≤ (x4.size : Int) then ((rat_number.f k (x4.extract 1 x4.size)).bind fun bt263 => (rat_Parse.j3 k x0 x261000 bt263.1)) else (none))
def rat_Parse.j3 : Nat → ByteArray → Int → Int → Option (Int × Int × Int)
 | 0, _, _, _ => none
 | k + 1, x0, x261000, x261001 => (rat_Right.f k x261000 x261001).bind fun t265 => (if t265 = true then ((rat_Text.f k x261000 x261001).bind fun t266 => (if t266.toList = x0.toList then (some (x261000, x261001, 0)) else (some (0, 0, 12)))) else (some (0, 0, 12)))
end
def rat_Parse.f (k : Nat) (a0 : ByteArray) : Option (Int × Int × Int) := if a0.toList = ([] : List UInt8) then (rat_Parse.j0 k a0 a0 false) else (if 0 < (a0.size : Int) then (rat_Parse.j0 k a0 a0 ((bt a0 0) == 45)) else (none))
theorem rat_Parse.mono_l : ∀ k, (∀ y0 y1 y2, LeO (rat_Parse.j0 k y0 y1 y2) (rat_Parse.j0 (k + 1) y0 y1 y2)) ∧ (∀ y0 y1 y2, LeO (rat_Parse.j1 k y0 y1 y2) (rat_Parse.j1 (k + 1) y0 y1 y2)) ∧ (∀ y0 y1 y2 y3, LeO (rat_Parse.j2 k y0 y1 y2 y3) (rat_Parse.j2 (k + 1) y0 y1 y2 y3)) ∧ (∀ y0 y1 y2, LeO (rat_Parse.j3 k y0 y1 y2) (rat_Parse.j3 (k + 1) y0 y1 y2))
 | 0 => ⟨fun _ _ _ r h => by simp [rat_Parse.j0] at h, fun _ _ _ r h => by simp [rat_Parse.j1] at h, fun _ _ _ _ r h => by simp [rat_Parse.j2] at h, fun _ _ _ r h => by simp [rat_Parse.j3] at h⟩
 | k + 1 => by
  obtain ⟨ih0, ih1, ih2, ih3⟩ := rat_Parse.mono_l k
  refine ⟨?_, ?_, ?_, ?_⟩
  ·intro y0 y1 y2
   unfold rat_Parse.j0
   repeat' first
   | (with_reducible exact ih0 _ _ _)
   | (with_reducible exact ih1 _ _ _)
   | (with_reducible exact ih2 _ _ _ _)
   | (with_reducible exact ih3 _ _ _)
   | (with_reducible exact rat_Right.mono _ _ _)
   | (with_reducible exact rat_Text.mono _ _ _)
   | (with_reducible exact rat_number.mono _ _)
   | (with_reducible exact LeO.refl _)
   | (with_reducible exact LeO.none _)
   | (with_reducible refine LeO.ite ?_ ?_)
   | (with_reducible refine LeO.bind ?_ (fun _ => ?_))
   | exact ih0 _ _ _
   | exact ih1 _ _ _
   | exact ih2 _ _ _ _
   | exact ih3 _ _ _
   | exact rat_Right.mono _ _ _
   | exact rat_Text.mono _ _ _
   | exact rat_number.mono _ _
   | exact LeO.none _
   | refine LeO.ite ?_ ?_
   | refine LeO.bind ?_ (fun _ => ?_)
  ·intro y0 y1 y2
   unfold rat_Parse.j1
   repeat' first
   | (with_reducible exact ih0 _ _ _)
   | (with_reducible exact ih1 _ _ _)
   | (with_reducible exact ih2 _ _ _ _)
   | (with_reducible exact ih3 _ _ _)
   | (with_reducible exact rat_Right.mono _ _ _)
   | (with_reducible exact rat_Text.mono _ _ _)
   | (with_reducible exact rat_number.mono _ _)
   | (with_reducible exact LeO.refl _)
   | (with_reducible exact LeO.none _)
   | (with_reducible refine LeO.ite ?_ ?_)
   | (with_reducible refine LeO.bind ?_ (fun _ => ?_))
   | exact ih0 _ _ _
   | exact ih1 _ _ _
   | exact ih2 _ _ _ _
   | exact ih3 _ _ _
   | exact rat_Right.mono _ _ _
   | exact rat_Text.mono _ _ _
   | exact rat_number.mono _ _
   | exact LeO.none _
   | refine LeO.ite ?_ ?_
   | refine LeO.bind ?_ (fun _ => ?_)
  ·intro y0 y1 y2 y3
   unfold rat_Parse.j2
   repeat' first
   | (with_reducible exact ih0 _ _ _)
   | (with_reducible exact ih1 _ _ _)
   | (with_reducible exact ih2 _ _ _ _)
   | (with_reducible exact ih3 _ _ _)
   | (with_reducible exact rat_Right.mono _ _ _)
   | (with_reducible exact rat_Text.mono _ _ _)
   | (with_reducible exact rat_number.mono _ _)
   | (with_reducible exact LeO.refl _)
   | (with_reducible exact LeO.none _)
   | (with_reducible refine LeO.ite ?_ ?_)
   | (with_reducible refine LeO.bind ?_ (fun _ => ?_))
   | exact ih0 _ _ _
   | exact ih1 _ _ _
   | exact ih2 _ _ _ _
   | exact ih3 _ _ _
   | exact rat_Right.mono _ _ _
   | exact rat_Text.mono _ _ _
   | exact rat_number.mono _ _
   | exact LeO.none _
   | refine LeO.ite ?_ ?_
   | refine LeO.bind ?_ (fun _ => ?_)
  ·intro y0 y1 y2
   unfold rat_Parse.j3
   repeat' first
   | (with_reducible exact ih0 _ _ _)
   | (with_reducible exact ih1 _ _ _)
   | (with_reducible exact ih2 _ _ _ _)
   | (with_reducible exact ih3 _ _ _)
   | (with_reducible exact rat_Right.mono _ _ _)
   | (with_reducible exact rat_Text.mono _ _ _)
   | (with_reducible exact rat_number.mono _ _)
   | (with_reducible exact LeO.refl _)
   | (with_reducible exact LeO.none _)
   | (with_reducible refine LeO.ite ?_ ?_)
   | (with_reducible refine LeO.bind ?_ (fun _ => ?_))
   | exact ih0 _ _ _
   | exact ih1 _ _ _
   | exact ih2 _ _ _ _
   | exact ih3 _ _ _
   | exact rat_Right.mono _ _ _
   | exact rat_Text.mono _ _ _
   | exact rat_number.mono _ _
   | exact LeO.none _
   | refine LeO.ite ?_ ?_
   | refine LeO.bind ?_ (fun _ => ?_)
theorem rat_Parse.mono : ∀ a0 k, LeO (rat_Parse.f k a0) (rat_Parse.f (k + 1) a0) := by
 intro a0 k
 obtain ⟨ih0, ih1, ih2, ih3⟩ := rat_Parse.mono_l k
 unfold rat_Parse.f
 repeat' first
   | (with_reducible exact ih0 _ _ _)
   | (with_reducible exact ih1 _ _ _)
   | (with_reducible exact ih2 _ _ _ _)
   | (with_reducible exact ih3 _ _ _)
   | (with_reducible exact rat_Right.mono _ _ _)
   | (with_reducible exact rat_Text.mono _ _ _)
   | (with_reducible exact rat_number.mono _ _)
   | (with_reducible exact LeO.refl _)
   | (with_reducible exact LeO.none _)
   | (with_reducible refine LeO.ite ?_ ?_)
   | (with_reducible refine LeO.bind ?_ (fun _ => ?_))
   | exact ih0 _ _ _
   | exact ih1 _ _ _
   | exact ih2 _ _ _ _
   | exact ih3 _ _ _
   | exact rat_Right.mono _ _ _
   | exact rat_Text.mono _ _ _
   | exact rat_number.mono _ _
   | exact LeO.none _
   | refine LeO.ite ?_ ?_
   | refine LeO.bind ?_ (fun _ => ?_)
set_option maxHeartbeats 8000000 in
set_option maxRecDepth 100000 in
theorem rat_Parse.calls (k : Nat) (a0 : ByteArray) (r1 : Int) (r2 : Int) (r3 : Int) (w : World) (h : rat_Parse.f k a0 = some (r1, r2, r3)) :
  Calls Try.prog 27 #[.string a0] w fun e w' => e = .returned (.tuple #[.agg #[.int .i64 r1, .int .i64 r2], .int .i64 r3]) ∧ Below w.heap.size w w' := by
 have hu23 := Try.underlying23
 have HB := Aside0.mk (Below.refl w.heap.size w)
 have H : (if a0.toList = ([] : List UInt8) then (rat_Parse.j0 k a0 a0 false) else (if 0 < (a0.size : Int) then (rat_Parse.j0 k a0 a0 ((bt a0 0) == 45)) else (none))) = some (r1, r2, r3) := h
 clear h
 have HC2 := Aside0.mk H
 clear H
 go_enter Try.func27, Try.ntmps27
 go_upto_region 1 with (first | ((with_reducible refine gate_dst (N := 2) rfl ?_); refine box_event ?hg (N := 2) ?hd (cs := #[.int .i64 0, .int .i64 0]) (t := 23) ?hr ?_; (case hd => rfl); (case hg => rfl); (case hr => first | (go_simp; done) | (go_simp; rfl)); intro gb259 hg w3 hbox hb; have n0_ := Aside0.mk (below_step (belN HB.out) hb); have n1_ := Aside0.mk (hbox); have n2_ := Aside0.mk (szB hg HB.out); have n3_ := Aside0.mk (szB hg HB.out); clear HB; have HB := n0_; have BK259 := n1_; have GW259 := n2_; have GE259 := n3_; clear n0_ n1_ n2_ n3_; clear hb hbox hg))
 repeat (go_quiet (first | ((with_reducible refine gate_dst (N := 2) rfl ?_); refine box_event ?hg (N := 2) ?hd (cs := #[.int .i64 0, .int .i64 0]) (t := 23) ?hr ?_; (case hd => rfl); (case hg => rfl); (case hr => first | (go_simp; done) | (go_simp; rfl)); intro gb259 hg w3 hbox hb; have n0_ := Aside0.mk (below_step (belN HB.out) hb); have n1_ := Aside0.mk (hbox); have n2_ := Aside0.mk (szB hg HB.out); have n3_ := Aside0.mk (szB hg HB.out); clear HB; have HB := n0_; have BK259 := n1_; have GW259 := n2_; have GE259 := n3_; clear n0_ n1_ n2_ n3_; clear hb hbox hg)); go_upto_region 1 with (first | ((with_reducible refine gate_dst (N := 2) rfl ?_); refine box_event ?hg (N := 2) ?hd (cs := #[.int .i64 0, .int .i64 0]) (t := 23) ?hr ?_; (case hd => rfl); (case hg => rfl); (case hr => first | (go_simp; done) | (go_simp; rfl)); intro gb259 hg w3 hbox hb; have n0_ := Aside0.mk (below_step (belN HB.out) hb); have n1_ := Aside0.mk (hbox); have n2_ := Aside0.mk (szB hg HB.out); have n3_ := Aside0.mk (szB hg HB.out); clear HB; have HB := n0_; have BK259 := n1_; have GW259 := n2_; have GE259 := n3_; clear n0_ n1_ n2_ n3_; clear hb hbox hg)))
 (try simp only [Act.put, List.setIfInBounds_toArray, List.set_cons_zero, List.set_cons_succ])
 go_cut [4, 5] (fun v4 v5 wc => ∃ (kq : Nat) (x4_1 : ByteArray) (x5_1 : Bool), v4 = .string x4_1 ∧ v5 = .bool x5_1 ∧ Aside0 (rat_Parse.j0 kq a0 x4_1 x5_1 = some (r1, r2, r3)) ∧ Aside0 (kq ≤ k) ∧ Aside0 (wc.heap[gb259]? = some (.cells #[.int .i64 0, .int .i64 0] 23 (0, 0))) ∧ Aside0 (Below w.heap.size w wc))
 case first =>
  have H := HC2.out
  clear HC2
  by_cases c4 : a0.toList = ([] : List UInt8)
  ·rw [if_pos c4] at H
   have c4b0 : (a0.toList == ([] : List UInt8)) = true := beq_iff_eq.mpr c4
   have c4b1 : (a0.toList != ([] : List UInt8)) = false := bne_eq_false_iff_eq.mpr c4
   have c4b3 : a0.toList.isEmpty = true := by have h_ := c4b0; cases hl_ : a0.toList <;> simp_all
   (try rw [c4b3])
   clear c4
   (first | rw [c4b0] | rw [c4b1] | (simp only [i64_w, i32_w]; rw [c4b0]) | skip)
   have H' := Aside0.mk H
   clear H
   go_wp2
   repeat (go_quiet (fail); try go_wp2)
   go_meet
   case rel => exact ⟨_, (a0), (false), (by first | rfl | (simp; done) | (simp [*]; done)), (by first | rfl | (simp; done) | (simp [*]; done)), H', ⟨by first | omega | exact Nat.le_refl _⟩, ⟨blkN BK259.out⟩, ⟨(belS HB.out)⟩⟩
  ·rw [if_neg c4] at H
   have c4b0 : (a0.toList == ([] : List UInt8)) = false := beq_eq_false_iff_ne.mpr c4
   have c4b1 : (a0.toList != ([] : List UInt8)) = true := bne_iff_ne.mpr c4
   have c4b3 : a0.toList.isEmpty = false := by have h_ := c4b0; cases hl_ : a0.toList <;> simp_all
   (try rw [c4b3])
   (first | rw [c4b0] | rw [c4b1] | (simp only [i64_w, i32_w]; rw [c4b0]) | skip)
   by_cases c5 : 0 < (a0.size : Int)
   ·rw [if_pos c5] at H
    have c5b0 : decide (0 < (a0.size : Int)) = true := decide_eq_true c5
    have c5b1 : decide (0 < a0.size) = true := decide_eq_true (by omega)
    clear c5
    have H' := Aside0.mk H
    clear H
    have p6 : 0 ≤ (0 : Int) := (by omega)
    have q6 : 0 < a0.size := (by have : (0 : Int) < (a0.size : Int) := of_decide_eq_true (by first | (with_reducible assumption) | assumption); omega)
    have hx6 : ∀ h : 0 < a0.size, ((a0[0]'h).toNat : Int) = bt a0 0 := bt_at a0 0
    clear p6
    have qi6 : (0 < (a0.size : Int)) = True := eq_true (of_decide_eq_true (by first | (with_reducible assumption) | assumption))
    replace q6 := eq_true q6
    go_wp2
    repeat (go_quiet (fail); try go_wp2)
    go_meet
    case rel => exact ⟨_, (a0), (((bt a0 0) == 45)), (by first | rfl | (simp; done) | (simp [*]; done)), (by first | rfl | (simp; done) | (simp [*]; done)), H', ⟨by first | omega | exact Nat.le_refl _⟩, ⟨blkN BK259.out⟩, ⟨(belS HB.out)⟩⟩
   ·rw [if_neg c5] at H
    exact absurd H (by simp)
 case rest =>
  clear HC2
  try clear c2
  try clear p2
  try clear c4
  try clear c4b0
  try clear c4b1
  try clear c5
  try clear c5b0
  try clear c5b1
  try clear p6
  try clear q6
  try clear hx6
  try clear qi6
  try clear p6
  try clear q6
  obtain ⟨kq, x4_1, x5_1, rfl, rfl, HA, HJ1, BK259, HB⟩ := hcut
  cases kq with
  | zero => exact absurd HA.out (by simp [rat_Parse.j0])
  | succ kj1 =>
   have H := HA.out
   clear HA
   simp only [rat_Parse.j0] at H
   have HC7 := Aside0.mk H
   clear H
   go_upto_if 15 with (fail)
   repeat (go_quiet (fail); go_upto_if 15 with (fail))
   go_cut [4] (fun v4 wc => ∃ (kq : Nat) (x4_6 : ByteArray), v4 = .string x4_6 ∧ Aside0 (rat_Parse.j1 kq a0 x4_6 x5_1 = some (r1, r2, r3)) ∧ Aside0 (kq ≤ kj1) ∧ Aside0 (wc.heap[gb259]? = some (.cells #[.int .i64 0, .int .i64 0] 23 (0, 0))) ∧ Aside0 (Below w.heap.size w wc))
   case first =>
    have H := HC7.out
    clear HC7
    by_cases c8 : x5_1 = true
    ·subst c8
     have H1 : (if 1 ≤ (a0.size : Int) then (rat_Parse.j1 kj1 a0 (a0.extract 1 a0.size) true) else (none)) = some (r1, r2, r3) := by rw [if_pos rfl] at H; exact H
     clear H
     have H := H1
     clear H1
     by_cases c9 : 1 ≤ (a0.size : Int)
     ·rw [if_pos c9] at H
      have c9b0 := eq_true c9
      have c9b1 : decide (1 ≤ (a0.size : Int)) = true := decide_eq_true c9
      clear c9
      have H' := Aside0.mk H
      clear H
      go_wp2
      repeat (go_quiet (fail); try go_wp2)
      go_meet
      case rel => exact ⟨_, (a0.extract 1 a0.size), (by first | rfl | (simp; done) | (simp [*]; done)), H', ⟨by have := HJ1.out; first | omega | exact Nat.le_refl _⟩, ⟨blkN BK259.out⟩, ⟨(belS HB.out)⟩⟩
     ·rw [if_neg c9] at H
      exact absurd H (by simp)
    ·replace c8 := Bool.eq_false_iff.mpr c8
     subst c8
     have H1 : (rat_Parse.j1 kj1 a0 x4_1 false) = some (r1, r2, r3) := by rw [if_neg (show ¬ (false = true) by decide)] at H; exact H
     clear H
     have H := H1
     clear H1
     have H' := Aside0.mk H
     clear H
     go_wp2
     repeat (go_quiet (fail); try go_wp2)
     go_meet
     case rel => exact ⟨_, (x4_1), (by first | rfl | (simp; done) | (simp [*]; done)), H', ⟨by have := HJ1.out; first | omega | exact Nat.le_refl _⟩, ⟨blkN BK259.out⟩, ⟨(belS HB.out)⟩⟩
   case rest =>
    clear HC7
    try clear c2
    try clear p2
    try clear c4
    try clear c4b0
    try clear c4b1
    try clear c5
    try clear c5b0
    try clear c5b1
    try clear p6
    try clear q6
    try clear hx6
    try clear qi6
    try clear c8
    try clear c9
    try clear c9b0
    try clear c9b1
    try clear p2
    try clear p6
    try clear q6
    obtain ⟨kq, x4_6, rfl, HA, HJ6, BK259, HB⟩ := hcut
    cases kq with
    | zero => exact absurd HA.out (by simp [rat_Parse.j1])
    | succ kj6 =>
     have H := HA.out
     clear HA
     simp only [rat_Parse.j1] at H
     replace H := Option.bind_eq_some_iff.mp H
     obtain ⟨⟨t261, t262⟩, A100, H⟩ := H
     replace H : (if x5_1 = true then (rat_Parse.j2 kj6 a0 t262 (wrap64 (-t261)) 1) else (rat_Parse.j2 kj6 a0 t262 t261 1)) = some (r1, r2, r3) := H
     have A10 := Aside0.mk A100
     clear A100
     have HC11 := Aside0.mk H
     clear H
     go_upto_if 25 with (first | ((with_reducible refine gate_dst (N := 6) rfl ?_); refine box_event ?hg (N := 6) ?hd (cs := #[.int .i64 0, .int .i64 0]) (t := 23) ?hr ?_; (case hd => rfl); (case hg => rfl); (case hr => first | (go_simp; done) | (go_simp; rfl)); intro gb260 hg w12 hbox hb; have n0_ := Aside0.mk (bkB BK259.out hb); have n1_ := Aside0.mk (below_step (belS HB.out) hb); have n2_ := Aside0.mk (hbox); have n3_ := Aside0.mk (szB hg HB.out); have n4_ := Aside0.mk (szB hg HB.out); have n5_ := Aside0.mk ((bk1 hg BK259.out)); have n6_ := Aside0.mk ((bk2 hg BK259.out)); clear BK259; clear HB; have BK259 := n0_; have HB := n1_; have BK260 := n2_; have GW260 := n3_; have GE260 := n4_; have NB259_260 := n5_; have NB260_259 := n6_; clear n0_ n1_ n2_ n3_ n4_ n5_ n6_; clear hb hbox hg; have hnb13 := NB260_259.out; have hnc13 := NB259_260.out; have hcz14_0 : w12.cell? ⟨gb260, 0, none⟩ = some (.int .i64 0) := (blk_cell BK260.out 0).trans rfl; have hcz14_1 : w12.cell? ⟨gb260, 1, none⟩ = some (.int .i64 0) := (blk_cell BK260.out 1).trans rfl; have hfz14_0 := blk_frozen BK260.out 0; have hfz14_1 := blk_frozen BK260.out 1) | (go_at_call 45; (with_reducible refine (rat_number.calls kj6 x4_6 t261 t262 _ A10.out).mono ?_); rintro e w' ⟨rfl, ⟨nd, rfl⟩⟩; (try first | exact ⟨rfl, _, World.drewN_drewN _ _ _⟩ | exact ⟨rfl, _, Eq.trans (World.drewN_drewN _ _ _) (congrArg (World.drewN _) (Nat.add_assoc _ _ _))⟩)))
     repeat (go_quiet (first | ((with_reducible refine gate_dst (N := 6) rfl ?_); refine box_event ?hg (N := 6) ?hd (cs := #[.int .i64 0, .int .i64 0]) (t := 23) ?hr ?_; (case hd => rfl); (case hg => rfl); (case hr => first | (go_simp; done) | (go_simp; rfl)); intro gb260 hg w12 hbox hb; have n0_ := Aside0.mk (bkB BK259.out hb); have n1_ := Aside0.mk (below_step (belS HB.out) hb); have n2_ := Aside0.mk (hbox); have n3_ := Aside0.mk (szB hg HB.out); have n4_ := Aside0.mk (szB hg HB.out); have n5_ := Aside0.mk ((bk1 hg BK259.out)); have n6_ := Aside0.mk ((bk2 hg BK259.out)); clear BK259; clear HB; have BK259 := n0_; have HB := n1_; have BK260 := n2_; have GW260 := n3_; have GE260 := n4_; have NB259_260 := n5_; have NB260_259 := n6_; clear n0_ n1_ n2_ n3_ n4_ n5_ n6_; clear hb hbox hg; have hnb13 := NB260_259.out; have hnc13 := NB259_260.out; have hcz14_0 : w12.cell? ⟨gb260, 0, none⟩ = some (.int .i64 0) := (blk_cell BK260.out 0).trans rfl; have hcz14_1 : w12.cell? ⟨gb260, 1, none⟩ = some (.int .i64 0) := (blk_cell BK260.out 1).trans rfl; have hfz14_0 := blk_frozen BK260.out 0; have hfz14_1 := blk_frozen BK260.out 1) | (go_at_call 45; (with_reducible refine (rat_number.calls kj6 x4_6 t261 t262 _ A10.out).mono ?_); rintro e w' ⟨rfl, ⟨nd, rfl⟩⟩; (try first | exact ⟨rfl, _, World.drewN_drewN _ _ _⟩ | exact ⟨rfl, _, Eq.trans (World.drewN_drewN _ _ _) (congrArg (World.drewN _) (Nat.add_assoc _ _ _))⟩))); go_upto_if 25 with (first | ((with_reducible refine gate_dst (N := 6) rfl ?_); refine box_event ?hg (N := 6) ?hd (cs := #[.int .i64 0, .int .i64 0]) (t := 23) ?hr ?_; (case hd => rfl); (case hg => rfl); (case hr => first | (go_simp; done) | (go_simp; rfl)); intro gb260 hg w12 hbox hb; have n0_ := Aside0.mk (bkB BK259.out hb); have n1_ := Aside0.mk (below_step (belS HB.out) hb); have n2_ := Aside0.mk (hbox); have n3_ := Aside0.mk (szB hg HB.out); have n4_ := Aside0.mk (szB hg HB.out); have n5_ := Aside0.mk ((bk1 hg BK259.out)); have n6_ := Aside0.mk ((bk2 hg BK259.out)); clear BK259; clear HB; have BK259 := n0_; have HB := n1_; have BK260 := n2_; have GW260 := n3_; have GE260 := n4_; have NB259_260 := n5_; have NB260_259 := n6_; clear n0_ n1_ n2_ n3_ n4_ n5_ n6_; clear hb hbox hg; have hnb13 := NB260_259.out; have hnc13 := NB259_260.out; have hcz14_0 : w12.cell? ⟨gb260, 0, none⟩ = some (.int .i64 0) := (blk_cell BK260.out 0).trans rfl; have hcz14_1 : w12.cell? ⟨gb260, 1, none⟩ = some (.int .i64 0) := (blk_cell BK260.out 1).trans rfl; have hfz14_0 := blk_frozen BK260.out 0; have hfz14_1 := blk_frozen BK260.out 1) | (go_at_call 45; (with_reducible refine (rat_number.calls kj6 x4_6 t261 t262 _ A10.out).mono ?_); rintro e w' ⟨rfl, ⟨nd, rfl⟩⟩; (try first | exact ⟨rfl, _, World.drewN_drewN _ _ _⟩ | exact ⟨rfl, _, Eq.trans (World.drewN_drewN _ _ _) (congrArg (World.drewN _) (Nat.add_assoc _ _ _))⟩))))
     (try simp only [Act.put, List.setIfInBounds_toArray, List.set_cons_zero, List.set_cons_succ])
     go_cut [] (fun wc => ∃ (kq : Nat) (x261000_10 : Int), Aside0 (rat_Parse.j2 kq a0 t262 x261000_10 1 = some (r1, r2, r3)) ∧ Aside0 (kq ≤ kj6) ∧ Aside0 (wc.heap[gb259]? = some (.cells #[.int .i64 0, .int .i64 0] 23 (0, 0))) ∧ Aside0 (wc.heap[gb260]? = some (.cells #[.int .i64 x261000_10, .int .i64 1] 23 (0, 0))) ∧ Aside0 (Below w.heap.size w wc))
     case first =>
      have H := HC11.out
      clear HC11
      by_cases c15 : x5_1 = true
      ·subst c15
       have H1 : (rat_Parse.j2 kj6 a0 t262 (wrap64 (-t261)) 1) = some (r1, r2, r3) := by rw [if_pos rfl] at H; exact H
       clear H
       have H := H1
       clear H1
       have H' := Aside0.mk H
       clear H
       have hnb16 := NB260_259.out
       have hnc16 := NB259_260.out
       have hcz17_0 : w12.cell? ⟨gb260, 0, none⟩ = some (.int .i64 0) := (blk_cell BK260.out 0).trans rfl
       have hcz17_1 : w12.cell? ⟨gb260, 1, none⟩ = some (.int .i64 0) := (blk_cell BK260.out 1).trans rfl
       have hfz17_0 := blk_frozen BK260.out 0
       have hfz17_1 := blk_frozen BK260.out 1
       go_wp2
       repeat (go_quiet (fail); try go_wp2)
       go_meet
       case rel => exact ⟨_, (wrap64 (-t261)), H', ⟨by have := HJ1.out; have := HJ6.out; first | omega | exact Nat.le_refl _⟩, ⟨blkF BK259.out⟩, ⟨by (with_reducible repeat (first | refine blk_drewN ?_ _ | refine blk_drew ?_ | refine blk_alloc ?_ _)); refine blk_put (cs := #[.int .i64 t261, .int .i64 1]) ?_ 0 _ rfl; (with_reducible repeat (first | refine blk_drewN ?_ _ | refine blk_drew ?_ | refine blk_alloc ?_ _)); refine blk_put (cs := #[.int .i64 0, .int .i64 1]) ?_ 0 _ rfl; (with_reducible repeat (first | refine blk_drewN ?_ _ | refine blk_drew ?_ | refine blk_alloc ?_ _)); refine blk_put (cs := #[.int .i64 0, .int .i64 0]) ?_ 1 _ rfl; (with_reducible repeat (first | refine blk_drewN ?_ _ | refine blk_drew ?_ | refine blk_alloc ?_ _)); refine blk_put (cs := #[.int .i64 0, .int .i64 0]) ?_ 0 _ rfl; (with_reducible repeat (first | refine blk_drewN ?_ _ | refine blk_drew ?_ | refine blk_alloc ?_ _)); exact BK260.out⟩, ⟨(belS HB.out)⟩⟩
      ·replace c15 := Bool.eq_false_iff.mpr c15
       subst c15
       have H1 : (rat_Parse.j2 kj6 a0 t262 t261 1) = some (r1, r2, r3) := by rw [if_neg (show ¬ (false = true) by decide)] at H; exact H
       clear H
       have H := H1
       clear H1
       have H' := Aside0.mk H
       clear H
       go_wp2
       repeat (go_quiet (fail); try go_wp2)
       go_meet
       case rel => exact ⟨_, (t261), H', ⟨by have := HJ1.out; have := HJ6.out; first | omega | exact Nat.le_refl _⟩, ⟨blkF BK259.out⟩, ⟨by (with_reducible repeat (first | refine blk_drewN ?_ _ | refine blk_drew ?_ | refine blk_alloc ?_ _)); refine blk_put (cs := #[.int .i64 0, .int .i64 1]) ?_ 0 _ rfl; (with_reducible repeat (first | refine blk_drewN ?_ _ | refine blk_drew ?_ | refine blk_alloc ?_ _)); refine blk_put (cs := #[.int .i64 0, .int .i64 0]) ?_ 1 _ rfl; (with_reducible repeat (first | refine blk_drewN ?_ _ | refine blk_drew ?_ | refine blk_alloc ?_ _)); refine blk_put (cs := #[.int .i64 0, .int .i64 0]) ?_ 0 _ rfl; (with_reducible repeat (first | refine blk_drewN ?_ _ | refine blk_drew ?_ | refine blk_alloc ?_ _)); exact BK260.out⟩, ⟨(belS HB.out)⟩⟩
     case rest =>
      clear HC11
      try clear c1
      try clear c2
      try clear p2
      try clear c4
      try clear c4b0
      try clear c4b1
      try clear c5
      try clear c5b0
      try clear c5b1
      try clear p6
      try clear q6
      try clear hx6
      try clear qi6
      try clear c8
      try clear c9
      try clear c9b0
      try clear c9b1
      try clear c13
      try clear c15
      try clear c16
      try clear hcz14_0
      try clear hcz14_1
      try clear hcz17_0
      try clear hcz17_1
      try clear hfz14_0
      try clear hfz14_1
      try clear hfz17_0
      try clear hfz17_1
      try clear p2
      try clear p6
      try clear q6
      obtain ⟨kq, x261000_10, HA, HJ10, BK259, BK260, HB⟩ := hcut
      cases kq with
      | zero => exact absurd HA.out (by simp [rat_Parse.j2])
      | succ kj10 =>
       have H := HA.out
       clear HA
       simp only [rat_Parse.j2] at H
       have HC18 := Aside0.mk H
       clear H
       go_upto_if 31 with (fail)
       repeat (go_quiet (fail); go_upto_if 31 with (fail))
       go_cut [] (fun wc => ∃ (kq : Nat) (x261001_17 : Int), Aside0 (rat_Parse.j3 kq a0 x261000_10 x261001_17 = some (r1, r2, r3)) ∧ Aside0 (kq ≤ kj10) ∧ Aside0 (wc.heap[gb259]? = some (.cells #[.int .i64 0, .int .i64 0] 23 (0, 0))) ∧ Aside0 (wc.heap[gb260]? = some (.cells #[.int .i64 x261000_10, .int .i64 x261001_17] 23 (0, 0))) ∧ Aside0 (Below w.heap.size w wc))
       case first =>
        have H := HC18.out
        clear HC18
        by_cases c19 : t262.toList = ([] : List UInt8)
        ·rw [if_pos c19] at H
         have c19b0 : (t262.toList == ([] : List UInt8)) = true := beq_iff_eq.mpr c19
         have c19b1 : (t262.toList != ([] : List UInt8)) = false := bne_eq_false_iff_eq.mpr c19
         have c19b3 : t262.toList.isEmpty = true := by have h_ := c19b0; cases hl_ : t262.toList <;> simp_all
         (try rw [c19b3])
         clear c19
         (first | rw [c19b0] | rw [c19b1] | (simp only [i64_w, i32_w]; rw [c19b0]) | skip)
         have H' := Aside0.mk H
         clear H
         go_wp2
         repeat (go_quiet (fail); try go_wp2)
         go_meet
         case rel => exact ⟨_, (1), H', ⟨by have := HJ1.out; have := HJ6.out; have := HJ10.out; first | omega | exact Nat.le_refl _⟩, ⟨blkN BK259.out⟩, ⟨blkN BK260.out⟩, ⟨(belS HB.out)⟩⟩
        ·rw [if_neg c19] at H
         have c19b0 : (t262.toList == ([] : List UInt8)) = false := beq_eq_false_iff_ne.mpr c19
         have c19b1 : (t262.toList != ([] : List UInt8)) = true := bne_iff_ne.mpr c19
         have c19b3 : t262.toList.isEmpty = false := by have h_ := c19b0; cases hl_ : t262.toList <;> simp_all
         (try rw [c19b3])
         (first | rw [c19b0] | rw [c19b1] | (simp only [i64_w, i32_w]; rw [c19b0]) | skip)
         by_cases c20 : 1 ≤ (t262.size : Int)
         ·rw [if_pos c20] at H
          have c20b0 := eq_true c20
          have c20b1 : decide (1 ≤ (t262.size : Int)) = true := decide_eq_true c20
          clear c20
          replace H := Option.bind_eq_some_iff.mp H
          obtain ⟨⟨t263, t264⟩, A210, H⟩ := H
          replace H : (rat_Parse.j3 kj10 a0 x261000_10 t263) = some (r1, r2, r3) := H
          have A21 := Aside0.mk A210
          clear A210
          have H' := Aside0.mk H
          clear H
          go_wp2_with (first | (go_at_call 45; (with_reducible refine (rat_number.calls kj10 (t262.extract 1 t262.size) t263 t264 _ A21.out).mono ?_); rintro e w' ⟨rfl, ⟨nd, rfl⟩⟩; (try first | exact ⟨rfl, _, World.drewN_drewN _ _ _⟩ | exact ⟨rfl, _, Eq.trans (World.drewN_drewN _ _ _) (congrArg (World.drewN _) (Nat.add_assoc _ _ _))⟩); have hnb22 := NB260_259.out; have hnc22 := NB259_260.out; have hcz23_0 : wc.cell? ⟨gb260, 0, none⟩ = some (.int .i64 x261000_10) := (blk_cell BK260.out 0).trans rfl; have hcz23_1 : wc.cell? ⟨gb260, 1, none⟩ = some (.int .i64 1) := (blk_cell BK260.out 1).trans rfl; have hfz23_0 := blk_frozen BK260.out 0; have hfz23_1 := blk_frozen BK260.out 1))
          repeat (go_quiet (first | (go_at_call 45; (with_reducible refine (rat_number.calls kj10 (t262.extract 1 t262.size) t263 t264 _ A21.out).mono ?_); rintro e w' ⟨rfl, ⟨nd, rfl⟩⟩; (try first | exact ⟨rfl, _, World.drewN_drewN _ _ _⟩ | exact ⟨rfl, _, Eq.trans (World.drewN_drewN _ _ _) (congrArg (World.drewN _) (Nat.add_assoc _ _ _))⟩); have hnb22 := NB260_259.out; have hnc22 := NB259_260.out; have hcz23_0 : wc.cell? ⟨gb260, 0, none⟩ = some (.int .i64 x261000_10) := (blk_cell BK260.out 0).trans rfl; have hcz23_1 : wc.cell? ⟨gb260, 1, none⟩ = some (.int .i64 1) := (blk_cell BK260.out 1).trans rfl; have hfz23_0 := blk_frozen BK260.out 0; have hfz23_1 := blk_frozen BK260.out 1)); try go_wp2_with (first | (go_at_call 45; (with_reducible refine (rat_number.calls kj10 (t262.extract 1 t262.size) t263 t264 _ A21.out).mono ?_); rintro e w' ⟨rfl, ⟨nd, rfl⟩⟩; (try first | exact ⟨rfl, _, World.drewN_drewN _ _ _⟩ | exact ⟨rfl, _, Eq.trans (World.drewN_drewN _ _ _) (congrArg (World.drewN _) (Nat.add_assoc _ _ _))⟩); have hnb22 := NB260_259.out; have hnc22 := NB259_260.out; have hcz23_0 : wc.cell? ⟨gb260, 0, none⟩ = some (.int .i64 x261000_10) := (blk_cell BK260.out 0).trans rfl; have hcz23_1 : wc.cell? ⟨gb260, 1, none⟩ = some (.int .i64 1) := (blk_cell BK260.out 1).trans rfl; have hfz23_0 := blk_frozen BK260.out 0; have hfz23_1 := blk_frozen BK260.out 1)))
          go_meet
          case rel => exact ⟨_, (t263), H', ⟨by have := HJ1.out; have := HJ6.out; have := HJ10.out; first | omega | exact Nat.le_refl _⟩, ⟨blkF BK259.out⟩, ⟨by (with_reducible repeat (first | refine blk_drewN ?_ _ | refine blk_drew ?_ | refine blk_alloc ?_ _)); refine blk_put (cs := #[.int .i64 x261000_10, .int .i64 1]) ?_ 1 _ rfl; (with_reducible repeat (first | refine blk_drewN ?_ _ | refine blk_drew ?_ | refine blk_alloc ?_ _)); exact BK260.out⟩, ⟨(belS HB.out)⟩⟩
         ·rw [if_neg c20] at H
          exact absurd H (by simp)
       case rest =>
        clear HC18
        try clear c1
        try clear c2
        try clear p2
        try clear c4
        try clear c4b0
        try clear c4b1
        try clear c5
        try clear c5b0
        try clear c5b1
        try clear p6
        try clear q6
        try clear hx6
        try clear qi6
        try clear c8
        try clear c9
        try clear c9b0
        try clear c9b1
        try clear c13
        try clear c15
        try clear c16
        try clear c19
        try clear c19b0
        try clear c19b1
        try clear c20
        try clear c20b0
        try clear c20b1
        try clear c22
        try clear hcz14_0
        try clear hcz14_1
        try clear hcz17_0
        try clear hcz17_1
        try clear hcz23_0
        try clear hcz23_1
        try clear hfz14_0
        try clear hfz14_1
        try clear hfz17_0
        try clear hfz17_1
        try clear hfz23_0
        try clear hfz23_1
        try clear p2
        try clear p6
        try clear q6
        obtain ⟨kq, x261001_17, HA, HJ17, BK259, BK260, HB⟩ := hcut
        cases kq with
        | zero => exact absurd HA.out (by simp [rat_Parse.j3])
        | succ kj17 =>
         have H := HA.out
         clear HA
         simp only [rat_Parse.j3] at H
         replace H := Option.bind_eq_some_iff.mp H
         obtain ⟨t265, A240, H⟩ := H
         replace H : (if t265 = true then ((rat_Text.f kj17 x261000_10 x261001_17).bind fun t266 => (if t266.toList = a0.toList then (some (x261000_10, x261001_17, 0)) else (some (0, 0, 12)))) else (some (0, 0, 12))) = some (r1, r2, r3) := H
         have A24 := Aside0.mk A240
         clear A240
         by_cases c25 : t265 = true
         ·subst c25
          have H1 : ((rat_Text.f kj17 x261000_10 x261001_17).bind fun t266 => (if t266.toList = a0.toList then (some (x261000_10, x261001_17, 0)) else (some (0, 0, 12)))) = some (r1, r2, r3) := by rw [if_pos rfl] at H; exact H
          clear H
          have H := H1
          clear H1
          replace H := Option.bind_eq_some_iff.mp H
          obtain ⟨t266, A260, H⟩ := H
          replace H : (if t266.toList = a0.toList then (some (x261000_10, x261001_17, 0)) else (some (0, 0, 12))) = some (r1, r2, r3) := H
          have A26 := Aside0.mk A260
          clear A260
          by_cases c27 : t266.toList = a0.toList
          ·rw [if_pos c27] at H
           have c27b0 : (t266.toList == a0.toList) = true := beq_iff_eq.mpr c27
           have c27b1 : (t266.toList != a0.toList) = false := bne_eq_false_iff_eq.mpr c27
           clear c27
           simp only [Option.some.injEq, Prod.mk.injEq] at H
           obtain ⟨rfl, rfl, rfl⟩ := H
           have hnb28 := NB260_259.out
           have hnc28 := NB259_260.out
           have hcz29_0 : wc.cell? ⟨gb260, 0, none⟩ = some (.int .i64 x261000_10) := (blk_cell BK260.out 0).trans rfl
           have hcz29_1 : wc.cell? ⟨gb260, 1, none⟩ = some (.int .i64 x261001_17) := (blk_cell BK260.out 1).trans rfl
           have hfz29_0 := blk_frozen BK260.out 0
           have hfz29_1 := blk_frozen BK260.out 1
           go_wp2_with (first | (go_at_call 21; (with_reducible refine (rat_Right.calls kj17 x261000_10 x261001_17 true _ A24.out).mono ?_); rintro e w30 ⟨rfl, hb⟩; have n0_ := Aside0.mk (bkB BK259.out hb); have n1_ := Aside0.mk (bkB BK260.out hb); have n2_ := Aside0.mk (below_step (belS HB.out) hb); clear BK259; clear BK260; clear HB; have BK259 := n0_; have BK260 := n1_; have HB := n2_; clear n0_ n1_ n2_; (try clear hb); have hcz31_0 : w30.cell? ⟨gb260, 0, none⟩ = some (.int .i64 x261000_10) := (blk_cell BK260.out 0).trans rfl; have hcz31_1 : w30.cell? ⟨gb260, 1, none⟩ = some (.int .i64 x261001_17) := (blk_cell BK260.out 1).trans rfl; have hfz31_0 := blk_frozen BK260.out 0; have hfz31_1 := blk_frozen BK260.out 1) | (go_at_call 23; (with_reducible refine (rat_Text.calls kj17 x261000_10 x261001_17 t266 _ A26.out).mono ?_); rintro e w32 ⟨rfl, hb⟩; have n0_ := Aside0.mk (bkB BK259.out hb); have n1_ := Aside0.mk (bkB BK260.out hb); have n2_ := Aside0.mk (below_step (belS HB.out) hb); clear BK259; clear BK260; clear HB; have BK259 := n0_; have BK260 := n1_; have HB := n2_; clear n0_ n1_ n2_; (try clear hb); have hcz33_0 : w32.cell? ⟨gb260, 0, none⟩ = some (.int .i64 x261000_10) := (blk_cell BK260.out 0).trans rfl; have hcz33_1 : w32.cell? ⟨gb260, 1, none⟩ = some (.int .i64 x261001_17) := (blk_cell BK260.out 1).trans rfl; have hfz33_0 := blk_frozen BK260.out 0; have hfz33_1 := blk_frozen BK260.out 1; have hcz34_0 : w32.cell? ⟨gb259, 0, none⟩ = some (.int .i64 0) := (blk_cell BK259.out 0).trans rfl; have hcz34_1 : w32.cell? ⟨gb259, 1, none⟩ = some (.int .i64 0) := (blk_cell BK259.out 1).trans rfl; have hfz34_0 := blk_frozen BK259.out 0; have hfz34_1 := blk_frozen BK259.out 1))
           repeat (go_quiet (first | (go_at_call 21; (with_reducible refine (rat_Right.calls kj17 x261000_10 x261001_17 true _ A24.out).mono ?_); rintro e w30 ⟨rfl, hb⟩; have n0_ := Aside0.mk (bkB BK259.out hb); have n1_ := Aside0.mk (bkB BK260.out hb); have n2_ := Aside0.mk (below_step (belS HB.out) hb); clear BK259; clear BK260; clear HB; have BK259 := n0_; have BK260 := n1_; have HB := n2_; clear n0_ n1_ n2_; (try clear hb); have hcz31_0 : w30.cell? ⟨gb260, 0, none⟩ = some (.int .i64 x261000_10) := (blk_cell BK260.out 0).trans rfl; have hcz31_1 : w30.cell? ⟨gb260, 1, none⟩ = some (.int .i64 x261001_17) := (blk_cell BK260.out 1).trans rfl; have hfz31_0 := blk_frozen BK260.out 0; have hfz31_1 := blk_frozen BK260.out 1) | (go_at_call 23; (with_reducible refine (rat_Text.calls kj17 x261000_10 x261001_17 t266 _ A26.out).mono ?_); rintro e w32 ⟨rfl, hb⟩; have n0_ := Aside0.mk (bkB BK259.out hb); have n1_ := Aside0.mk (bkB BK260.out hb); have n2_ := Aside0.mk (below_step (belS HB.out) hb); clear BK259; clear BK260; clear HB; have BK259 := n0_; have BK260 := n1_; have HB := n2_; clear n0_ n1_ n2_; (try clear hb); have hcz33_0 : w32.cell? ⟨gb260, 0, none⟩ = some (.int .i64 x261000_10) := (blk_cell BK260.out 0).trans rfl; have hcz33_1 : w32.cell? ⟨gb260, 1, none⟩ = some (.int .i64 x261001_17) := (blk_cell BK260.out 1).trans rfl; have hfz33_0 := blk_frozen BK260.out 0; have hfz33_1 := blk_frozen BK260.out 1; have hcz34_0 : w32.cell? ⟨gb259, 0, none⟩ = some (.int .i64 0) := (blk_cell BK259.out 0).trans rfl; have hcz34_1 : w32.cell? ⟨gb259, 1, none⟩ = some (.int .i64 0) := (blk_cell BK259.out 1).trans rfl; have hfz34_0 := blk_frozen BK259.out 0; have hfz34_1 := blk_frozen BK259.out 1)); try go_wp2_with (first | (go_at_call 21; (with_reducible refine (rat_Right.calls kj17 x261000_10 x261001_17 true _ A24.out).mono ?_); rintro e w30 ⟨rfl, hb⟩; have n0_ := Aside0.mk (bkB BK259.out hb); have n1_ := Aside0.mk (bkB BK260.out hb); have n2_ := Aside0.mk (below_step (belS HB.out) hb); clear BK259; clear BK260; clear HB; have BK259 := n0_; have BK260 := n1_; have HB := n2_; clear n0_ n1_ n2_; (try clear hb); have hcz31_0 : w30.cell? ⟨gb260, 0, none⟩ = some (.int .i64 x261000_10) := (blk_cell BK260.out 0).trans rfl; have hcz31_1 : w30.cell? ⟨gb260, 1, none⟩ = some (.int .i64 x261001_17) := (blk_cell BK260.out 1).trans rfl; have hfz31_0 := blk_frozen BK260.out 0; have hfz31_1 := blk_frozen BK260.out 1) | (go_at_call 23; (with_reducible refine (rat_Text.calls kj17 x261000_10 x261001_17 t266 _ A26.out).mono ?_); rintro e w32 ⟨rfl, hb⟩; have n0_ := Aside0.mk (bkB BK259.out hb); have n1_ := Aside0.mk (bkB BK260.out hb); have n2_ := Aside0.mk (below_step (belS HB.out) hb); clear BK259; clear BK260; clear HB; have BK259 := n0_; have BK260 := n1_; have HB := n2_; clear n0_ n1_ n2_; (try clear hb); have hcz33_0 : w32.cell? ⟨gb260, 0, none⟩ = some (.int .i64 x261000_10) := (blk_cell BK260.out 0).trans rfl; have hcz33_1 : w32.cell? ⟨gb260, 1, none⟩ = some (.int .i64 x261001_17) := (blk_cell BK260.out 1).trans rfl; have hfz33_0 := blk_frozen BK260.out 0; have hfz33_1 := blk_frozen BK260.out 1; have hcz34_0 : w32.cell? ⟨gb259, 0, none⟩ = some (.int .i64 0) := (blk_cell BK259.out 0).trans rfl; have hcz34_1 : w32.cell? ⟨gb259, 1, none⟩ = some (.int .i64 0) := (blk_cell BK259.out 1).trans rfl; have hfz34_0 := blk_frozen BK259.out 0; have hfz34_1 := blk_frozen BK259.out 1)))
           refine bodyPost_ret (results_ct rfl _ _ gb259 23 #[.int .i64 x261000_10, .int .i64 x261001_17] (0, 0) _ rfl (by (with_reducible repeat (first | refine blk_drewN ?_ _ | refine blk_drew ?_ | refine blk_alloc ?_ _)); refine blk_put (cs := #[.int .i64 x261000_10, .int .i64 0]) ?_ 1 _ rfl; (with_reducible repeat (first | refine blk_drewN ?_ _ | refine blk_drew ?_ | refine blk_alloc ?_ _)); refine blk_put (cs := #[.int .i64 0, .int .i64 0]) ?_ 0 _ rfl; (with_reducible repeat (first | refine blk_drewN ?_ _ | refine blk_drew ?_ | refine blk_alloc ?_ _)); exact BK259.out) Try.underlying23 rfl (by kernel_rfl)) rfl ?_
           exact ⟨by first | rfl | (simp [errW_none, errW_some] <;> rfl) | (simp [*, errW_none, errW_some] <;> rfl), (belS HB.out)⟩
          ·rw [if_neg c27] at H
           have c27b0 : (t266.toList == a0.toList) = false := beq_eq_false_iff_ne.mpr c27
           have c27b1 : (t266.toList != a0.toList) = true := bne_iff_ne.mpr c27
           simp only [Option.some.injEq, Prod.mk.injEq] at H
           obtain ⟨rfl, rfl, rfl⟩ := H
           have hnb35 := NB260_259.out
           have hnc35 := NB259_260.out
           have hcz36_0 : wc.cell? ⟨gb260, 0, none⟩ = some (.int .i64 x261000_10) := (blk_cell BK260.out 0).trans rfl
           have hcz36_1 : wc.cell? ⟨gb260, 1, none⟩ = some (.int .i64 x261001_17) := (blk_cell BK260.out 1).trans rfl
           have hfz36_0 := blk_frozen BK260.out 0
           have hfz36_1 := blk_frozen BK260.out 1
           go_wp2_with (first | (go_at_call 21; (with_reducible refine (rat_Right.calls kj17 x261000_10 x261001_17 true _ A24.out).mono ?_); rintro e w37 ⟨rfl, hb⟩; have n0_ := Aside0.mk (bkB BK259.out hb); have n1_ := Aside0.mk (bkB BK260.out hb); have n2_ := Aside0.mk (below_step (belS HB.out) hb); clear BK259; clear BK260; clear HB; have BK259 := n0_; have BK260 := n1_; have HB := n2_; clear n0_ n1_ n2_; (try clear hb); have hcz38_0 : w37.cell? ⟨gb260, 0, none⟩ = some (.int .i64 x261000_10) := (blk_cell BK260.out 0).trans rfl; have hcz38_1 : w37.cell? ⟨gb260, 1, none⟩ = some (.int .i64 x261001_17) := (blk_cell BK260.out 1).trans rfl; have hfz38_0 := blk_frozen BK260.out 0; have hfz38_1 := blk_frozen BK260.out 1) | (go_at_call 23; (with_reducible refine (rat_Text.calls kj17 x261000_10 x261001_17 t266 _ A26.out).mono ?_); rintro e w39 ⟨rfl, hb⟩; have n0_ := Aside0.mk (bkB BK259.out hb); have n1_ := Aside0.mk (bkB BK260.out hb); have n2_ := Aside0.mk (below_step (belS HB.out) hb); clear BK259; clear BK260; clear HB; have BK259 := n0_; have BK260 := n1_; have HB := n2_; clear n0_ n1_ n2_; (try clear hb); have hcz40_0 : w39.cell? ⟨gb259, 0, none⟩ = some (.int .i64 0) := (blk_cell BK259.out 0).trans rfl; have hcz40_1 : w39.cell? ⟨gb259, 1, none⟩ = some (.int .i64 0) := (blk_cell BK259.out 1).trans rfl; have hfz40_0 := blk_frozen BK259.out 0; have hfz40_1 := blk_frozen BK259.out 1))
           repeat (go_quiet (first | (go_at_call 21; (with_reducible refine (rat_Right.calls kj17 x261000_10 x261001_17 true _ A24.out).mono ?_); rintro e w37 ⟨rfl, hb⟩; have n0_ := Aside0.mk (bkB BK259.out hb); have n1_ := Aside0.mk (bkB BK260.out hb); have n2_ := Aside0.mk (below_step (belS HB.out) hb); clear BK259; clear BK260; clear HB; have BK259 := n0_; have BK260 := n1_; have HB := n2_; clear n0_ n1_ n2_; (try clear hb); have hcz38_0 : w37.cell? ⟨gb260, 0, none⟩ = some (.int .i64 x261000_10) := (blk_cell BK260.out 0).trans rfl; have hcz38_1 : w37.cell? ⟨gb260, 1, none⟩ = some (.int .i64 x261001_17) := (blk_cell BK260.out 1).trans rfl; have hfz38_0 := blk_frozen BK260.out 0; have hfz38_1 := blk_frozen BK260.out 1) | (go_at_call 23; (with_reducible refine (rat_Text.calls kj17 x261000_10 x261001_17 t266 _ A26.out).mono ?_); rintro e w39 ⟨rfl, hb⟩; have n0_ := Aside0.mk (bkB BK259.out hb); have n1_ := Aside0.mk (bkB BK260.out hb); have n2_ := Aside0.mk (below_step (belS HB.out) hb); clear BK259; clear BK260; clear HB; have BK259 := n0_; have BK260 := n1_; have HB := n2_; clear n0_ n1_ n2_; (try clear hb); have hcz40_0 : w39.cell? ⟨gb259, 0, none⟩ = some (.int .i64 0) := (blk_cell BK259.out 0).trans rfl; have hcz40_1 : w39.cell? ⟨gb259, 1, none⟩ = some (.int .i64 0) := (blk_cell BK259.out 1).trans rfl; have hfz40_0 := blk_frozen BK259.out 0; have hfz40_1 := blk_frozen BK259.out 1)); try go_wp2_with (first | (go_at_call 21; (with_reducible refine (rat_Right.calls kj17 x261000_10 x261001_17 true _ A24.out).mono ?_); rintro e w37 ⟨rfl, hb⟩; have n0_ := Aside0.mk (bkB BK259.out hb); have n1_ := Aside0.mk (bkB BK260.out hb); have n2_ := Aside0.mk (below_step (belS HB.out) hb); clear BK259; clear BK260; clear HB; have BK259 := n0_; have BK260 := n1_; have HB := n2_; clear n0_ n1_ n2_; (try clear hb); have hcz38_0 : w37.cell? ⟨gb260, 0, none⟩ = some (.int .i64 x261000_10) := (blk_cell BK260.out 0).trans rfl; have hcz38_1 : w37.cell? ⟨gb260, 1, none⟩ = some (.int .i64 x261001_17) := (blk_cell BK260.out 1).trans rfl; have hfz38_0 := blk_frozen BK260.out 0; have hfz38_1 := blk_frozen BK260.out 1) | (go_at_call 23; (with_reducible refine (rat_Text.calls kj17 x261000_10 x261001_17 t266 _ A26.out).mono ?_); rintro e w39 ⟨rfl, hb⟩; have n0_ := Aside0.mk (bkB BK259.out hb); have n1_ := Aside0.mk (bkB BK260.out hb); have n2_ := Aside0.mk (below_step (belS HB.out) hb); clear BK259; clear BK260; clear HB; have BK259 := n0_; have BK260 := n1_; have HB := n2_; clear n0_ n1_ n2_; (try clear hb); have hcz40_0 : w39.cell? ⟨gb259, 0, none⟩ = some (.int .i64 0) := (blk_cell BK259.out 0).trans rfl; have hcz40_1 : w39.cell? ⟨gb259, 1, none⟩ = some (.int .i64 0) := (blk_cell BK259.out 1).trans rfl; have hfz40_0 := blk_frozen BK259.out 0; have hfz40_1 := blk_frozen BK259.out 1)))
           refine bodyPost_ret (results_ct rfl _ _ gb259 23 #[.int .i64 0, .int .i64 0] (0, 0) _ rfl (by (with_reducible repeat (first | refine blk_drewN ?_ _ | refine blk_drew ?_ | refine blk_alloc ?_ _)); refine blk_put (cs := #[.int .i64 0, .int .i64 0]) ?_ 1 _ rfl; (with_reducible repeat (first | refine blk_drewN ?_ _ | refine blk_drew ?_ | refine blk_alloc ?_ _)); refine blk_put (cs := #[.int .i64 0, .int .i64 0]) ?_ 0 _ rfl; (with_reducible repeat (first | refine blk_drewN ?_ _ | refine blk_drew ?_ | refine blk_alloc ?_ _)); exact BK259.out) Try.underlying23 rfl (by kernel_rfl)) rfl ?_
           exact ⟨by first | rfl | (simp [errW_none, errW_some] <;> rfl) | (simp [*, errW_none, errW_some] <;> rfl), (belS HB.out)⟩
         ·replace c25 := Bool.eq_false_iff.mpr c25
          subst c25
          have H1 : (some (0, 0, 12)) = some (r1, r2, r3) := by rw [if_neg (show ¬ (false = true) by decide)] at H; exact H
          clear H
          have H := H1
          clear H1
          simp only [Option.some.injEq, Prod.mk.injEq] at H
          obtain ⟨rfl, rfl, rfl⟩ := H
          have hnb41 := NB260_259.out
          have hnc41 := NB259_260.out
          have hcz42_0 : wc.cell? ⟨gb260, 0, none⟩ = some (.int .i64 x261000_10) := (blk_cell BK260.out 0).trans rfl
          have hcz42_1 : wc.cell? ⟨gb260, 1, none⟩ = some (.int .i64 x261001_17) := (blk_cell BK260.out 1).trans rfl
          have hfz42_0 := blk_frozen BK260.out 0
          have hfz42_1 := blk_frozen BK260.out 1
          go_wp2_with (first | (go_at_call 21; (with_reducible refine (rat_Right.calls kj17 x261000_10 x261001_17 false _ A24.out).mono ?_); rintro e w43 ⟨rfl, hb⟩; have n0_ := Aside0.mk (bkB BK259.out hb); have n1_ := Aside0.mk (bkB BK260.out hb); have n2_ := Aside0.mk (below_step (belS HB.out) hb); clear BK259; clear BK260; clear HB; have BK259 := n0_; have BK260 := n1_; have HB := n2_; clear n0_ n1_ n2_; (try clear hb); have hcz44_0 : w43.cell? ⟨gb259, 0, none⟩ = some (.int .i64 0) := (blk_cell BK259.out 0).trans rfl; have hcz44_1 : w43.cell? ⟨gb259, 1, none⟩ = some (.int .i64 0) := (blk_cell BK259.out 1).trans rfl; have hfz44_0 := blk_frozen BK259.out 0; have hfz44_1 := blk_frozen BK259.out 1))
          repeat (go_quiet (first | (go_at_call 21; (with_reducible refine (rat_Right.calls kj17 x261000_10 x261001_17 false _ A24.out).mono ?_); rintro e w43 ⟨rfl, hb⟩; have n0_ := Aside0.mk (bkB BK259.out hb); have n1_ := Aside0.mk (bkB BK260.out hb); have n2_ := Aside0.mk (below_step (belS HB.out) hb); clear BK259; clear BK260; clear HB; have BK259 := n0_; have BK260 := n1_; have HB := n2_; clear n0_ n1_ n2_; (try clear hb); have hcz44_0 : w43.cell? ⟨gb259, 0, none⟩ = some (.int .i64 0) := (blk_cell BK259.out 0).trans rfl; have hcz44_1 : w43.cell? ⟨gb259, 1, none⟩ = some (.int .i64 0) := (blk_cell BK259.out 1).trans rfl; have hfz44_0 := blk_frozen BK259.out 0; have hfz44_1 := blk_frozen BK259.out 1)); try go_wp2_with (first | (go_at_call 21; (with_reducible refine (rat_Right.calls kj17 x261000_10 x261001_17 false _ A24.out).mono ?_); rintro e w43 ⟨rfl, hb⟩; have n0_ := Aside0.mk (bkB BK259.out hb); have n1_ := Aside0.mk (bkB BK260.out hb); have n2_ := Aside0.mk (below_step (belS HB.out) hb); clear BK259; clear BK260; clear HB; have BK259 := n0_; have BK260 := n1_; have HB := n2_; clear n0_ n1_ n2_; (try clear hb); have hcz44_0 : w43.cell? ⟨gb259, 0, none⟩ = some (.int .i64 0) := (blk_cell BK259.out 0).trans rfl; have hcz44_1 : w43.cell? ⟨gb259, 1, none⟩ = some (.int .i64 0) := (blk_cell BK259.out 1).trans rfl; have hfz44_0 := blk_frozen BK259.out 0; have hfz44_1 := blk_frozen BK259.out 1)))
          refine bodyPost_ret (results_ct rfl _ _ gb259 23 #[.int .i64 0, .int .i64 0] (0, 0) _ rfl (by (with_reducible repeat (first | refine blk_drewN ?_ _ | refine blk_drew ?_ | refine blk_alloc ?_ _)); refine blk_put (cs := #[.int .i64 0, .int .i64 0]) ?_ 1 _ rfl; (with_reducible repeat (first | refine blk_drewN ?_ _ | refine blk_drew ?_ | refine blk_alloc ?_ _)); refine blk_put (cs := #[.int .i64 0, .int .i64 0]) ?_ 0 _ rfl; (with_reducible repeat (first | refine blk_drewN ?_ _ | refine blk_drew ?_ | refine blk_alloc ?_ _)); exact BK259.out) Try.underlying23 rfl (by kernel_rfl)) rfl ?_
          exact ⟨by first | rfl | (simp [errW_none, errW_some] <;> rfl) | (simp [*, errW_none, errW_some] <;> rfl), (belS HB.out)⟩

end Go.Proofs.Ytbkldplhaeaphaa.PRatNumbers

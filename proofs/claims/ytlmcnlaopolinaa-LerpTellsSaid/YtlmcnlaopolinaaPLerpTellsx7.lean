/- The walk of the Go functions that a law reaches, told as plain functions; a program of this session has written it. No condition beyond the statement's own. -/
import Derived.Test.YtlmcnlaopolinaaPLerpTellsx0
import Derived.Test.YtlmcnlaopolinaaPLerpTellsx1
import Derived.Test.YtlmcnlaopolinaaPLerpTellsx2
import Derived.Test.YtlmcnlaopolinaaPLerpTellsx5
import Derived.Test.YtlmcnlaopolinaaPLerpTellsx6
namespace Go.Proofs.Ytlmcnlaopolinaa.PLerpTells
open Go.RowKit Go.Proofs.YtlmcnlaopolinaaW.PrintWords Go.Proofs.YtlmcnlaopolinaaW.PrintLast Go.Proofs.YtlmcnlaopolinaaW.PrintMore
attribute [local go_sem] max2_int min2_int max_two min_two max_three min_three max_four min_four   -- for this text's walks alone
set_option linter.unusedVariables false
set_option linter.unusedSimpArgs false

attribute [local go_sem high] eqA24
/-! ### marigraphref21_Between: function 16 -/
def marigraphref21_Between.j0 : Nat → Int → Bool → Int → Int → Int → Int → Int → Int → Option (Int × Int × Int)
 | 0, _, _, _, _, _, _, _, _ => none
 | k + 1, x2, x39, x231000, x231001, x231002, x232000, x232001, x232002 => if x39 = true then (some (0, 0, 1)) else (if x2 = x231000 then (some (x231001, x231002, 0)) else (if x2 = x232000 then (some (x232001, x232002, 0)) else ((marigraphref1_Op.f k 45 x232001 x232002 x231001 x231002).bind fun bt235 => (if bt235.2.2 = 0 then ((marigraphref1_New.f k (wrap64 (x2 - x231000)) (wrap64 (x232000 - x231000))).bind fun bt239 => (if bt239.2.2 = 0 then ((marigraphref1_Op.f k 42 bt235.1 bt235.2.1 bt239.1 bt239.2.1).bind fun bt243 => (if bt243.2.2 = 0 then ((marigraphref1_Op.f k 43 bt243.1 bt243.2.1 x231001 x231002).bind fun bt246 => (some (bt246.1, bt246.2.1, bt246.2.2))) else (some (0, 0, bt243.2.2)))) else (some (0, 0, bt239.2.2)))) else (some (0, 0, bt235.2.2))))))
def marigraphref21_Between.f (k : Nat) (a0_0 : Int) (a0_1 : Int) (a0_2 : Int) (a1_0 : Int) (a1_1 : Int) (a1_2 : Int) (a2 : Int) : Option (Int × Int × Int) := if a0_0 ≥ a1_0 then (marigraphref21_Between.j0 k a2 true a0_0 a0_1 a0_2 a1_0 a1_1 a1_2) else (if a2 < a0_0 then (marigraphref21_Between.j0 k a2 true a0_0 a0_1 a0_2 a1_0 a1_1 a1_2) else (if a2 > a1_0 then (marigraphref21_Between.j0 k a2 true a0_0 a0_1 a0_2 a1_0 a1_1 a1_2) else ((marigraphref1_Right.f k a0_1 a0_2).bind fun t233 => (if t233 = true then ((marigraphref1_Right.f k a1_1 a1_2).bind fun t234 => (marigraphref21_Between.j0 k a2 (!t234) a0_0 a0_1 a0_2 a1_0 a1_1 a1_2)) else (marigraphref21_Between.j0 k a2 true a0_0 a0_1 a0_2 a1_0 a1_1 a1_2)))))
theorem marigraphref21_Between.mono_l : ∀ k, (∀ y0 y1 y2 y3 y4 y5 y6 y7, LeO (marigraphref21_Between.j0 k y0 y1 y2 y3 y4 y5 y6 y7) (marigraphref21_Between.j0 (k + 1) y0 y1 y2 y3 y4 y5 y6 y7))
 | 0 => fun _ _ _ _ _ _ _ _ r h => by simp [marigraphref21_Between.j0] at h
 | k + 1 => by
  have ih0 := marigraphref21_Between.mono_l k
  ·intro y0 y1 y2 y3 y4 y5 y6 y7
   unfold marigraphref21_Between.j0
   repeat' first
   | (with_reducible exact ih0 _ _ _ _ _ _ _ _)
   | (with_reducible exact marigraphref1_New.mono _ _ _)
   | (with_reducible exact marigraphref1_Op.mono _ _ _ _ _ _)
   | (with_reducible exact marigraphref1_Right.mono _ _ _)
   | (with_reducible exact LeO.refl _)
   | (with_reducible exact LeO.none _)
   | (with_reducible refine LeO.ite ?_ ?_)
   | (with_reducible refine LeO.bind ?_ (fun _ => ?_))
   | exact ih0 _ _ _ _ _ _ _ _
   | exact marigraphref1_New.mono _ _ _
   | exact marigraphref1_Op.mono _ _ _ _ _ _
   | exact marigraphref1_Right.mono _ _ _
   | exact LeO.none _
   | refine LeO.ite ?_ ?_
   | refine LeO.bind ?_ (fun _ => ?_)
theorem marigraphref21_Between.mono : ∀ a0 a1 a2 a3 a4 a5 a6 k, LeO (marigraphref21_Between.f k a0 a1 a2 a3 a4 a5 a6) (marigraphref21_Between.f (k + 1) a0 a1 a2 a3 a4 a5 a6) := by
 intro a0 a1 a2 a3 a4 a5 a6 k
 have ih0 := marigraphref21_Between.mono_l k
 unfold marigraphref21_Between.f
 repeat' first
   | (with_reducible exact ih0 _ _ _ _ _ _ _ _)
   | (with_reducible exact marigraphref1_New.mono _ _ _)
   | (with_reducible exact marigraphref1_Op.mono _ _ _ _ _ _)
   | (with_reducible exact marigraphref1_Right.mono _ _ _)
   | (with_reducible exact LeO.refl _)
   | (with_reducible exact LeO.none _)
   | (with_reducible refine LeO.ite ?_ ?_)
   | (with_reducible refine LeO.bind ?_ (fun _ => ?_))
   | exact ih0 _ _ _ _ _ _ _ _
   | exact marigraphref1_New.mono _ _ _
   | exact marigraphref1_Op.mono _ _ _ _ _ _
   | exact marigraphref1_Right.mono _ _ _
   | exact LeO.none _
   | refine LeO.ite ?_ ?_
   | refine LeO.bind ?_ (fun _ => ?_)
set_option maxHeartbeats 8000000 in
set_option maxRecDepth 100000 in
theorem marigraphref21_Between.calls (k : Nat) (a0_0 : Int) (a0_1 : Int) (a0_2 : Int) (a1_0 : Int) (a1_1 : Int) (a1_2 : Int) (a2 : Int) (r1 : Int) (r2 : Int) (r3 : Int) (w : World) (h : marigraphref21_Between.f k a0_0 a0_1 a0_2 a1_0 a1_1 a1_2 a2 = some (r1, r2, r3)) :
  Calls Try.prog 16 #[.agg #[.int .i64 a0_0, .int .i64 a0_1, .int .i64 a0_2], .agg #[.int .i64 a1_0, .int .i64 a1_1, .int .i64 a1_2], .int .i64 a2] w fun e w' => e = .returned (.tuple #[.agg #[.int .i64 r1, .int .i64 r2], .int .i64 r3]) ∧ Below w.heap.size w w' := by
 have hu26 := Try.underlying26
 have hu24 := Try.underlying24
 have HB := Aside0.mk (Below.refl w.heap.size w)
 have H : (if a0_0 ≥ a1_0 then (marigraphref21_Between.j0 k a2 true a0_0 a0_1 a0_2 a1_0 a1_1 a1_2) else (if a2 < a0_0 then (marigraphref21_Between.j0 k a2 true a0_0 a0_1 a0_2 a1_0 a1_1 a1_2) else (if a2 > a1_0 then (marigraphref21_Between.j0 k a2 true a0_0 a0_1 a0_2 a1_0 a1_1 a1_2) else ((marigraphref1_Right.f k a0_1 a0_2).bind fun t233 => (if t233 = true then ((marigraphref1_Right.f k a1_1 a1_2).bind fun t234 => (marigraphref21_Between.j0 k a2 (!t234) a0_0 a0_1 a0_2 a1_0 a1_1 a1_2)) else (marigraphref21_Between.j0 k a2 true a0_0 a0_1 a0_2 a1_0 a1_1 a1_2)))))) = some (r1, r2, r3) := h
 clear h
 have HC4 := Aside0.mk H
 clear H
 go_enter Try.func16, Try.ntmps16
 go_upto_region 1 with (first | ((with_reducible refine gate_dst (N := 3) rfl ?_); refine box_event ?hg (N := 3) ?hd (cs := #[.int .i64 a0_0, .int .i64 a0_1, .int .i64 a0_2]) (t := 26) ?hr ?_; (case hd => rfl); (case hg => rfl); (case hr => first | (go_simp; done) | (go_simp; rfl)); intro gb230 hg w5 hbox hb; have n0_ := Aside0.mk (below_step (belN HB.out) hb); have n1_ := Aside0.mk (hbox); have n2_ := Aside0.mk (szB hg HB.out); have n3_ := Aside0.mk (szB hg HB.out); clear HB; have HB := n0_; have BK230 := n1_; have GW230 := n2_; have GE230 := n3_; clear n0_ n1_ n2_ n3_; clear hb hbox hg) | ((with_reducible refine gate_dst (N := 4) rfl ?_); refine box_event ?hg (N := 4) ?hd (cs := #[.int .i64 a1_0, .int .i64 a1_1, .int .i64 a1_2]) (t := 26) ?hr ?_; (case hd => rfl); (case hg => rfl); (case hr => first | (go_simp; done) | (go_simp; rfl)); intro gb231 hg w6 hbox hb; have n0_ := Aside0.mk (bkB BK230.out hb); have n1_ := Aside0.mk (below_step (belS HB.out) hb); have n2_ := Aside0.mk (hbox); have n3_ := Aside0.mk (szB hg HB.out); have n4_ := Aside0.mk (szB hg HB.out); have n5_ := Aside0.mk ((bk1 hg BK230.out)); have n6_ := Aside0.mk ((bk2 hg BK230.out)); clear BK230; clear HB; have BK230 := n0_; have HB := n1_; have BK231 := n2_; have GW231 := n3_; have GE231 := n4_; have NB230_231 := n5_; have NB231_230 := n6_; clear n0_ n1_ n2_ n3_ n4_ n5_ n6_; clear hb hbox hg) | ((with_reducible refine gate_dst (N := 6) rfl ?_); refine box_event ?hg (N := 6) ?hd (cs := #[.int .i64 0, .int .i64 0]) (t := 24) ?hr ?_; (case hd => rfl); (case hg => rfl); (case hr => first | (go_simp; done) | (go_simp; rfl)); intro gb232 hg w7 hbox hb; have n0_ := Aside0.mk (bkB BK230.out hb); have n1_ := Aside0.mk (bkB BK231.out hb); have n2_ := Aside0.mk (below_step (belS HB.out) hb); have n3_ := Aside0.mk (hbox); have n4_ := Aside0.mk (szB hg HB.out); have n5_ := Aside0.mk (szB hg HB.out); have n6_ := Aside0.mk ((bk1 hg BK230.out)); have n7_ := Aside0.mk ((bk2 hg BK230.out)); have n8_ := Aside0.mk ((bk1 hg BK231.out)); have n9_ := Aside0.mk ((bk2 hg BK231.out)); clear BK230; clear BK231; clear HB; have BK230 := n0_; have BK231 := n1_; have HB := n2_; have BK232 := n3_; have GW232 := n4_; have GE232 := n5_; have NB230_232 := n6_; have NB232_230 := n7_; have NB231_232 := n8_; have NB232_231 := n9_; clear n0_ n1_ n2_ n3_ n4_ n5_ n6_ n7_ n8_ n9_; clear hb hbox hg))
 (try simp only [Act.put, List.setIfInBounds_toArray, List.set_cons_zero, List.set_cons_succ])
 go_cut [39] (fun v39 wc => ∃ (kq : Nat) (x39_3 : Bool), v39 = .bool x39_3 ∧ Aside0 (marigraphref21_Between.j0 kq a2 x39_3 a0_0 a0_1 a0_2 a1_0 a1_1 a1_2 = some (r1, r2, r3)) ∧ Aside0 (kq ≤ k) ∧ Aside0 (wc.heap[gb230]? = some (.cells #[.int .i64 a0_0, .int .i64 a0_1, .int .i64 a0_2] 26 (0, 0))) ∧ Aside0 (wc.heap[gb231]? = some (.cells #[.int .i64 a1_0, .int .i64 a1_1, .int .i64 a1_2] 26 (0, 0))) ∧ Aside0 (wc.heap[gb232]? = some (.cells #[.int .i64 0, .int .i64 0] 24 (0, 0))) ∧ Aside0 (Below w.heap.size w wc))
 case first =>
  have H := HC4.out
  clear HC4
  by_cases c8 : a0_0 ≥ a1_0
  ·rw [if_pos c8] at H
   have c8b0 : decide (a1_0 ≤ a0_0) = true := decide_eq_true c8
   clear c8
   (first | rw [c8b0] | rw [c8b1] | (simp only [i64_w, i32_w]; rw [c8b0]) | skip)
   have H' := Aside0.mk H
   clear H
   have hnb9 := NB230_231.out
   have hnc9 := NB231_230.out
   have hnb10 := NB230_232.out
   have hnc10 := NB232_230.out
   have hcz11_0 : w7.cell? ⟨gb230, 0, none⟩ = some (.int .i64 a0_0) := (blk_cell BK230.out 0).trans rfl
   have hcz11_1 : w7.cell? ⟨gb230, 1, none⟩ = some (.int .i64 a0_1) := (blk_cell BK230.out 1).trans rfl
   have hcz11_2 : w7.cell? ⟨gb230, 2, none⟩ = some (.int .i64 a0_2) := (blk_cell BK230.out 2).trans rfl
   have hfz11_0 := blk_frozen BK230.out 0
   have hfz11_1 := blk_frozen BK230.out 1
   have hfz11_2 := blk_frozen BK230.out 2
   have hnb12 := NB231_232.out
   have hnc12 := NB232_231.out
   have hcz13_0 : w7.cell? ⟨gb231, 0, none⟩ = some (.int .i64 a1_0) := (blk_cell BK231.out 0).trans rfl
   have hcz13_1 : w7.cell? ⟨gb231, 1, none⟩ = some (.int .i64 a1_1) := (blk_cell BK231.out 1).trans rfl
   have hcz13_2 : w7.cell? ⟨gb231, 2, none⟩ = some (.int .i64 a1_2) := (blk_cell BK231.out 2).trans rfl
   have hfz13_0 := blk_frozen BK231.out 0
   have hfz13_1 := blk_frozen BK231.out 1
   have hfz13_2 := blk_frozen BK231.out 2
   go_wp2
   go_meet
   case rel => exact ⟨_, (true), (by first | rfl | (simp; done) | (simp [*]; done)), H', ⟨by first | omega | exact Nat.le_refl _⟩, ⟨blkN BK230.out⟩, ⟨blkN BK231.out⟩, ⟨blkN BK232.out⟩, ⟨(belS HB.out)⟩⟩
  ·rw [if_neg c8] at H
   have c8b0 : decide (a1_0 ≤ a0_0) = false := decide_eq_false c8
   clear c8
   (first | rw [c8b0] | rw [c8b1] | (simp only [i64_w, i32_w]; rw [c8b0]) | skip)
   by_cases c14 : a2 < a0_0
   ·rw [if_pos c14] at H
    have c14b0 : decide (a2 < a0_0) = true := decide_eq_true c14
    clear c14
    have H' := Aside0.mk H
    clear H
    have hnb15 := NB230_231.out
    have hnc15 := NB231_230.out
    have hnb16 := NB230_232.out
    have hnc16 := NB232_230.out
    have hcz17_0 : w7.cell? ⟨gb230, 0, none⟩ = some (.int .i64 a0_0) := (blk_cell BK230.out 0).trans rfl
    have hcz17_1 : w7.cell? ⟨gb230, 1, none⟩ = some (.int .i64 a0_1) := (blk_cell BK230.out 1).trans rfl
    have hcz17_2 : w7.cell? ⟨gb230, 2, none⟩ = some (.int .i64 a0_2) := (blk_cell BK230.out 2).trans rfl
    have hfz17_0 := blk_frozen BK230.out 0
    have hfz17_1 := blk_frozen BK230.out 1
    have hfz17_2 := blk_frozen BK230.out 2
    have hnb18 := NB231_232.out
    have hnc18 := NB232_231.out
    have hcz19_0 : w7.cell? ⟨gb231, 0, none⟩ = some (.int .i64 a1_0) := (blk_cell BK231.out 0).trans rfl
    have hcz19_1 : w7.cell? ⟨gb231, 1, none⟩ = some (.int .i64 a1_1) := (blk_cell BK231.out 1).trans rfl
    have hcz19_2 : w7.cell? ⟨gb231, 2, none⟩ = some (.int .i64 a1_2) := (blk_cell BK231.out 2).trans rfl
    have hfz19_0 := blk_frozen BK231.out 0
    have hfz19_1 := blk_frozen BK231.out 1
    have hfz19_2 := blk_frozen BK231.out 2
    go_wp2
    go_meet
    case rel => exact ⟨_, (true), (by first | rfl | (simp; done) | (simp [*]; done)), H', ⟨by first | omega | exact Nat.le_refl _⟩, ⟨blkN BK230.out⟩, ⟨blkN BK231.out⟩, ⟨blkN BK232.out⟩, ⟨(belS HB.out)⟩⟩
   ·rw [if_neg c14] at H
    have c14b0 : decide (a2 < a0_0) = false := decide_eq_false c14
    clear c14
    by_cases c20 : a2 > a1_0
    ·rw [if_pos c20] at H
     have c20b0 : decide (a1_0 < a2) = true := decide_eq_true c20
     clear c20
     have H' := Aside0.mk H
     clear H
     have hnb21 := NB230_231.out
     have hnc21 := NB231_230.out
     have hnb22 := NB230_232.out
     have hnc22 := NB232_230.out
     have hcz23_0 : w7.cell? ⟨gb230, 0, none⟩ = some (.int .i64 a0_0) := (blk_cell BK230.out 0).trans rfl
     have hcz23_1 : w7.cell? ⟨gb230, 1, none⟩ = some (.int .i64 a0_1) := (blk_cell BK230.out 1).trans rfl
     have hcz23_2 : w7.cell? ⟨gb230, 2, none⟩ = some (.int .i64 a0_2) := (blk_cell BK230.out 2).trans rfl
     have hfz23_0 := blk_frozen BK230.out 0
     have hfz23_1 := blk_frozen BK230.out 1
     have hfz23_2 := blk_frozen BK230.out 2
     have hnb24 := NB231_232.out
     have hnc24 := NB232_231.out
     have hcz25_0 : w7.cell? ⟨gb231, 0, none⟩ = some (.int .i64 a1_0) := (blk_cell BK231.out 0).trans rfl
     have hcz25_1 : w7.cell? ⟨gb231, 1, none⟩ = some (.int .i64 a1_1) := (blk_cell BK231.out 1).trans rfl
     have hcz25_2 : w7.cell? ⟨gb231, 2, none⟩ = some (.int .i64 a1_2) := (blk_cell BK231.out 2).trans rfl
     have hfz25_0 := blk_frozen BK231.out 0
     have hfz25_1 := blk_frozen BK231.out 1
     have hfz25_2 := blk_frozen BK231.out 2
     go_wp2
     go_meet
     case rel => exact ⟨_, (true), (by first | rfl | (simp; done) | (simp [*]; done)), H', ⟨by first | omega | exact Nat.le_refl _⟩, ⟨blkN BK230.out⟩, ⟨blkN BK231.out⟩, ⟨blkN BK232.out⟩, ⟨(belS HB.out)⟩⟩
    ·rw [if_neg c20] at H
     have c20b0 : decide (a1_0 < a2) = false := decide_eq_false c20
     clear c20
     replace H := Option.bind_eq_some_iff.mp H
     obtain ⟨t233, A260, H⟩ := H
     replace H : (if t233 = true then ((marigraphref1_Right.f k a1_1 a1_2).bind fun t234 => (marigraphref21_Between.j0 k a2 (!t234) a0_0 a0_1 a0_2 a1_0 a1_1 a1_2)) else (marigraphref21_Between.j0 k a2 true a0_0 a0_1 a0_2 a1_0 a1_1 a1_2)) = some (r1, r2, r3) := H
     have A26 := Aside0.mk A260
     clear A260
     by_cases c27 : t233 = true
     ·subst c27
      have H1 : ((marigraphref1_Right.f k a1_1 a1_2).bind fun t234 => (marigraphref21_Between.j0 k a2 (!t234) a0_0 a0_1 a0_2 a1_0 a1_1 a1_2)) = some (r1, r2, r3) := by rw [if_pos rfl] at H; exact H
      clear H
      have H := H1
      clear H1
      replace H := Option.bind_eq_some_iff.mp H
      obtain ⟨t234, A280, H⟩ := H
      replace H : (marigraphref21_Between.j0 k a2 (!t234) a0_0 a0_1 a0_2 a1_0 a1_1 a1_2) = some (r1, r2, r3) := H
      have A28 := Aside0.mk A280
      clear A280
      have H' := Aside0.mk H
      clear H
      have hnb29 := NB230_231.out
      have hnc29 := NB231_230.out
      have hnb30 := NB230_232.out
      have hnc30 := NB232_230.out
      have hcz31_0 : w7.cell? ⟨gb230, 0, none⟩ = some (.int .i64 a0_0) := (blk_cell BK230.out 0).trans rfl
      have hcz31_1 : w7.cell? ⟨gb230, 1, none⟩ = some (.int .i64 a0_1) := (blk_cell BK230.out 1).trans rfl
      have hcz31_2 : w7.cell? ⟨gb230, 2, none⟩ = some (.int .i64 a0_2) := (blk_cell BK230.out 2).trans rfl
      have hfz31_0 := blk_frozen BK230.out 0
      have hfz31_1 := blk_frozen BK230.out 1
      have hfz31_2 := blk_frozen BK230.out 2
      have hnb32 := NB231_232.out
      have hnc32 := NB232_231.out
      have hcz33_0 : w7.cell? ⟨gb231, 0, none⟩ = some (.int .i64 a1_0) := (blk_cell BK231.out 0).trans rfl
      have hcz33_1 : w7.cell? ⟨gb231, 1, none⟩ = some (.int .i64 a1_1) := (blk_cell BK231.out 1).trans rfl
      have hcz33_2 : w7.cell? ⟨gb231, 2, none⟩ = some (.int .i64 a1_2) := (blk_cell BK231.out 2).trans rfl
      have hfz33_0 := blk_frozen BK231.out 0
      have hfz33_1 := blk_frozen BK231.out 1
      have hfz33_2 := blk_frozen BK231.out 2
      go_wp2_with (first | (go_at_call 30; (with_reducible refine (marigraphref1_Right.calls k a0_1 a0_2 true _ A26.out).mono ?_); rintro e w34 ⟨rfl, hb⟩; have n0_ := Aside0.mk (bkB BK230.out hb); have n1_ := Aside0.mk (bkB BK231.out hb); have n2_ := Aside0.mk (bkB BK232.out hb); have n3_ := Aside0.mk (below_step (belS HB.out) hb); clear BK230; clear BK231; clear BK232; clear HB; have BK230 := n0_; have BK231 := n1_; have BK232 := n2_; have HB := n3_; clear n0_ n1_ n2_ n3_; (try clear hb); have hcz35_0 : w34.cell? ⟨gb231, 0, none⟩ = some (.int .i64 a1_0) := (blk_cell BK231.out 0).trans rfl; have hcz35_1 : w34.cell? ⟨gb231, 1, none⟩ = some (.int .i64 a1_1) := (blk_cell BK231.out 1).trans rfl; have hcz35_2 : w34.cell? ⟨gb231, 2, none⟩ = some (.int .i64 a1_2) := (blk_cell BK231.out 2).trans rfl; have hfz35_0 := blk_frozen BK231.out 0; have hfz35_1 := blk_frozen BK231.out 1; have hfz35_2 := blk_frozen BK231.out 2) | (go_at_call 30; (with_reducible refine (marigraphref1_Right.calls k a1_1 a1_2 t234 _ A28.out).mono ?_); rintro e w36 ⟨rfl, hb⟩; have n0_ := Aside0.mk (bkB BK230.out hb); have n1_ := Aside0.mk (bkB BK231.out hb); have n2_ := Aside0.mk (bkB BK232.out hb); have n3_ := Aside0.mk (below_step (belS HB.out) hb); clear BK230; clear BK231; clear BK232; clear HB; have BK230 := n0_; have BK231 := n1_; have BK232 := n2_; have HB := n3_; clear n0_ n1_ n2_ n3_; (try clear hb)))
      go_meet
      case rel => exact ⟨_, (!t234), (by first | rfl | (simp; done) | (simp [*]; done)), H', ⟨by first | omega | exact Nat.le_refl _⟩, ⟨blkN BK230.out⟩, ⟨blkN BK231.out⟩, ⟨blkN BK232.out⟩, ⟨(belS HB.out)⟩⟩
     ·replace c27 := Bool.eq_false_iff.mpr c27
      subst c27
      have H1 : (marigraphref21_Between.j0 k a2 true a0_0 a0_1 a0_2 a1_0 a1_1 a1_2) = some (r1, r2, r3) := by rw [if_neg (show ¬ (false = true) by decide)] at H; exact H
      clear H
      have H := H1
      clear H1
      have H' := Aside0.mk H
      clear H
      have hnb37 := NB230_231.out
      have hnc37 := NB231_230.out
      have hnb38 := NB230_232.out
      have hnc38 := NB232_230.out
      have hcz39_0 : w7.cell? ⟨gb230, 0, none⟩ = some (.int .i64 a0_0) := (blk_cell BK230.out 0).trans rfl
      have hcz39_1 : w7.cell? ⟨gb230, 1, none⟩ = some (.int .i64 a0_1) := (blk_cell BK230.out 1).trans rfl
      have hcz39_2 : w7.cell? ⟨gb230, 2, none⟩ = some (.int .i64 a0_2) := (blk_cell BK230.out 2).trans rfl
      have hfz39_0 := blk_frozen BK230.out 0
      have hfz39_1 := blk_frozen BK230.out 1
      have hfz39_2 := blk_frozen BK230.out 2
      have hnb40 := NB231_232.out
      have hnc40 := NB232_231.out
      have hcz41_0 : w7.cell? ⟨gb231, 0, none⟩ = some (.int .i64 a1_0) := (blk_cell BK231.out 0).trans rfl
      have hcz41_1 : w7.cell? ⟨gb231, 1, none⟩ = some (.int .i64 a1_1) := (blk_cell BK231.out 1).trans rfl
      have hcz41_2 : w7.cell? ⟨gb231, 2, none⟩ = some (.int .i64 a1_2) := (blk_cell BK231.out 2).trans rfl
      have hfz41_0 := blk_frozen BK231.out 0
      have hfz41_1 := blk_frozen BK231.out 1
      have hfz41_2 := blk_frozen BK231.out 2
      go_wp2_with (first | (go_at_call 30; (with_reducible refine (marigraphref1_Right.calls k a0_1 a0_2 false _ A26.out).mono ?_); rintro e w42 ⟨rfl, hb⟩; have n0_ := Aside0.mk (bkB BK230.out hb); have n1_ := Aside0.mk (bkB BK231.out hb); have n2_ := Aside0.mk (bkB BK232.out hb); have n3_ := Aside0.mk (below_step (belS HB.out) hb); clear BK230; clear BK231; clear BK232; clear HB; have BK230 := n0_; have BK231 := n1_; have BK232 := n2_; have HB := n3_; clear n0_ n1_ n2_ n3_; (try clear hb)))
      go_meet
      case rel => exact ⟨_, (true), (by first | rfl | (simp; done) | (simp [*]; done)), H', ⟨by first | omega | exact Nat.le_refl _⟩, ⟨blkN BK230.out⟩, ⟨blkN BK231.out⟩, ⟨blkN BK232.out⟩, ⟨(belS HB.out)⟩⟩
 case rest =>
  clear HC4
  try clear c1
  try clear c2
  try clear p2
  try clear c3
  try clear c4
  try clear c8
  try clear c8b0
  try clear c9
  try clear c10
  try clear c12
  try clear c14
  try clear c14b0
  try clear c15
  try clear c16
  try clear c18
  try clear c20
  try clear c20b0
  try clear c21
  try clear c22
  try clear c24
  try clear c27
  try clear c29
  try clear c30
  try clear c32
  try clear c37
  try clear c38
  try clear c40
  try clear hcz11_0
  try clear hcz11_1
  try clear hcz11_2
  try clear hcz13_0
  try clear hcz13_1
  try clear hcz13_2
  try clear hcz17_0
  try clear hcz17_1
  try clear hcz17_2
  try clear hcz19_0
  try clear hcz19_1
  try clear hcz19_2
  try clear hcz23_0
  try clear hcz23_1
  try clear hcz23_2
  try clear hcz25_0
  try clear hcz25_1
  try clear hcz25_2
  try clear hcz31_0
  try clear hcz31_1
  try clear hcz31_2
  try clear hcz33_0
  try clear hcz33_1
  try clear hcz33_2
  try clear hcz35_0
  try clear hcz35_1
  try clear hcz35_2
  try clear hcz39_0
  try clear hcz39_1
  try clear hcz39_2
  try clear hcz41_0
  try clear hcz41_1
  try clear hcz41_2
  try clear hfz11_0
  try clear hfz11_1
  try clear hfz11_2
  try clear hfz13_0
  try clear hfz13_1
  try clear hfz13_2
  try clear hfz17_0
  try clear hfz17_1
  try clear hfz17_2
  try clear hfz19_0
  try clear hfz19_1
  try clear hfz19_2
  try clear hfz23_0
  try clear hfz23_1
  try clear hfz23_2
  try clear hfz25_0
  try clear hfz25_1
  try clear hfz25_2
  try clear hfz31_0
  try clear hfz31_1
  try clear hfz31_2
  try clear hfz33_0
  try clear hfz33_1
  try clear hfz33_2
  try clear hfz35_0
  try clear hfz35_1
  try clear hfz35_2
  try clear hfz39_0
  try clear hfz39_1
  try clear hfz39_2
  try clear hfz41_0
  try clear hfz41_1
  try clear hfz41_2
  obtain ⟨kq, x39_3, rfl, HA, HJ3, BK230, BK231, BK232, HB⟩ := hcut
  cases kq with
  | zero => exact absurd HA.out (by simp [marigraphref21_Between.j0])
  | succ kj3 =>
   have H := HA.out
   clear HA
   simp only [marigraphref21_Between.j0] at H
   by_cases c43 : x39_3 = true
   ·subst c43
    have H1 : (some (0, 0, 1)) = some (r1, r2, r3) := by rw [if_pos rfl] at H; exact H
    clear H
    have H := H1
    clear H1
    simp only [Option.some.injEq, Prod.mk.injEq] at H
    obtain ⟨rfl, rfl, rfl⟩ := H
    have hnb44 := NB232_230.out
    have hnc44 := NB230_232.out
    have hnb45 := NB232_231.out
    have hnc45 := NB231_232.out
    have hcz46_0 : wc.cell? ⟨gb232, 0, none⟩ = some (.int .i64 0) := (blk_cell BK232.out 0).trans rfl
    have hcz46_1 : wc.cell? ⟨gb232, 1, none⟩ = some (.int .i64 0) := (blk_cell BK232.out 1).trans rfl
    have hfz46_0 := blk_frozen BK232.out 0
    have hfz46_1 := blk_frozen BK232.out 1
    go_wp2
    refine bodyPost_ret (results_ct rfl _ _ gb232 24 #[.int .i64 0, .int .i64 0] (0, 0) _ rfl (by (with_reducible repeat (first | refine blk_drewN ?_ _ | refine blk_drew ?_ | refine blk_alloc ?_ _)); refine blk_put (cs := #[.int .i64 0, .int .i64 0]) ?_ 1 _ rfl; (with_reducible repeat (first | refine blk_drewN ?_ _ | refine blk_drew ?_ | refine blk_alloc ?_ _)); refine blk_put (cs := #[.int .i64 0, .int .i64 0]) ?_ 0 _ rfl; (with_reducible repeat (first | refine blk_drewN ?_ _ | refine blk_drew ?_ | refine blk_alloc ?_ _)); exact BK232.out) Try.underlying24 rfl (by kernel_rfl)) rfl ?_
    exact ⟨by first | rfl | (simp [errW_none, errW_some] <;> rfl) | (simp [*, errW_none, errW_some] <;> rfl), (belS HB.out)⟩
   ·replace c43 := Bool.eq_false_iff.mpr c43
    subst c43
    have H1 : (if a2 = a0_0 then (some (a0_1, a0_2, 0)) else (if a2 = a1_0 then (some (a1_1, a1_2, 0)) else ((marigraphref1_Op.f kj3 45 a1_1 a1_2 a0_1 a0_2).bind fun bt235 => (if bt235.2.2 = 0 then ((marigraphref1_New.f kj3 (wrap64 (a2 - a0_0)) (wrap64 (a1_0 - a0_0))).bind fun bt239 => (if bt239.2.2 = 0 then ((marigraphref1_Op.f kj3 42 bt235.1 bt235.2.1 bt239.1 bt239.2.1).bind fun bt243 => (if bt243.2.2 = 0 then ((marigraphref1_Op.f kj3 43 bt243.1 bt243.2.1 a0_1 a0_2).bind fun bt246 => (some (bt246.1, bt246.2.1, bt246.2.2))) else (some (0, 0, bt243.2.2)))) else (some (0, 0, bt239.2.2)))) else (some (0, 0, bt235.2.2)))))) = some (r1, r2, r3) := by rw [if_neg (show ¬ (false = true) by decide)] at H; exact H
    clear H
    have H := H1
    clear H1
    by_cases c47 : a2 = a0_0
    ·rw [if_pos c47] at H
     have c47b0 : (a2 == a0_0) = true := beq_iff_eq.mpr c47
     have c47b1 : (a2 != a0_0) = false := bne_eq_false_iff_eq.mpr c47
     clear c47
     simp only [Option.some.injEq, Prod.mk.injEq] at H
     obtain ⟨rfl, rfl, rfl⟩ := H
     have hnb48 := NB230_231.out
     have hnc48 := NB231_230.out
     have hnb49 := NB230_232.out
     have hnc49 := NB232_230.out
     have hcz50_0 : wc.cell? ⟨gb230, 0, none⟩ = some (.int .i64 a0_0) := (blk_cell BK230.out 0).trans rfl
     have hcz50_1 : wc.cell? ⟨gb230, 1, none⟩ = some (.int .i64 a0_1) := (blk_cell BK230.out 1).trans rfl
     have hcz50_2 : wc.cell? ⟨gb230, 2, none⟩ = some (.int .i64 a0_2) := (blk_cell BK230.out 2).trans rfl
     have hfz50_0 := blk_frozen BK230.out 0
     have hfz50_1 := blk_frozen BK230.out 1
     have hfz50_2 := blk_frozen BK230.out 2
     have hnb51 := NB232_231.out
     have hnc51 := NB231_232.out
     have hcz52_0 : wc.cell? ⟨gb232, 0, none⟩ = some (.int .i64 0) := (blk_cell BK232.out 0).trans rfl
     have hcz52_1 : wc.cell? ⟨gb232, 1, none⟩ = some (.int .i64 0) := (blk_cell BK232.out 1).trans rfl
     have hfz52_0 := blk_frozen BK232.out 0
     have hfz52_1 := blk_frozen BK232.out 1
     go_wp2
     refine bodyPost_ret (results_ct rfl _ _ gb232 24 #[.int .i64 a0_1, .int .i64 a0_2] (0, 0) _ rfl (by (with_reducible repeat (first | refine blk_drewN ?_ _ | refine blk_drew ?_ | refine blk_alloc ?_ _)); refine blk_put (cs := #[.int .i64 a0_1, .int .i64 0]) ?_ 1 _ rfl; (with_reducible repeat (first | refine blk_drewN ?_ _ | refine blk_drew ?_ | refine blk_alloc ?_ _)); refine blk_put (cs := #[.int .i64 0, .int .i64 0]) ?_ 0 _ rfl; (with_reducible repeat (first | refine blk_drewN ?_ _ | refine blk_drew ?_ | refine blk_alloc ?_ _)); exact BK232.out) Try.underlying24 rfl (by kernel_rfl)) rfl ?_
     exact ⟨by first | rfl | (simp [errW_none, errW_some] <;> rfl) | (simp [*, errW_none, errW_some] <;> rfl), (belS HB.out)⟩
    ·rw [if_neg c47] at H
     have c47b0 : (a2 == a0_0) = false := beq_eq_false_iff_ne.mpr c47
     have c47b1 : (a2 != a0_0) = true := bne_iff_ne.mpr c47
     by_cases c53 : a2 = a1_0
     ·rw [if_pos c53] at H
      have c53b0 : (a2 == a1_0) = true := beq_iff_eq.mpr c53
      have c53b1 : (a2 != a1_0) = false := bne_eq_false_iff_eq.mpr c53
      clear c53
      simp only [Option.some.injEq, Prod.mk.injEq] at H
      obtain ⟨rfl, rfl, rfl⟩ := H
      have hnb54 := NB230_231.out
      have hnc54 := NB231_230.out
      have hnb55 := NB230_232.out
      have hnc55 := NB232_230.out
      have hcz56_0 : wc.cell? ⟨gb230, 0, none⟩ = some (.int .i64 a0_0) := (blk_cell BK230.out 0).trans rfl
      have hcz56_1 : wc.cell? ⟨gb230, 1, none⟩ = some (.int .i64 a0_1) := (blk_cell BK230.out 1).trans rfl
      have hcz56_2 : wc.cell? ⟨gb230, 2, none⟩ = some (.int .i64 a0_2) := (blk_cell BK230.out 2).trans rfl
      have hfz56_0 := blk_frozen BK230.out 0
      have hfz56_1 := blk_frozen BK230.out 1
      have hfz56_2 := blk_frozen BK230.out 2
      have hnb57 := NB231_232.out
      have hnc57 := NB232_231.out
      have hcz58_0 : wc.cell? ⟨gb231, 0, none⟩ = some (.int .i64 a1_0) := (blk_cell BK231.out 0).trans rfl
      have hcz58_1 : wc.cell? ⟨gb231, 1, none⟩ = some (.int .i64 a1_1) := (blk_cell BK231.out 1).trans rfl
      have hcz58_2 : wc.cell? ⟨gb231, 2, none⟩ = some (.int .i64 a1_2) := (blk_cell BK231.out 2).trans rfl
      have hfz58_0 := blk_frozen BK231.out 0
      have hfz58_1 := blk_frozen BK231.out 1
      have hfz58_2 := blk_frozen BK231.out 2
      have hcz59_0 : wc.cell? ⟨gb232, 0, none⟩ = some (.int .i64 0) := (blk_cell BK232.out 0).trans rfl
      have hcz59_1 : wc.cell? ⟨gb232, 1, none⟩ = some (.int .i64 0) := (blk_cell BK232.out 1).trans rfl
      have hfz59_0 := blk_frozen BK232.out 0
      have hfz59_1 := blk_frozen BK232.out 1
      go_wp2
      refine bodyPost_ret (results_ct rfl _ _ gb232 24 #[.int .i64 a1_1, .int .i64 a1_2] (0, 0) _ rfl (by (with_reducible repeat (first | refine blk_drewN ?_ _ | refine blk_drew ?_ | refine blk_alloc ?_ _)); refine blk_put (cs := #[.int .i64 a1_1, .int .i64 0]) ?_ 1 _ rfl; (with_reducible repeat (first | refine blk_drewN ?_ _ | refine blk_drew ?_ | refine blk_alloc ?_ _)); refine blk_put (cs := #[.int .i64 0, .int .i64 0]) ?_ 0 _ rfl; (with_reducible repeat (first | refine blk_drewN ?_ _ | refine blk_drew ?_ | refine blk_alloc ?_ _)); exact BK232.out) Try.underlying24 rfl (by kernel_rfl)) rfl ?_
      exact ⟨by first | rfl | (simp [errW_none, errW_some] <;> rfl) | (simp [*, errW_none, errW_some] <;> rfl), (belS HB.out)⟩
     ·rw [if_neg c53] at H
      have c53b0 : (a2 == a1_0) = false := beq_eq_false_iff_ne.mpr c53
      have c53b1 : (a2 != a1_0) = true := bne_iff_ne.mpr c53
      replace H := Option.bind_eq_some_iff.mp H
      obtain ⟨⟨t235, t236, t237⟩, A600, H⟩ := H
      replace H : (if t237 = 0 then ((marigraphref1_New.f kj3 (wrap64 (a2 - a0_0)) (wrap64 (a1_0 - a0_0))).bind fun bt239 => (if bt239.2.2 = 0 then ((marigraphref1_Op.f kj3 42 t235 t236 bt239.1 bt239.2.1).bind fun bt243 => (if bt243.2.2 = 0 then ((marigraphref1_Op.f kj3 43 bt243.1 bt243.2.1 a0_1 a0_2).bind fun bt246 => (some (bt246.1, bt246.2.1, bt246.2.2))) else (some (0, 0, bt243.2.2)))) else (some (0, 0, bt239.2.2)))) else (some (0, 0, t237))) = some (r1, r2, r3) := H
      have A60 := Aside0.mk A600
      clear A600
      by_cases c61 : t237 = 0
      ·rw [if_pos c61] at H
       have c61b0 : (t237 == 0) = true := beq_iff_eq.mpr c61
       have c61b1 : (t237 != 0) = false := bne_eq_false_iff_eq.mpr c61
       clear c61
       replace H := Option.bind_eq_some_iff.mp H
       obtain ⟨⟨t239, t240, t241⟩, A620, H⟩ := H
       replace H : (if t241 = 0 then ((marigraphref1_Op.f kj3 42 t235 t236 t239 t240).bind fun bt243 => (if bt243.2.2 = 0 then ((marigraphref1_Op.f kj3 43 bt243.1 bt243.2.1 a0_1 a0_2).bind fun bt246 => (some (bt246.1, bt246.2.1, bt246.2.2))) else (some (0, 0, bt243.2.2)))) else (some (0, 0, t241))) = some (r1, r2, r3) := H
       have A62 := Aside0.mk A620
       clear A620
       by_cases c63 : t241 = 0
       ·rw [if_pos c63] at H
        have c63b0 : (t241 == 0) = true := beq_iff_eq.mpr c63
        have c63b1 : (t241 != 0) = false := bne_eq_false_iff_eq.mpr c63
        clear c63
        replace H := Option.bind_eq_some_iff.mp H
        obtain ⟨⟨t243, t244, t245⟩, A640, H⟩ := H
        replace H : (if t245 = 0 then ((marigraphref1_Op.f kj3 43 t243 t244 a0_1 a0_2).bind fun bt246 => (some (bt246.1, bt246.2.1, bt246.2.2))) else (some (0, 0, t245))) = some (r1, r2, r3) := H
        have A64 := Aside0.mk A640
        clear A640
        by_cases c65 : t245 = 0
        ·rw [if_pos c65] at H
         have c65b0 : (t245 == 0) = true := beq_iff_eq.mpr c65
         have c65b1 : (t245 != 0) = false := bne_eq_false_iff_eq.mpr c65
         clear c65
         replace H := Option.bind_eq_some_iff.mp H
         obtain ⟨⟨t246, t247, t248⟩, A660, H⟩ := H
         replace H : (some (t246, t247, t248)) = some (r1, r2, r3) := H
         have A66 := Aside0.mk A660
         clear A660
         simp only [Option.some.injEq, Prod.mk.injEq] at H
         obtain ⟨rfl, rfl, rfl⟩ := H
         have hnb67 := NB230_231.out
         have hnc67 := NB231_230.out
         have hnb68 := NB230_232.out
         have hnc68 := NB232_230.out
         have hcz69_0 : wc.cell? ⟨gb230, 0, none⟩ = some (.int .i64 a0_0) := (blk_cell BK230.out 0).trans rfl
         have hcz69_1 : wc.cell? ⟨gb230, 1, none⟩ = some (.int .i64 a0_1) := (blk_cell BK230.out 1).trans rfl
         have hcz69_2 : wc.cell? ⟨gb230, 2, none⟩ = some (.int .i64 a0_2) := (blk_cell BK230.out 2).trans rfl
         have hfz69_0 := blk_frozen BK230.out 0
         have hfz69_1 := blk_frozen BK230.out 1
         have hfz69_2 := blk_frozen BK230.out 2
         have hnb70 := NB231_232.out
         have hnc70 := NB232_231.out
         have hcz71_0 : wc.cell? ⟨gb231, 0, none⟩ = some (.int .i64 a1_0) := (blk_cell BK231.out 0).trans rfl
         have hcz71_1 : wc.cell? ⟨gb231, 1, none⟩ = some (.int .i64 a1_1) := (blk_cell BK231.out 1).trans rfl
         have hcz71_2 : wc.cell? ⟨gb231, 2, none⟩ = some (.int .i64 a1_2) := (blk_cell BK231.out 2).trans rfl
         have hfz71_0 := blk_frozen BK231.out 0
         have hfz71_1 := blk_frozen BK231.out 1
         have hfz71_2 := blk_frozen BK231.out 2
         go_wp2_with (first | ((with_reducible refine gate_callee (f := 31) rfl ?_); refine goesL_ (some 58) rfl rfl Try.func31 (by kernel_rfl) rfl #[.int .u8 45, .agg #[.int .i64 a1_1, .int .i64 a1_2], .agg #[.int .i64 a0_1, .int .i64 a0_2]] rfl argN ?_; (with_reducible refine (marigraphref1_Op.calls kj3 45 a1_1 a1_2 a0_1 a0_2 t235 t236 t237 _ A60.out).mono ?_); rintro e w72 ⟨rfl, hb⟩; refine ⟨_, rfl, ?_⟩; have n0_ := Aside0.mk (bkB BK230.out hb); have n1_ := Aside0.mk (bkB BK231.out hb); have n2_ := Aside0.mk (bkB BK232.out hb); have n3_ := Aside0.mk (below_step (belS HB.out) hb); clear BK230; clear BK231; clear BK232; clear HB; have BK230 := n0_; have BK231 := n1_; have BK232 := n2_; have HB := n3_; clear n0_ n1_ n2_ n3_; (try clear hb)) | ((with_reducible refine gate_dst (N := 8) rfl ?_); refine box_event ?hg (N := 8) ?hd (cs := #[.int .i64 0, .int .i64 0]) (t := 24) ?hr ?_; (case hd => rfl); (case hg => rfl); (case hr => first | (go_simp; done) | (go_simp; rfl)); intro gb238 hg w73 hbox hb; have n0_ := Aside0.mk (bkB BK230.out hb); have n1_ := Aside0.mk (bkB BK231.out hb); have n2_ := Aside0.mk (bkB BK232.out hb); have n3_ := Aside0.mk (below_step (belS HB.out) hb); have n4_ := Aside0.mk (hbox); have n5_ := Aside0.mk (szB hg HB.out); have n6_ := Aside0.mk (szB hg HB.out); have n7_ := Aside0.mk ((bk1 hg BK230.out)); have n8_ := Aside0.mk ((bk2 hg BK230.out)); have n9_ := Aside0.mk ((bk1 hg BK231.out)); have n10_ := Aside0.mk ((bk2 hg BK231.out)); have n11_ := Aside0.mk ((bk1 hg BK232.out)); have n12_ := Aside0.mk ((bk2 hg BK232.out)); clear BK230; clear BK231; clear BK232; clear HB; have BK230 := n0_; have BK231 := n1_; have BK232 := n2_; have HB := n3_; have BK238 := n4_; have GW238 := n5_; have GE238 := n6_; have NB230_238 := n7_; have NB238_230 := n8_; have NB231_238 := n9_; have NB238_231 := n10_; have NB232_238 := n11_; have NB238_232 := n12_; clear n0_ n1_ n2_ n3_ n4_ n5_ n6_ n7_ n8_ n9_ n10_ n11_ n12_; clear hb hbox hg; have hnb74 := NB238_230.out; have hnc74 := NB230_238.out; have hnb75 := NB238_231.out; have hnc75 := NB231_238.out; have hnb76 := NB238_232.out; have hnc76 := NB232_238.out; have hcz77_0 : w73.cell? ⟨gb238, 0, none⟩ = some (.int .i64 0) := (blk_cell BK238.out 0).trans rfl; have hcz77_1 : w73.cell? ⟨gb238, 1, none⟩ = some (.int .i64 0) := (blk_cell BK238.out 1).trans rfl; have hfz77_0 := blk_frozen BK238.out 0; have hfz77_1 := blk_frozen BK238.out 1; have hcz78_0 : w73.cell? ⟨gb230, 0, none⟩ = some (.int .i64 a0_0) := (blk_cell BK230.out 0).trans rfl; have hcz78_1 : w73.cell? ⟨gb230, 1, none⟩ = some (.int .i64 a0_1) := (blk_cell BK230.out 1).trans rfl; have hcz78_2 : w73.cell? ⟨gb230, 2, none⟩ = some (.int .i64 a0_2) := (blk_cell BK230.out 2).trans rfl; have hfz78_0 := blk_frozen BK230.out 0; have hfz78_1 := blk_frozen BK230.out 1; have hfz78_2 := blk_frozen BK230.out 2; have hcz79_0 : w73.cell? ⟨gb231, 0, none⟩ = some (.int .i64 a1_0) := (blk_cell BK231.out 0).trans rfl; have hcz79_1 : w73.cell? ⟨gb231, 1, none⟩ = some (.int .i64 a1_1) := (blk_cell BK231.out 1).trans rfl; have hcz79_2 : w73.cell? ⟨gb231, 2, none⟩ = some (.int .i64 a1_2) := (blk_cell BK231.out 2).trans rfl; have hfz79_0 := blk_frozen BK231.out 0; have hfz79_1 := blk_frozen BK231.out 1; have hfz79_2 := blk_frozen BK231.out 2) | ((with_reducible refine gate_callee (f := 32) rfl ?_); refine goesL_ (some 75) rfl rfl Try.func32 (by kernel_rfl) rfl #[.int .i64 (wrap64 (a2 - a0_0)), .int .i64 (wrap64 (a1_0 - a0_0))] rfl argN ?_; (with_reducible refine (marigraphref1_New.calls kj3 (wrap64 (a2 - a0_0)) (wrap64 (a1_0 - a0_0)) t239 t240 t241 _ A62.out).mono ?_); rintro e w80 ⟨rfl, hb⟩; refine ⟨_, rfl, ?_⟩; have n0_ := Aside0.mk (bkBF BK230.out hb); have n1_ := Aside0.mk (bkBF BK231.out hb); have n2_ := Aside0.mk (bkBF BK232.out hb); have n3_ := Aside0.mk (blk_below (g := gb238) (o := .cells #[.int .i64 t235, .int .i64 t236] 24 (0, 0)) (by (with_reducible repeat (first | refine blk_drewN ?_ _ | refine blk_drew ?_ | refine blk_alloc ?_ _)); refine blk_put (cs := #[.int .i64 t235, .int .i64 0]) ?_ 1 _ rfl; (with_reducible repeat (first | refine blk_drewN ?_ _ | refine blk_drew ?_ | refine blk_alloc ?_ _)); refine blk_put (cs := #[.int .i64 0, .int .i64 0]) ?_ 0 _ rfl; (with_reducible repeat (first | refine blk_drewN ?_ _ | refine blk_drew ?_ | refine blk_alloc ?_ _)); exact BK238.out) hb); have n4_ := Aside0.mk (below_step (belS HB.out) hb); clear BK230; clear BK231; clear BK232; clear BK238; clear HB; have BK230 := n0_; have BK231 := n1_; have BK232 := n2_; have BK238 := n3_; have HB := n4_; clear n0_ n1_ n2_ n3_ n4_; (try clear hb)) | ((with_reducible refine gate_dst (N := 10) rfl ?_); refine box_event ?hg (N := 10) ?hd (cs := #[.int .i64 0, .int .i64 0]) (t := 24) ?hr ?_; (case hd => rfl); (case hg => rfl); (case hr => first | (go_simp; done) | (go_simp; rfl)); intro gb242 hg w81 hbox hb; have n0_ := Aside0.mk (bkB BK230.out hb); have n1_ := Aside0.mk (bkB BK231.out hb); have n2_ := Aside0.mk (bkB BK232.out hb); have n3_ := Aside0.mk (bkB BK238.out hb); have n4_ := Aside0.mk (below_step (belS HB.out) hb); have n5_ := Aside0.mk (hbox); have n6_ := Aside0.mk (szB hg HB.out); have n7_ := Aside0.mk (szB hg HB.out); have n8_ := Aside0.mk ((bk1 hg BK230.out)); have n9_ := Aside0.mk ((bk2 hg BK230.out)); have n10_ := Aside0.mk ((bk1 hg BK231.out)); have n11_ := Aside0.mk ((bk2 hg BK231.out)); have n12_ := Aside0.mk ((bk1 hg BK232.out)); have n13_ := Aside0.mk ((bk2 hg BK232.out)); have n14_ := Aside0.mk ((bk1 hg BK238.out)); have n15_ := Aside0.mk ((bk2 hg BK238.out)); clear BK230; clear BK231; clear BK232; clear BK238; clear HB; have BK230 := n0_; have BK231 := n1_; have BK232 := n2_; have BK238 := n3_; have HB := n4_; have BK242 := n5_; have GW242 := n6_; have GE242 := n7_; have NB230_242 := n8_; have NB242_230 := n9_; have NB231_242 := n10_; have NB242_231 := n11_; have NB232_242 := n12_; have NB242_232 := n13_; have NB238_242 := n14_; have NB242_238 := n15_; clear n0_ n1_ n2_ n3_ n4_ n5_ n6_ n7_ n8_ n9_ n10_ n11_ n12_ n13_ n14_ n15_; clear hb hbox hg; have hnb82 := NB242_230.out; have hnc82 := NB230_242.out; have hnb83 := NB242_231.out; have hnc83 := NB231_242.out; have hnb84 := NB242_232.out; have hnc84 := NB232_242.out; have hnb85 := NB242_238.out; have hnc85 := NB238_242.out; have hcz86_0 : w81.cell? ⟨gb242, 0, none⟩ = some (.int .i64 0) := (blk_cell BK242.out 0).trans rfl; have hcz86_1 : w81.cell? ⟨gb242, 1, none⟩ = some (.int .i64 0) := (blk_cell BK242.out 1).trans rfl; have hfz86_0 := blk_frozen BK242.out 0; have hfz86_1 := blk_frozen BK242.out 1; have hcz87_0 : w81.cell? ⟨gb238, 0, none⟩ = some (.int .i64 t235) := (blk_cell BK238.out 0).trans rfl; have hcz87_1 : w81.cell? ⟨gb238, 1, none⟩ = some (.int .i64 t236) := (blk_cell BK238.out 1).trans rfl; have hfz87_0 := blk_frozen BK238.out 0; have hfz87_1 := blk_frozen BK238.out 1) | ((with_reducible refine gate_callee (f := 31) rfl ?_); refine goesL_ (some 85) rfl rfl Try.func31 (by kernel_rfl) rfl #[.int .u8 42, .agg #[.int .i64 t235, .int .i64 t236], .agg #[.int .i64 t239, .int .i64 t240]] rfl argN ?_; (with_reducible refine (marigraphref1_Op.calls kj3 42 t235 t236 t239 t240 t243 t244 t245 _ A64.out).mono ?_); rintro e w88 ⟨rfl, hb⟩; refine ⟨_, rfl, ?_⟩; have n0_ := Aside0.mk (bkBF BK230.out hb); have n1_ := Aside0.mk (bkBF BK231.out hb); have n2_ := Aside0.mk (bkBF BK232.out hb); have n3_ := Aside0.mk (bkBF BK238.out hb); have n4_ := Aside0.mk (blk_below (g := gb242) (o := .cells #[.int .i64 t239, .int .i64 t240] 24 (0, 0)) (by (with_reducible repeat (first | refine blk_drewN ?_ _ | refine blk_drew ?_ | refine blk_alloc ?_ _)); refine blk_put (cs := #[.int .i64 t239, .int .i64 0]) ?_ 1 _ rfl; (with_reducible repeat (first | refine blk_drewN ?_ _ | refine blk_drew ?_ | refine blk_alloc ?_ _)); refine blk_put (cs := #[.int .i64 0, .int .i64 0]) ?_ 0 _ rfl; (with_reducible repeat (first | refine blk_drewN ?_ _ | refine blk_drew ?_ | refine blk_alloc ?_ _)); exact BK242.out) hb); have n5_ := Aside0.mk (below_step (belS HB.out) hb); clear BK230; clear BK231; clear BK232; clear BK238; clear BK242; clear HB; have BK230 := n0_; have BK231 := n1_; have BK232 := n2_; have BK238 := n3_; have BK242 := n4_; have HB := n5_; clear n0_ n1_ n2_ n3_ n4_ n5_; (try clear hb); have hcz89_0 : w88.cell? ⟨gb238, 0, none⟩ = some (.int .i64 t235) := (blk_cell BK238.out 0).trans rfl; have hcz89_1 : w88.cell? ⟨gb238, 1, none⟩ = some (.int .i64 t236) := (blk_cell BK238.out 1).trans rfl; have hfz89_0 := blk_frozen BK238.out 0; have hfz89_1 := blk_frozen BK238.out 1; have hcz90_0 : w88.cell? ⟨gb230, 0, none⟩ = some (.int .i64 a0_0) := (blk_cell BK230.out 0).trans rfl; have hcz90_1 : w88.cell? ⟨gb230, 1, none⟩ = some (.int .i64 a0_1) := (blk_cell BK230.out 1).trans rfl; have hcz90_2 : w88.cell? ⟨gb230, 2, none⟩ = some (.int .i64 a0_2) := (blk_cell BK230.out 2).trans rfl; have hfz90_0 := blk_frozen BK230.out 0; have hfz90_1 := blk_frozen BK230.out 1; have hfz90_2 := blk_frozen BK230.out 2) | ((with_reducible refine gate_callee (f := 31) rfl ?_); refine goesL_ (some 95) rfl rfl Try.func31 (by kernel_rfl) rfl #[.int .u8 43, .agg #[.int .i64 t243, .int .i64 t244], .agg #[.int .i64 a0_1, .int .i64 a0_2]] rfl argN ?_; (with_reducible refine (marigraphref1_Op.calls kj3 43 t243 t244 a0_1 a0_2 t246 t247 t248 _ A66.out).mono ?_); rintro e w91 ⟨rfl, hb⟩; refine ⟨_, rfl, ?_⟩; have n0_ := Aside0.mk (bkBF BK230.out hb); have n1_ := Aside0.mk (bkBF BK231.out hb); have n2_ := Aside0.mk (bkBF BK232.out hb); have n3_ := Aside0.mk (blk_below (g := gb238) (o := .cells #[.int .i64 t243, .int .i64 t244] 24 (0, 0)) (by (with_reducible repeat (first | refine blk_drewN ?_ _ | refine blk_drew ?_ | refine blk_alloc ?_ _)); refine blk_put (cs := #[.int .i64 t243, .int .i64 t236]) ?_ 1 _ rfl; (with_reducible repeat (first | refine blk_drewN ?_ _ | refine blk_drew ?_ | refine blk_alloc ?_ _)); refine blk_put (cs := #[.int .i64 t235, .int .i64 t236]) ?_ 0 _ rfl; (with_reducible repeat (first | refine blk_drewN ?_ _ | refine blk_drew ?_ | refine blk_alloc ?_ _)); exact BK238.out) hb); have n4_ := Aside0.mk (bkBF BK242.out hb); have n5_ := Aside0.mk (below_step (belS HB.out) hb); clear BK230; clear BK231; clear BK232; clear BK238; clear BK242; clear HB; have BK230 := n0_; have BK231 := n1_; have BK232 := n2_; have BK238 := n3_; have BK242 := n4_; have HB := n5_; clear n0_ n1_ n2_ n3_ n4_ n5_; (try clear hb); have hcz92_0 : w91.cell? ⟨gb232, 0, none⟩ = some (.int .i64 0) := (blk_cell BK232.out 0).trans rfl; have hcz92_1 : w91.cell? ⟨gb232, 1, none⟩ = some (.int .i64 0) := (blk_cell BK232.out 1).trans rfl; have hfz92_0 := blk_frozen BK232.out 0; have hfz92_1 := blk_frozen BK232.out 1))
         refine bodyPost_ret (results_ct rfl _ _ gb232 24 #[.int .i64 t246, .int .i64 t247] (0, 0) _ rfl (by (with_reducible repeat (first | refine blk_drewN ?_ _ | refine blk_drew ?_ | refine blk_alloc ?_ _)); refine blk_put (cs := #[.int .i64 t246, .int .i64 0]) ?_ 1 _ rfl; (with_reducible repeat (first | refine blk_drewN ?_ _ | refine blk_drew ?_ | refine blk_alloc ?_ _)); refine blk_put (cs := #[.int .i64 0, .int .i64 0]) ?_ 0 _ rfl; (with_reducible repeat (first | refine blk_drewN ?_ _ | refine blk_drew ?_ | refine blk_alloc ?_ _)); exact BK232.out) Try.underlying24 rfl (by kernel_rfl)) rfl ?_
         exact ⟨by first | rfl | (simp [errW_none, errW_some] <;> rfl) | (simp [*, errW_none, errW_some] <;> rfl), (belS HB.out)⟩
        ·rw [if_neg c65] at H
         have c65b0 : (t245 == 0) = false := beq_eq_false_iff_ne.mpr c65
         have c65b1 : (t245 != 0) = true := bne_iff_ne.mpr c65
         simp only [Option.some.injEq, Prod.mk.injEq] at H
         obtain ⟨rfl, rfl, rfl⟩ := H
         have hnb93 := NB230_231.out
         have hnc93 := NB231_230.out
         have hnb94 := NB230_232.out
         have hnc94 := NB232_230.out
         have hcz95_0 : wc.cell? ⟨gb230, 0, none⟩ = some (.int .i64 a0_0) := (blk_cell BK230.out 0).trans rfl
         have hcz95_1 : wc.cell? ⟨gb230, 1, none⟩ = some (.int .i64 a0_1) := (blk_cell BK230.out 1).trans rfl
         have hcz95_2 : wc.cell? ⟨gb230, 2, none⟩ = some (.int .i64 a0_2) := (blk_cell BK230.out 2).trans rfl
         have hfz95_0 := blk_frozen BK230.out 0
         have hfz95_1 := blk_frozen BK230.out 1
         have hfz95_2 := blk_frozen BK230.out 2
         have hnb96 := NB231_232.out
         have hnc96 := NB232_231.out
         have hcz97_0 : wc.cell? ⟨gb231, 0, none⟩ = some (.int .i64 a1_0) := (blk_cell BK231.out 0).trans rfl
         have hcz97_1 : wc.cell? ⟨gb231, 1, none⟩ = some (.int .i64 a1_1) := (blk_cell BK231.out 1).trans rfl
         have hcz97_2 : wc.cell? ⟨gb231, 2, none⟩ = some (.int .i64 a1_2) := (blk_cell BK231.out 2).trans rfl
         have hfz97_0 := blk_frozen BK231.out 0
         have hfz97_1 := blk_frozen BK231.out 1
         have hfz97_2 := blk_frozen BK231.out 2
         go_wp2_with (first | ((with_reducible refine gate_callee (f := 31) rfl ?_); refine goesL_ (some 58) rfl rfl Try.func31 (by kernel_rfl) rfl #[.int .u8 45, .agg #[.int .i64 a1_1, .int .i64 a1_2], .agg #[.int .i64 a0_1, .int .i64 a0_2]] rfl argN ?_; (with_reducible refine (marigraphref1_Op.calls kj3 45 a1_1 a1_2 a0_1 a0_2 t235 t236 t237 _ A60.out).mono ?_); rintro e w98 ⟨rfl, hb⟩; refine ⟨_, rfl, ?_⟩; have n0_ := Aside0.mk (bkB BK230.out hb); have n1_ := Aside0.mk (bkB BK231.out hb); have n2_ := Aside0.mk (bkB BK232.out hb); have n3_ := Aside0.mk (below_step (belS HB.out) hb); clear BK230; clear BK231; clear BK232; clear HB; have BK230 := n0_; have BK231 := n1_; have BK232 := n2_; have HB := n3_; clear n0_ n1_ n2_ n3_; (try clear hb)) | ((with_reducible refine gate_dst (N := 8) rfl ?_); refine box_event ?hg (N := 8) ?hd (cs := #[.int .i64 0, .int .i64 0]) (t := 24) ?hr ?_; (case hd => rfl); (case hg => rfl); (case hr => first | (go_simp; done) | (go_simp; rfl)); intro gb238 hg w99 hbox hb; have n0_ := Aside0.mk (bkB BK230.out hb); have n1_ := Aside0.mk (bkB BK231.out hb); have n2_ := Aside0.mk (bkB BK232.out hb); have n3_ := Aside0.mk (below_step (belS HB.out) hb); have n4_ := Aside0.mk (hbox); have n5_ := Aside0.mk (szB hg HB.out); have n6_ := Aside0.mk (szB hg HB.out); have n7_ := Aside0.mk ((bk1 hg BK230.out)); have n8_ := Aside0.mk ((bk2 hg BK230.out)); have n9_ := Aside0.mk ((bk1 hg BK231.out)); have n10_ := Aside0.mk ((bk2 hg BK231.out)); have n11_ := Aside0.mk ((bk1 hg BK232.out)); have n12_ := Aside0.mk ((bk2 hg BK232.out)); clear BK230; clear BK231; clear BK232; clear HB; have BK230 := n0_; have BK231 := n1_; have BK232 := n2_; have HB := n3_; have BK238 := n4_; have GW238 := n5_; have GE238 := n6_; have NB230_238 := n7_; have NB238_230 := n8_; have NB231_238 := n9_; have NB238_231 := n10_; have NB232_238 := n11_; have NB238_232 := n12_; clear n0_ n1_ n2_ n3_ n4_ n5_ n6_ n7_ n8_ n9_ n10_ n11_ n12_; clear hb hbox hg; have hnb100 := NB238_230.out; have hnc100 := NB230_238.out; have hnb101 := NB238_231.out; have hnc101 := NB231_238.out; have hnb102 := NB238_232.out; have hnc102 := NB232_238.out; have hcz103_0 : w99.cell? ⟨gb238, 0, none⟩ = some (.int .i64 0) := (blk_cell BK238.out 0).trans rfl; have hcz103_1 : w99.cell? ⟨gb238, 1, none⟩ = some (.int .i64 0) := (blk_cell BK238.out 1).trans rfl; have hfz103_0 := blk_frozen BK238.out 0; have hfz103_1 := blk_frozen BK238.out 1; have hcz104_0 : w99.cell? ⟨gb230, 0, none⟩ = some (.int .i64 a0_0) := (blk_cell BK230.out 0).trans rfl; have hcz104_1 : w99.cell? ⟨gb230, 1, none⟩ = some (.int .i64 a0_1) := (blk_cell BK230.out 1).trans rfl; have hcz104_2 : w99.cell? ⟨gb230, 2, none⟩ = some (.int .i64 a0_2) := (blk_cell BK230.out 2).trans rfl; have hfz104_0 := blk_frozen BK230.out 0; have hfz104_1 := blk_frozen BK230.out 1; have hfz104_2 := blk_frozen BK230.out 2; have hcz105_0 : w99.cell? ⟨gb231, 0, none⟩ = some (.int .i64 a1_0) := (blk_cell BK231.out 0).trans rfl; have hcz105_1 : w99.cell? ⟨gb231, 1, none⟩ = some (.int .i64 a1_1) := (blk_cell BK231.out 1).trans rfl; have hcz105_2 : w99.cell? ⟨gb231, 2, none⟩ = some (.int .i64 a1_2) := (blk_cell BK231.out 2).trans rfl; have hfz105_0 := blk_frozen BK231.out 0; have hfz105_1 := blk_frozen BK231.out 1; have hfz105_2 := blk_frozen BK231.out 2) | ((with_reducible refine gate_callee (f := 32) rfl ?_); refine goesL_ (some 75) rfl rfl Try.func32 (by kernel_rfl) rfl #[.int .i64 (wrap64 (a2 - a0_0)), .int .i64 (wrap64 (a1_0 - a0_0))] rfl argN ?_; (with_reducible refine (marigraphref1_New.calls kj3 (wrap64 (a2 - a0_0)) (wrap64 (a1_0 - a0_0)) t239 t240 t241 _ A62.out).mono ?_); rintro e w106 ⟨rfl, hb⟩; refine ⟨_, rfl, ?_⟩; have n0_ := Aside0.mk (bkBF BK230.out hb); have n1_ := Aside0.mk (bkBF BK231.out hb); have n2_ := Aside0.mk (bkBF BK232.out hb); have n3_ := Aside0.mk (blk_below (g := gb238) (o := .cells #[.int .i64 t235, .int .i64 t236] 24 (0, 0)) (by (with_reducible repeat (first | refine blk_drewN ?_ _ | refine blk_drew ?_ | refine blk_alloc ?_ _)); refine blk_put (cs := #[.int .i64 t235, .int .i64 0]) ?_ 1 _ rfl; (with_reducible repeat (first | refine blk_drewN ?_ _ | refine blk_drew ?_ | refine blk_alloc ?_ _)); refine blk_put (cs := #[.int .i64 0, .int .i64 0]) ?_ 0 _ rfl; (with_reducible repeat (first | refine blk_drewN ?_ _ | refine blk_drew ?_ | refine blk_alloc ?_ _)); exact BK238.out) hb); have n4_ := Aside0.mk (below_step (belS HB.out) hb); clear BK230; clear BK231; clear BK232; clear BK238; clear HB; have BK230 := n0_; have BK231 := n1_; have BK232 := n2_; have BK238 := n3_; have HB := n4_; clear n0_ n1_ n2_ n3_ n4_; (try clear hb)) | ((with_reducible refine gate_dst (N := 10) rfl ?_); refine box_event ?hg (N := 10) ?hd (cs := #[.int .i64 0, .int .i64 0]) (t := 24) ?hr ?_; (case hd => rfl); (case hg => rfl); (case hr => first | (go_simp; done) | (go_simp; rfl)); intro gb242 hg w107 hbox hb; have n0_ := Aside0.mk (bkB BK230.out hb); have n1_ := Aside0.mk (bkB BK231.out hb); have n2_ := Aside0.mk (bkB BK232.out hb); have n3_ := Aside0.mk (bkB BK238.out hb); have n4_ := Aside0.mk (below_step (belS HB.out) hb); have n5_ := Aside0.mk (hbox); have n6_ := Aside0.mk (szB hg HB.out); have n7_ := Aside0.mk (szB hg HB.out); have n8_ := Aside0.mk ((bk1 hg BK230.out)); have n9_ := Aside0.mk ((bk2 hg BK230.out)); have n10_ := Aside0.mk ((bk1 hg BK231.out)); have n11_ := Aside0.mk ((bk2 hg BK231.out)); have n12_ := Aside0.mk ((bk1 hg BK232.out)); have n13_ := Aside0.mk ((bk2 hg BK232.out)); have n14_ := Aside0.mk ((bk1 hg BK238.out)); have n15_ := Aside0.mk ((bk2 hg BK238.out)); clear BK230; clear BK231; clear BK232; clear BK238; clear HB; have BK230 := n0_; have BK231 := n1_; have BK232 := n2_; have BK238 := n3_; have HB := n4_; have BK242 := n5_; have GW242 := n6_; have GE242 := n7_; have NB230_242 := n8_; have NB242_230 := n9_; have NB231_242 := n10_; have NB242_231 := n11_; have NB232_242 := n12_; have NB242_232 := n13_; have NB238_242 := n14_; have NB242_238 := n15_; clear n0_ n1_ n2_ n3_ n4_ n5_ n6_ n7_ n8_ n9_ n10_ n11_ n12_ n13_ n14_ n15_; clear hb hbox hg; have hnb108 := NB242_230.out; have hnc108 := NB230_242.out; have hnb109 := NB242_231.out; have hnc109 := NB231_242.out; have hnb110 := NB242_232.out; have hnc110 := NB232_242.out; have hnb111 := NB242_238.out; have hnc111 := NB238_242.out; have hcz112_0 : w107.cell? ⟨gb242, 0, none⟩ = some (.int .i64 0) := (blk_cell BK242.out 0).trans rfl; have hcz112_1 : w107.cell? ⟨gb242, 1, none⟩ = some (.int .i64 0) := (blk_cell BK242.out 1).trans rfl; have hfz112_0 := blk_frozen BK242.out 0; have hfz112_1 := blk_frozen BK242.out 1; have hcz113_0 : w107.cell? ⟨gb238, 0, none⟩ = some (.int .i64 t235) := (blk_cell BK238.out 0).trans rfl; have hcz113_1 : w107.cell? ⟨gb238, 1, none⟩ = some (.int .i64 t236) := (blk_cell BK238.out 1).trans rfl; have hfz113_0 := blk_frozen BK238.out 0; have hfz113_1 := blk_frozen BK238.out 1) | ((with_reducible refine gate_callee (f := 31) rfl ?_); refine goesL_ (some 85) rfl rfl Try.func31 (by kernel_rfl) rfl #[.int .u8 42, .agg #[.int .i64 t235, .int .i64 t236], .agg #[.int .i64 t239, .int .i64 t240]] rfl argN ?_; (with_reducible refine (marigraphref1_Op.calls kj3 42 t235 t236 t239 t240 t243 t244 t245 _ A64.out).mono ?_); rintro e w114 ⟨rfl, hb⟩; refine ⟨_, rfl, ?_⟩; have n0_ := Aside0.mk (bkBF BK230.out hb); have n1_ := Aside0.mk (bkBF BK231.out hb); have n2_ := Aside0.mk (bkBF BK232.out hb); have n3_ := Aside0.mk (bkBF BK238.out hb); have n4_ := Aside0.mk (blk_below (g := gb242) (o := .cells #[.int .i64 t239, .int .i64 t240] 24 (0, 0)) (by (with_reducible repeat (first | refine blk_drewN ?_ _ | refine blk_drew ?_ | refine blk_alloc ?_ _)); refine blk_put (cs := #[.int .i64 t239, .int .i64 0]) ?_ 1 _ rfl; (with_reducible repeat (first | refine blk_drewN ?_ _ | refine blk_drew ?_ | refine blk_alloc ?_ _)); refine blk_put (cs := #[.int .i64 0, .int .i64 0]) ?_ 0 _ rfl; (with_reducible repeat (first | refine blk_drewN ?_ _ | refine blk_drew ?_ | refine blk_alloc ?_ _)); exact BK242.out) hb); have n5_ := Aside0.mk (below_step (belS HB.out) hb); clear BK230; clear BK231; clear BK232; clear BK238; clear BK242; clear HB; have BK230 := n0_; have BK231 := n1_; have BK232 := n2_; have BK238 := n3_; have BK242 := n4_; have HB := n5_; clear n0_ n1_ n2_ n3_ n4_ n5_; (try clear hb); have hcz115_0 : w114.cell? ⟨gb238, 0, none⟩ = some (.int .i64 t235) := (blk_cell BK238.out 0).trans rfl; have hcz115_1 : w114.cell? ⟨gb238, 1, none⟩ = some (.int .i64 t236) := (blk_cell BK238.out 1).trans rfl; have hfz115_0 := blk_frozen BK238.out 0; have hfz115_1 := blk_frozen BK238.out 1; have hcz116_0 : w114.cell? ⟨gb232, 0, none⟩ = some (.int .i64 0) := (blk_cell BK232.out 0).trans rfl; have hcz116_1 : w114.cell? ⟨gb232, 1, none⟩ = some (.int .i64 0) := (blk_cell BK232.out 1).trans rfl; have hfz116_0 := blk_frozen BK232.out 0; have hfz116_1 := blk_frozen BK232.out 1))
         refine bodyPost_ret (results_ct rfl _ _ gb232 24 #[.int .i64 0, .int .i64 0] (0, 0) _ rfl (by (with_reducible repeat (first | refine blk_drewN ?_ _ | refine blk_drew ?_ | refine blk_alloc ?_ _)); refine blk_put (cs := #[.int .i64 0, .int .i64 0]) ?_ 1 _ rfl; (with_reducible repeat (first | refine blk_drewN ?_ _ | refine blk_drew ?_ | refine blk_alloc ?_ _)); refine blk_put (cs := #[.int .i64 0, .int .i64 0]) ?_ 0 _ rfl; (with_reducible repeat (first | refine blk_drewN ?_ _ | refine blk_drew ?_ | refine blk_alloc ?_ _)); refine blk_far ?_ NB232_238.out _; (with_reducible repeat (first | refine blk_drewN ?_ _ | refine blk_drew ?_ | refine blk_alloc ?_ _)); refine blk_far ?_ NB232_238.out _; (with_reducible repeat (first | refine blk_drewN ?_ _ | refine blk_drew ?_ | refine blk_alloc ?_ _)); exact BK232.out) Try.underlying24 rfl (by kernel_rfl)) rfl ?_
         exact ⟨by first | rfl | (simp [errW_none, errW_some] <;> rfl) | (simp [*, errW_none, errW_some] <;> rfl), (belS HB.out)⟩
       ·rw [if_neg c63] at H
        have c63b0 : (t241 == 0) = false := beq_eq_false_iff_ne.mpr c63
        have c63b1 : (t241 != 0) = true := bne_iff_ne.mpr c63
        simp only [Option.some.injEq, Prod.mk.injEq] at H
        obtain ⟨rfl, rfl, rfl⟩ := H
        have hnb117 := NB230_231.out
        have hnc117 := NB231_230.out
        have hnb118 := NB230_232.out
        have hnc118 := NB232_230.out
        have hcz119_0 : wc.cell? ⟨gb230, 0, none⟩ = some (.int .i64 a0_0) := (blk_cell BK230.out 0).trans rfl
        have hcz119_1 : wc.cell? ⟨gb230, 1, none⟩ = some (.int .i64 a0_1) := (blk_cell BK230.out 1).trans rfl
        have hcz119_2 : wc.cell? ⟨gb230, 2, none⟩ = some (.int .i64 a0_2) := (blk_cell BK230.out 2).trans rfl
        have hfz119_0 := blk_frozen BK230.out 0
        have hfz119_1 := blk_frozen BK230.out 1
        have hfz119_2 := blk_frozen BK230.out 2
        have hnb120 := NB231_232.out
        have hnc120 := NB232_231.out
        have hcz121_0 : wc.cell? ⟨gb231, 0, none⟩ = some (.int .i64 a1_0) := (blk_cell BK231.out 0).trans rfl
        have hcz121_1 : wc.cell? ⟨gb231, 1, none⟩ = some (.int .i64 a1_1) := (blk_cell BK231.out 1).trans rfl
        have hcz121_2 : wc.cell? ⟨gb231, 2, none⟩ = some (.int .i64 a1_2) := (blk_cell BK231.out 2).trans rfl
        have hfz121_0 := blk_frozen BK231.out 0
        have hfz121_1 := blk_frozen BK231.out 1
        have hfz121_2 := blk_frozen BK231.out 2
        go_wp2_with (first | ((with_reducible refine gate_callee (f := 31) rfl ?_); refine goesL_ (some 58) rfl rfl Try.func31 (by kernel_rfl) rfl #[.int .u8 45, .agg #[.int .i64 a1_1, .int .i64 a1_2], .agg #[.int .i64 a0_1, .int .i64 a0_2]] rfl argN ?_; (with_reducible refine (marigraphref1_Op.calls kj3 45 a1_1 a1_2 a0_1 a0_2 t235 t236 t237 _ A60.out).mono ?_); rintro e w122 ⟨rfl, hb⟩; refine ⟨_, rfl, ?_⟩; have n0_ := Aside0.mk (bkB BK230.out hb); have n1_ := Aside0.mk (bkB BK231.out hb); have n2_ := Aside0.mk (bkB BK232.out hb); have n3_ := Aside0.mk (below_step (belS HB.out) hb); clear BK230; clear BK231; clear BK232; clear HB; have BK230 := n0_; have BK231 := n1_; have BK232 := n2_; have HB := n3_; clear n0_ n1_ n2_ n3_; (try clear hb)) | ((with_reducible refine gate_dst (N := 8) rfl ?_); refine box_event ?hg (N := 8) ?hd (cs := #[.int .i64 0, .int .i64 0]) (t := 24) ?hr ?_; (case hd => rfl); (case hg => rfl); (case hr => first | (go_simp; done) | (go_simp; rfl)); intro gb238 hg w123 hbox hb; have n0_ := Aside0.mk (bkB BK230.out hb); have n1_ := Aside0.mk (bkB BK231.out hb); have n2_ := Aside0.mk (bkB BK232.out hb); have n3_ := Aside0.mk (below_step (belS HB.out) hb); have n4_ := Aside0.mk (hbox); have n5_ := Aside0.mk (szB hg HB.out); have n6_ := Aside0.mk (szB hg HB.out); have n7_ := Aside0.mk ((bk1 hg BK230.out)); have n8_ := Aside0.mk ((bk2 hg BK230.out)); have n9_ := Aside0.mk ((bk1 hg BK231.out)); have n10_ := Aside0.mk ((bk2 hg BK231.out)); have n11_ := Aside0.mk ((bk1 hg BK232.out)); have n12_ := Aside0.mk ((bk2 hg BK232.out)); clear BK230; clear BK231; clear BK232; clear HB; have BK230 := n0_; have BK231 := n1_; have BK232 := n2_; have HB := n3_; have BK238 := n4_; have GW238 := n5_; have GE238 := n6_; have NB230_238 := n7_; have NB238_230 := n8_; have NB231_238 := n9_; have NB238_231 := n10_; have NB232_238 := n11_; have NB238_232 := n12_; clear n0_ n1_ n2_ n3_ n4_ n5_ n6_ n7_ n8_ n9_ n10_ n11_ n12_; clear hb hbox hg; have hnb124 := NB238_230.out; have hnc124 := NB230_238.out; have hnb125 := NB238_231.out; have hnc125 := NB231_238.out; have hnb126 := NB238_232.out; have hnc126 := NB232_238.out; have hcz127_0 : w123.cell? ⟨gb238, 0, none⟩ = some (.int .i64 0) := (blk_cell BK238.out 0).trans rfl; have hcz127_1 : w123.cell? ⟨gb238, 1, none⟩ = some (.int .i64 0) := (blk_cell BK238.out 1).trans rfl; have hfz127_0 := blk_frozen BK238.out 0; have hfz127_1 := blk_frozen BK238.out 1; have hcz128_0 : w123.cell? ⟨gb230, 0, none⟩ = some (.int .i64 a0_0) := (blk_cell BK230.out 0).trans rfl; have hcz128_1 : w123.cell? ⟨gb230, 1, none⟩ = some (.int .i64 a0_1) := (blk_cell BK230.out 1).trans rfl; have hcz128_2 : w123.cell? ⟨gb230, 2, none⟩ = some (.int .i64 a0_2) := (blk_cell BK230.out 2).trans rfl; have hfz128_0 := blk_frozen BK230.out 0; have hfz128_1 := blk_frozen BK230.out 1; have hfz128_2 := blk_frozen BK230.out 2; have hcz129_0 : w123.cell? ⟨gb231, 0, none⟩ = some (.int .i64 a1_0) := (blk_cell BK231.out 0).trans rfl; have hcz129_1 : w123.cell? ⟨gb231, 1, none⟩ = some (.int .i64 a1_1) := (blk_cell BK231.out 1).trans rfl; have hcz129_2 : w123.cell? ⟨gb231, 2, none⟩ = some (.int .i64 a1_2) := (blk_cell BK231.out 2).trans rfl; have hfz129_0 := blk_frozen BK231.out 0; have hfz129_1 := blk_frozen BK231.out 1; have hfz129_2 := blk_frozen BK231.out 2) | ((with_reducible refine gate_callee (f := 32) rfl ?_); refine goesL_ (some 75) rfl rfl Try.func32 (by kernel_rfl) rfl #[.int .i64 (wrap64 (a2 - a0_0)), .int .i64 (wrap64 (a1_0 - a0_0))] rfl argN ?_; (with_reducible refine (marigraphref1_New.calls kj3 (wrap64 (a2 - a0_0)) (wrap64 (a1_0 - a0_0)) t239 t240 t241 _ A62.out).mono ?_); rintro e w130 ⟨rfl, hb⟩; refine ⟨_, rfl, ?_⟩; have n0_ := Aside0.mk (bkBF BK230.out hb); have n1_ := Aside0.mk (bkBF BK231.out hb); have n2_ := Aside0.mk (bkBF BK232.out hb); have n3_ := Aside0.mk (blk_below (g := gb238) (o := .cells #[.int .i64 t235, .int .i64 t236] 24 (0, 0)) (by (with_reducible repeat (first | refine blk_drewN ?_ _ | refine blk_drew ?_ | refine blk_alloc ?_ _)); refine blk_put (cs := #[.int .i64 t235, .int .i64 0]) ?_ 1 _ rfl; (with_reducible repeat (first | refine blk_drewN ?_ _ | refine blk_drew ?_ | refine blk_alloc ?_ _)); refine blk_put (cs := #[.int .i64 0, .int .i64 0]) ?_ 0 _ rfl; (with_reducible repeat (first | refine blk_drewN ?_ _ | refine blk_drew ?_ | refine blk_alloc ?_ _)); exact BK238.out) hb); have n4_ := Aside0.mk (below_step (belS HB.out) hb); clear BK230; clear BK231; clear BK232; clear BK238; clear HB; have BK230 := n0_; have BK231 := n1_; have BK232 := n2_; have BK238 := n3_; have HB := n4_; clear n0_ n1_ n2_ n3_ n4_; (try clear hb)) | ((with_reducible refine gate_dst (N := 10) rfl ?_); refine box_event ?hg (N := 10) ?hd (cs := #[.int .i64 0, .int .i64 0]) (t := 24) ?hr ?_; (case hd => rfl); (case hg => rfl); (case hr => first | (go_simp; done) | (go_simp; rfl)); intro gb242 hg w131 hbox hb; have n0_ := Aside0.mk (bkB BK230.out hb); have n1_ := Aside0.mk (bkB BK231.out hb); have n2_ := Aside0.mk (bkB BK232.out hb); have n3_ := Aside0.mk (bkB BK238.out hb); have n4_ := Aside0.mk (below_step (belS HB.out) hb); have n5_ := Aside0.mk (hbox); have n6_ := Aside0.mk (szB hg HB.out); have n7_ := Aside0.mk (szB hg HB.out); have n8_ := Aside0.mk ((bk1 hg BK230.out)); have n9_ := Aside0.mk ((bk2 hg BK230.out)); have n10_ := Aside0.mk ((bk1 hg BK231.out)); have n11_ := Aside0.mk ((bk2 hg BK231.out)); have n12_ := Aside0.mk ((bk1 hg BK232.out)); have n13_ := Aside0.mk ((bk2 hg BK232.out)); have n14_ := Aside0.mk ((bk1 hg BK238.out)); have n15_ := Aside0.mk ((bk2 hg BK238.out)); clear BK230; clear BK231; clear BK232; clear BK238; clear HB; have BK230 := n0_; have BK231 := n1_; have BK232 := n2_; have BK238 := n3_; have HB := n4_; have BK242 := n5_; have GW242 := n6_; have GE242 := n7_; have NB230_242 := n8_; have NB242_230 := n9_; have NB231_242 := n10_; have NB242_231 := n11_; have NB232_242 := n12_; have NB242_232 := n13_; have NB238_242 := n14_; have NB242_238 := n15_; clear n0_ n1_ n2_ n3_ n4_ n5_ n6_ n7_ n8_ n9_ n10_ n11_ n12_ n13_ n14_ n15_; clear hb hbox hg; have hnb132 := NB242_230.out; have hnc132 := NB230_242.out; have hnb133 := NB242_231.out; have hnc133 := NB231_242.out; have hnb134 := NB242_232.out; have hnc134 := NB232_242.out; have hnb135 := NB242_238.out; have hnc135 := NB238_242.out; have hcz136_0 : w131.cell? ⟨gb242, 0, none⟩ = some (.int .i64 0) := (blk_cell BK242.out 0).trans rfl; have hcz136_1 : w131.cell? ⟨gb242, 1, none⟩ = some (.int .i64 0) := (blk_cell BK242.out 1).trans rfl; have hfz136_0 := blk_frozen BK242.out 0; have hfz136_1 := blk_frozen BK242.out 1; have hcz137_0 : w131.cell? ⟨gb232, 0, none⟩ = some (.int .i64 0) := (blk_cell BK232.out 0).trans rfl; have hcz137_1 : w131.cell? ⟨gb232, 1, none⟩ = some (.int .i64 0) := (blk_cell BK232.out 1).trans rfl; have hfz137_0 := blk_frozen BK232.out 0; have hfz137_1 := blk_frozen BK232.out 1))
        refine bodyPost_ret (results_ct rfl _ _ gb232 24 #[.int .i64 0, .int .i64 0] (0, 0) _ rfl (by (with_reducible repeat (first | refine blk_drewN ?_ _ | refine blk_drew ?_ | refine blk_alloc ?_ _)); refine blk_put (cs := #[.int .i64 0, .int .i64 0]) ?_ 1 _ rfl; (with_reducible repeat (first | refine blk_drewN ?_ _ | refine blk_drew ?_ | refine blk_alloc ?_ _)); refine blk_put (cs := #[.int .i64 0, .int .i64 0]) ?_ 0 _ rfl; (with_reducible repeat (first | refine blk_drewN ?_ _ | refine blk_drew ?_ | refine blk_alloc ?_ _)); refine blk_far ?_ NB232_242.out _; (with_reducible repeat (first | refine blk_drewN ?_ _ | refine blk_drew ?_ | refine blk_alloc ?_ _)); refine blk_far ?_ NB232_242.out _; (with_reducible repeat (first | refine blk_drewN ?_ _ | refine blk_drew ?_ | refine blk_alloc ?_ _)); exact BK232.out) Try.underlying24 rfl (by kernel_rfl)) rfl ?_
        exact ⟨by first | rfl | (simp [errW_none, errW_some] <;> rfl) | (simp [*, errW_none, errW_some] <;> rfl), (belS HB.out)⟩
      ·rw [if_neg c61] at H
       have c61b0 : (t237 == 0) = false := beq_eq_false_iff_ne.mpr c61
       have c61b1 : (t237 != 0) = true := bne_iff_ne.mpr c61
       simp only [Option.some.injEq, Prod.mk.injEq] at H
       obtain ⟨rfl, rfl, rfl⟩ := H
       have hnb138 := NB230_231.out
       have hnc138 := NB231_230.out
       have hnb139 := NB230_232.out
       have hnc139 := NB232_230.out
       have hcz140_0 : wc.cell? ⟨gb230, 0, none⟩ = some (.int .i64 a0_0) := (blk_cell BK230.out 0).trans rfl
       have hcz140_1 : wc.cell? ⟨gb230, 1, none⟩ = some (.int .i64 a0_1) := (blk_cell BK230.out 1).trans rfl
       have hcz140_2 : wc.cell? ⟨gb230, 2, none⟩ = some (.int .i64 a0_2) := (blk_cell BK230.out 2).trans rfl
       have hfz140_0 := blk_frozen BK230.out 0
       have hfz140_1 := blk_frozen BK230.out 1
       have hfz140_2 := blk_frozen BK230.out 2
       have hnb141 := NB231_232.out
       have hnc141 := NB232_231.out
       have hcz142_0 : wc.cell? ⟨gb231, 0, none⟩ = some (.int .i64 a1_0) := (blk_cell BK231.out 0).trans rfl
       have hcz142_1 : wc.cell? ⟨gb231, 1, none⟩ = some (.int .i64 a1_1) := (blk_cell BK231.out 1).trans rfl
       have hcz142_2 : wc.cell? ⟨gb231, 2, none⟩ = some (.int .i64 a1_2) := (blk_cell BK231.out 2).trans rfl
       have hfz142_0 := blk_frozen BK231.out 0
       have hfz142_1 := blk_frozen BK231.out 1
       have hfz142_2 := blk_frozen BK231.out 2
       go_wp2_with (first | ((with_reducible refine gate_callee (f := 31) rfl ?_); refine goesL_ (some 58) rfl rfl Try.func31 (by kernel_rfl) rfl #[.int .u8 45, .agg #[.int .i64 a1_1, .int .i64 a1_2], .agg #[.int .i64 a0_1, .int .i64 a0_2]] rfl argN ?_; (with_reducible refine (marigraphref1_Op.calls kj3 45 a1_1 a1_2 a0_1 a0_2 t235 t236 t237 _ A60.out).mono ?_); rintro e w143 ⟨rfl, hb⟩; refine ⟨_, rfl, ?_⟩; have n0_ := Aside0.mk (bkB BK230.out hb); have n1_ := Aside0.mk (bkB BK231.out hb); have n2_ := Aside0.mk (bkB BK232.out hb); have n3_ := Aside0.mk (below_step (belS HB.out) hb); clear BK230; clear BK231; clear BK232; clear HB; have BK230 := n0_; have BK231 := n1_; have BK232 := n2_; have HB := n3_; clear n0_ n1_ n2_ n3_; (try clear hb)) | ((with_reducible refine gate_dst (N := 8) rfl ?_); refine box_event ?hg (N := 8) ?hd (cs := #[.int .i64 0, .int .i64 0]) (t := 24) ?hr ?_; (case hd => rfl); (case hg => rfl); (case hr => first | (go_simp; done) | (go_simp; rfl)); intro gb238 hg w144 hbox hb; have n0_ := Aside0.mk (bkB BK230.out hb); have n1_ := Aside0.mk (bkB BK231.out hb); have n2_ := Aside0.mk (bkB BK232.out hb); have n3_ := Aside0.mk (below_step (belS HB.out) hb); have n4_ := Aside0.mk (hbox); have n5_ := Aside0.mk (szB hg HB.out); have n6_ := Aside0.mk (szB hg HB.out); have n7_ := Aside0.mk ((bk1 hg BK230.out)); have n8_ := Aside0.mk ((bk2 hg BK230.out)); have n9_ := Aside0.mk ((bk1 hg BK231.out)); have n10_ := Aside0.mk ((bk2 hg BK231.out)); have n11_ := Aside0.mk ((bk1 hg BK232.out)); have n12_ := Aside0.mk ((bk2 hg BK232.out)); clear BK230; clear BK231; clear BK232; clear HB; have BK230 := n0_; have BK231 := n1_; have BK232 := n2_; have HB := n3_; have BK238 := n4_; have GW238 := n5_; have GE238 := n6_; have NB230_238 := n7_; have NB238_230 := n8_; have NB231_238 := n9_; have NB238_231 := n10_; have NB232_238 := n11_; have NB238_232 := n12_; clear n0_ n1_ n2_ n3_ n4_ n5_ n6_ n7_ n8_ n9_ n10_ n11_ n12_; clear hb hbox hg; have hnb145 := NB238_230.out; have hnc145 := NB230_238.out; have hnb146 := NB238_231.out; have hnc146 := NB231_238.out; have hnb147 := NB238_232.out; have hnc147 := NB232_238.out; have hcz148_0 : w144.cell? ⟨gb238, 0, none⟩ = some (.int .i64 0) := (blk_cell BK238.out 0).trans rfl; have hcz148_1 : w144.cell? ⟨gb238, 1, none⟩ = some (.int .i64 0) := (blk_cell BK238.out 1).trans rfl; have hfz148_0 := blk_frozen BK238.out 0; have hfz148_1 := blk_frozen BK238.out 1; have hcz149_0 : w144.cell? ⟨gb232, 0, none⟩ = some (.int .i64 0) := (blk_cell BK232.out 0).trans rfl; have hcz149_1 : w144.cell? ⟨gb232, 1, none⟩ = some (.int .i64 0) := (blk_cell BK232.out 1).trans rfl; have hfz149_0 := blk_frozen BK232.out 0; have hfz149_1 := blk_frozen BK232.out 1))
       refine bodyPost_ret (results_ct rfl _ _ gb232 24 #[.int .i64 0, .int .i64 0] (0, 0) _ rfl (by (with_reducible repeat (first | refine blk_drewN ?_ _ | refine blk_drew ?_ | refine blk_alloc ?_ _)); refine blk_put (cs := #[.int .i64 0, .int .i64 0]) ?_ 1 _ rfl; (with_reducible repeat (first | refine blk_drewN ?_ _ | refine blk_drew ?_ | refine blk_alloc ?_ _)); refine blk_put (cs := #[.int .i64 0, .int .i64 0]) ?_ 0 _ rfl; (with_reducible repeat (first | refine blk_drewN ?_ _ | refine blk_drew ?_ | refine blk_alloc ?_ _)); refine blk_far ?_ NB232_238.out _; (with_reducible repeat (first | refine blk_drewN ?_ _ | refine blk_drew ?_ | refine blk_alloc ?_ _)); refine blk_far ?_ NB232_238.out _; (with_reducible repeat (first | refine blk_drewN ?_ _ | refine blk_drew ?_ | refine blk_alloc ?_ _)); exact BK232.out) Try.underlying24 rfl (by kernel_rfl)) rfl ?_
       exact ⟨by first | rfl | (simp [errW_none, errW_some] <;> rfl) | (simp [*, errW_none, errW_some] <;> rfl), (belS HB.out)⟩

/-! ### marigraphlaw22_between: function 8 -/
def marigraphlaw22_between.f (k : Nat) (a0_0 : Int) (a0_1 : Int) (a0_2 : Int) (a1_0 : Int) (a1_1 : Int) (a1_2 : Int) (a2 : Int) : Option (Bool) := (lerp_Between.f k a0_0 a0_1 a0_2 a1_0 a1_1 a1_2 a2).bind fun bt251 => ((marigraphref21_Between.f k a0_0 a0_1 a0_2 a1_0 a1_1 a1_2 a2).bind fun bt255 => (if (bt251.1 == bt255.1 && (bt251.2.1 == bt255.2.1)) = true then (some (bt251.2.2 == bt255.2.2)) else (some false)))
theorem marigraphlaw22_between.mono : ∀ a0 a1 a2 a3 a4 a5 a6 k, LeO (marigraphlaw22_between.f k a0 a1 a2 a3 a4 a5 a6) (marigraphlaw22_between.f (k + 1) a0 a1 a2 a3 a4 a5 a6) := by
 intro a0 a1 a2 a3 a4 a5 a6 k
 unfold marigraphlaw22_between.f
 repeat' first
   | (with_reducible exact lerp_Between.mono _ _ _ _ _ _ _ _)
   | (with_reducible exact marigraphref21_Between.mono _ _ _ _ _ _ _ _)
   | (with_reducible exact LeO.refl _)
   | (with_reducible exact LeO.none _)
   | (with_reducible refine LeO.ite ?_ ?_)
   | (with_reducible refine LeO.bind ?_ (fun _ => ?_))
   | exact lerp_Between.mono _ _ _ _ _ _ _ _
   | exact marigraphref21_Between.mono _ _ _ _ _ _ _ _
   | exact LeO.none _
   | refine LeO.ite ?_ ?_
   | refine LeO.bind ?_ (fun _ => ?_)
set_option maxHeartbeats 8000000 in
set_option maxRecDepth 100000 in
theorem marigraphlaw22_between.calls (k : Nat) (a0_0 : Int) (a0_1 : Int) (a0_2 : Int) (a1_0 : Int) (a1_1 : Int) (a1_2 : Int) (a2 : Int) (r : Bool) (w : World) (h : marigraphlaw22_between.f k a0_0 a0_1 a0_2 a1_0 a1_1 a1_2 a2 = some r) :
  Calls Try.prog 8 #[.agg #[.int .i64 a0_0, .int .i64 a0_1, .int .i64 a0_2], .agg #[.int .i64 a1_0, .int .i64 a1_1, .int .i64 a1_2], .int .i64 a2] w fun e w' => e = .returned (.bool r) ∧ Below w.heap.size w w' := by
 have hu26 := Try.underlying26
 have hu24 := Try.underlying24
 have HB := Aside0.mk (Below.refl w.heap.size w)
 have H : ((lerp_Between.f k a0_0 a0_1 a0_2 a1_0 a1_1 a1_2 a2).bind fun bt251 => ((marigraphref21_Between.f k a0_0 a0_1 a0_2 a1_0 a1_1 a1_2 a2).bind fun bt255 => (if (bt251.1 == bt255.1 && (bt251.2.1 == bt255.2.1)) = true then (some (bt251.2.2 == bt255.2.2)) else (some false)))) = some r := h
 clear h
 replace H := Option.bind_eq_some_iff.mp H
 obtain ⟨⟨t251, t252, t253⟩, A40, H⟩ := H
 replace H : ((marigraphref21_Between.f k a0_0 a0_1 a0_2 a1_0 a1_1 a1_2 a2).bind fun bt255 => (if (t251 == bt255.1 && (t252 == bt255.2.1)) = true then (some (t253 == bt255.2.2)) else (some false))) = some r := H
 have A4 := Aside0.mk A40
 clear A40
 replace H := Option.bind_eq_some_iff.mp H
 obtain ⟨⟨t255, t256, t257⟩, A50, H⟩ := H
 replace H : (if (t251 == t255 && (t252 == t256)) = true then (some (t253 == t257)) else (some false)) = some r := H
 have A5 := Aside0.mk A50
 clear A50
 by_cases c6 : (t251 == t255 && (t252 == t256)) = true
 ·rw [if_pos c6] at H
  have c6b0 : (t251 == t255 && (t252 == t256)) = true := c6
  (try (have c6b1 : decide (t251 = t255 && (t252 == t256)) = true := by simpa using c6))
  (try (have c6b2 : (t251 == t255 && (t252 == t256)) = true := by simpa using c6))
  clear c6
  obtain rfl := Option.some.inj H
  go_enter Try.func8, Try.ntmps8
  go_wp2_with (first | ((with_reducible refine gate_dst (N := 3) rfl ?_); refine box_event ?hg (N := 3) ?hd (cs := #[.int .i64 a0_0, .int .i64 a0_1, .int .i64 a0_2]) (t := 26) ?hr ?_; (case hd => rfl); (case hg => rfl); (case hr => first | (go_simp; done) | (go_simp; rfl)); intro gb249 hg w7 hbox hb; have n0_ := Aside0.mk (below_step (belN HB.out) hb); have n1_ := Aside0.mk (hbox); have n2_ := Aside0.mk (szB hg HB.out); have n3_ := Aside0.mk (szB hg HB.out); clear HB; have HB := n0_; have BK249 := n1_; have GW249 := n2_; have GE249 := n3_; clear n0_ n1_ n2_ n3_; clear hb hbox hg) | ((with_reducible refine gate_dst (N := 4) rfl ?_); refine box_event ?hg (N := 4) ?hd (cs := #[.int .i64 a1_0, .int .i64 a1_1, .int .i64 a1_2]) (t := 26) ?hr ?_; (case hd => rfl); (case hg => rfl); (case hr => first | (go_simp; done) | (go_simp; rfl)); intro gb250 hg w8 hbox hb; have n0_ := Aside0.mk (bkB BK249.out hb); have n1_ := Aside0.mk (below_step (belS HB.out) hb); have n2_ := Aside0.mk (hbox); have n3_ := Aside0.mk (szB hg HB.out); have n4_ := Aside0.mk (szB hg HB.out); have n5_ := Aside0.mk ((bk1 hg BK249.out)); have n6_ := Aside0.mk ((bk2 hg BK249.out)); clear BK249; clear HB; have BK249 := n0_; have HB := n1_; have BK250 := n2_; have GW250 := n3_; have GE250 := n4_; have NB249_250 := n5_; have NB250_249 := n6_; clear n0_ n1_ n2_ n3_ n4_ n5_ n6_; clear hb hbox hg; have hnb9 := NB249_250.out; have hnc9 := NB250_249.out; have hcz10_0 : w8.cell? ⟨gb249, 0, none⟩ = some (.int .i64 a0_0) := (blk_cell BK249.out 0).trans rfl; have hcz10_1 : w8.cell? ⟨gb249, 1, none⟩ = some (.int .i64 a0_1) := (blk_cell BK249.out 1).trans rfl; have hcz10_2 : w8.cell? ⟨gb249, 2, none⟩ = some (.int .i64 a0_2) := (blk_cell BK249.out 2).trans rfl; have hfz10_0 := blk_frozen BK249.out 0; have hfz10_1 := blk_frozen BK249.out 1; have hfz10_2 := blk_frozen BK249.out 2; have hcz11_0 : w8.cell? ⟨gb250, 0, none⟩ = some (.int .i64 a1_0) := (blk_cell BK250.out 0).trans rfl; have hcz11_1 : w8.cell? ⟨gb250, 1, none⟩ = some (.int .i64 a1_1) := (blk_cell BK250.out 1).trans rfl; have hcz11_2 : w8.cell? ⟨gb250, 2, none⟩ = some (.int .i64 a1_2) := (blk_cell BK250.out 2).trans rfl; have hfz11_0 := blk_frozen BK250.out 0; have hfz11_1 := blk_frozen BK250.out 1; have hfz11_2 := blk_frozen BK250.out 2) | ((with_reducible refine gate_callee (f := 15) rfl ?_); refine goesL_ (some 15) rfl rfl Try.func15 (by kernel_rfl) rfl #[.agg #[.int .i64 a0_0, .int .i64 a0_1, .int .i64 a0_2], .agg #[.int .i64 a1_0, .int .i64 a1_1, .int .i64 a1_2], .int .i64 a2] rfl argN ?_; (with_reducible refine (lerp_Between.calls k a0_0 a0_1 a0_2 a1_0 a1_1 a1_2 a2 t251 t252 t253 _ A4.out).mono ?_); rintro e w12 ⟨rfl, hb⟩; refine ⟨_, rfl, ?_⟩; have n0_ := Aside0.mk (bkB BK249.out hb); have n1_ := Aside0.mk (bkB BK250.out hb); have n2_ := Aside0.mk (below_step (belS HB.out) hb); clear BK249; clear BK250; clear HB; have BK249 := n0_; have BK250 := n1_; have HB := n2_; clear n0_ n1_ n2_; (try clear hb)) | ((with_reducible refine gate_dst (N := 7) rfl ?_); refine box_event ?hg (N := 7) ?hd (cs := #[.int .i64 0, .int .i64 0]) (t := 24) ?hr ?_; (case hd => rfl); (case hg => rfl); (case hr => first | (go_simp; done) | (go_simp; rfl)); intro gb254 hg w13 hbox hb; have n0_ := Aside0.mk (bkB BK249.out hb); have n1_ := Aside0.mk (bkB BK250.out hb); have n2_ := Aside0.mk (below_step (belS HB.out) hb); have n3_ := Aside0.mk (hbox); have n4_ := Aside0.mk (szB hg HB.out); have n5_ := Aside0.mk (szB hg HB.out); have n6_ := Aside0.mk ((bk1 hg BK249.out)); have n7_ := Aside0.mk ((bk2 hg BK249.out)); have n8_ := Aside0.mk ((bk1 hg BK250.out)); have n9_ := Aside0.mk ((bk2 hg BK250.out)); clear BK249; clear BK250; clear HB; have BK249 := n0_; have BK250 := n1_; have HB := n2_; have BK254 := n3_; have GW254 := n4_; have GE254 := n5_; have NB249_254 := n6_; have NB254_249 := n7_; have NB250_254 := n8_; have NB254_250 := n9_; clear n0_ n1_ n2_ n3_ n4_ n5_ n6_ n7_ n8_ n9_; clear hb hbox hg; have hnb14 := NB254_249.out; have hnc14 := NB249_254.out; have hnb15 := NB254_250.out; have hnc15 := NB250_254.out; have hcz16_0 : w13.cell? ⟨gb254, 0, none⟩ = some (.int .i64 0) := (blk_cell BK254.out 0).trans rfl; have hcz16_1 : w13.cell? ⟨gb254, 1, none⟩ = some (.int .i64 0) := (blk_cell BK254.out 1).trans rfl; have hfz16_0 := blk_frozen BK254.out 0; have hfz16_1 := blk_frozen BK254.out 1; have hcz17_0 : w13.cell? ⟨gb249, 0, none⟩ = some (.int .i64 a0_0) := (blk_cell BK249.out 0).trans rfl; have hcz17_1 : w13.cell? ⟨gb249, 1, none⟩ = some (.int .i64 a0_1) := (blk_cell BK249.out 1).trans rfl; have hcz17_2 : w13.cell? ⟨gb249, 2, none⟩ = some (.int .i64 a0_2) := (blk_cell BK249.out 2).trans rfl; have hfz17_0 := blk_frozen BK249.out 0; have hfz17_1 := blk_frozen BK249.out 1; have hfz17_2 := blk_frozen BK249.out 2; have hcz18_0 : w13.cell? ⟨gb250, 0, none⟩ = some (.int .i64 a1_0) := (blk_cell BK250.out 0).trans rfl; have hcz18_1 : w13.cell? ⟨gb250, 1, none⟩ = some (.int .i64 a1_1) := (blk_cell BK250.out 1).trans rfl; have hcz18_2 : w13.cell? ⟨gb250, 2, none⟩ = some (.int .i64 a1_2) := (blk_cell BK250.out 2).trans rfl; have hfz18_0 := blk_frozen BK250.out 0; have hfz18_1 := blk_frozen BK250.out 1; have hfz18_2 := blk_frozen BK250.out 2) | ((with_reducible refine gate_callee (f := 16) rfl ?_); refine goesL_ (some 22) rfl rfl Try.func16 (by kernel_rfl) rfl #[.agg #[.int .i64 a0_0, .int .i64 a0_1, .int .i64 a0_2], .agg #[.int .i64 a1_0, .int .i64 a1_1, .int .i64 a1_2], .int .i64 a2] rfl argN ?_; (with_reducible refine (marigraphref21_Between.calls k a0_0 a0_1 a0_2 a1_0 a1_1 a1_2 a2 t255 t256 t257 _ A5.out).mono ?_); rintro e w19 ⟨rfl, hb⟩; refine ⟨_, rfl, ?_⟩; have n0_ := Aside0.mk (bkBF BK249.out hb); have n1_ := Aside0.mk (bkBF BK250.out hb); have n2_ := Aside0.mk (blk_below (g := gb254) (o := .cells #[.int .i64 t251, .int .i64 t252] 24 (0, 0)) (by (with_reducible repeat (first | refine blk_drewN ?_ _ | refine blk_drew ?_ | refine blk_alloc ?_ _)); refine blk_put (cs := #[.int .i64 t251, .int .i64 0]) ?_ 1 _ rfl; (with_reducible repeat (first | refine blk_drewN ?_ _ | refine blk_drew ?_ | refine blk_alloc ?_ _)); refine blk_put (cs := #[.int .i64 0, .int .i64 0]) ?_ 0 _ rfl; (with_reducible repeat (first | refine blk_drewN ?_ _ | refine blk_drew ?_ | refine blk_alloc ?_ _)); exact BK254.out) hb); have n3_ := Aside0.mk (below_step (belS HB.out) hb); clear BK249; clear BK250; clear BK254; clear HB; have BK249 := n0_; have BK250 := n1_; have BK254 := n2_; have HB := n3_; clear n0_ n1_ n2_ n3_; (try clear hb)) | ((with_reducible refine gate_dst (N := 9) rfl ?_); refine box_event ?hg (N := 9) ?hd (cs := #[.int .i64 0, .int .i64 0]) (t := 24) ?hr ?_; (case hd => rfl); (case hg => rfl); (case hr => first | (go_simp; done) | (go_simp; rfl)); intro gb258 hg w20 hbox hb; have n0_ := Aside0.mk (bkB BK249.out hb); have n1_ := Aside0.mk (bkB BK250.out hb); have n2_ := Aside0.mk (bkB BK254.out hb); have n3_ := Aside0.mk (below_step (belS HB.out) hb); have n4_ := Aside0.mk (hbox); have n5_ := Aside0.mk (szB hg HB.out); have n6_ := Aside0.mk (szB hg HB.out); have n7_ := Aside0.mk ((bk1 hg BK249.out)); have n8_ := Aside0.mk ((bk2 hg BK249.out)); have n9_ := Aside0.mk ((bk1 hg BK250.out)); have n10_ := Aside0.mk ((bk2 hg BK250.out)); have n11_ := Aside0.mk ((bk1 hg BK254.out)); have n12_ := Aside0.mk ((bk2 hg BK254.out)); clear BK249; clear BK250; clear BK254; clear HB; have BK249 := n0_; have BK250 := n1_; have BK254 := n2_; have HB := n3_; have BK258 := n4_; have GW258 := n5_; have GE258 := n6_; have NB249_258 := n7_; have NB258_249 := n8_; have NB250_258 := n9_; have NB258_250 := n10_; have NB254_258 := n11_; have NB258_254 := n12_; clear n0_ n1_ n2_ n3_ n4_ n5_ n6_ n7_ n8_ n9_ n10_ n11_ n12_; clear hb hbox hg; have hnb21 := NB258_249.out; have hnc21 := NB249_258.out; have hnb22 := NB258_250.out; have hnc22 := NB250_258.out; have hnb23 := NB258_254.out; have hnc23 := NB254_258.out; have hcz24_0 : w20.cell? ⟨gb258, 0, none⟩ = some (.int .i64 0) := (blk_cell BK258.out 0).trans rfl; have hcz24_1 : w20.cell? ⟨gb258, 1, none⟩ = some (.int .i64 0) := (blk_cell BK258.out 1).trans rfl; have hfz24_0 := blk_frozen BK258.out 0; have hfz24_1 := blk_frozen BK258.out 1; have hcz25_0 : w20.cell? ⟨gb254, 0, none⟩ = some (.int .i64 t251) := (blk_cell BK254.out 0).trans rfl; have hcz25_1 : w20.cell? ⟨gb254, 1, none⟩ = some (.int .i64 t252) := (blk_cell BK254.out 1).trans rfl; have hfz25_0 := blk_frozen BK254.out 0; have hfz25_1 := blk_frozen BK254.out 1))
  go_ret
  exact ⟨by first | rfl | (simp [errW_none, errW_some] <;> rfl) | (simp [*, errW_none, errW_some] <;> rfl), (belS HB.out)⟩
 ·rw [if_neg c6] at H
  have c6b0 : (t251 == t255 && (t252 == t256)) = false := by simpa using c6
  (try (have c6b1 : decide (t251 = t255 && (t252 == t256)) = false := by simpa using c6))
  (try (have c6b2 : (t251 == t255 && (t252 == t256)) = false := by simpa using c6))
  (try (have c6b3 : ¬ (t251 = t255 && (t252 == t256)) := by simpa using c6))
  clear c6
  obtain rfl := Option.some.inj H
  go_enter Try.func8, Try.ntmps8
  go_wp2_with (first | ((with_reducible refine gate_dst (N := 3) rfl ?_); refine box_event ?hg (N := 3) ?hd (cs := #[.int .i64 a0_0, .int .i64 a0_1, .int .i64 a0_2]) (t := 26) ?hr ?_; (case hd => rfl); (case hg => rfl); (case hr => first | (go_simp; done) | (go_simp; rfl)); intro gb249 hg w26 hbox hb; have n0_ := Aside0.mk (below_step (belN HB.out) hb); have n1_ := Aside0.mk (hbox); have n2_ := Aside0.mk (szB hg HB.out); have n3_ := Aside0.mk (szB hg HB.out); clear HB; have HB := n0_; have BK249 := n1_; have GW249 := n2_; have GE249 := n3_; clear n0_ n1_ n2_ n3_; clear hb hbox hg) | ((with_reducible refine gate_dst (N := 4) rfl ?_); refine box_event ?hg (N := 4) ?hd (cs := #[.int .i64 a1_0, .int .i64 a1_1, .int .i64 a1_2]) (t := 26) ?hr ?_; (case hd => rfl); (case hg => rfl); (case hr => first | (go_simp; done) | (go_simp; rfl)); intro gb250 hg w27 hbox hb; have n0_ := Aside0.mk (bkB BK249.out hb); have n1_ := Aside0.mk (below_step (belS HB.out) hb); have n2_ := Aside0.mk (hbox); have n3_ := Aside0.mk (szB hg HB.out); have n4_ := Aside0.mk (szB hg HB.out); have n5_ := Aside0.mk ((bk1 hg BK249.out)); have n6_ := Aside0.mk ((bk2 hg BK249.out)); clear BK249; clear HB; have BK249 := n0_; have HB := n1_; have BK250 := n2_; have GW250 := n3_; have GE250 := n4_; have NB249_250 := n5_; have NB250_249 := n6_; clear n0_ n1_ n2_ n3_ n4_ n5_ n6_; clear hb hbox hg; have hnb28 := NB249_250.out; have hnc28 := NB250_249.out; have hcz29_0 : w27.cell? ⟨gb249, 0, none⟩ = some (.int .i64 a0_0) := (blk_cell BK249.out 0).trans rfl; have hcz29_1 : w27.cell? ⟨gb249, 1, none⟩ = some (.int .i64 a0_1) := (blk_cell BK249.out 1).trans rfl; have hcz29_2 : w27.cell? ⟨gb249, 2, none⟩ = some (.int .i64 a0_2) := (blk_cell BK249.out 2).trans rfl; have hfz29_0 := blk_frozen BK249.out 0; have hfz29_1 := blk_frozen BK249.out 1; have hfz29_2 := blk_frozen BK249.out 2; have hcz30_0 : w27.cell? ⟨gb250, 0, none⟩ = some (.int .i64 a1_0) := (blk_cell BK250.out 0).trans rfl; have hcz30_1 : w27.cell? ⟨gb250, 1, none⟩ = some (.int .i64 a1_1) := (blk_cell BK250.out 1).trans rfl; have hcz30_2 : w27.cell? ⟨gb250, 2, none⟩ = some (.int .i64 a1_2) := (blk_cell BK250.out 2).trans rfl; have hfz30_0 := blk_frozen BK250.out 0; have hfz30_1 := blk_frozen BK250.out 1; have hfz30_2 := blk_frozen BK250.out 2) | ((with_reducible refine gate_callee (f := 15) rfl ?_); refine goesL_ (some 15) rfl rfl Try.func15 (by kernel_rfl) rfl #[.agg #[.int .i64 a0_0, .int .i64 a0_1, .int .i64 a0_2], .agg #[.int .i64 a1_0, .int .i64 a1_1, .int .i64 a1_2], .int .i64 a2] rfl argN ?_; (with_reducible refine (lerp_Between.calls k a0_0 a0_1 a0_2 a1_0 a1_1 a1_2 a2 t251 t252 t253 _ A4.out).mono ?_); rintro e w31 ⟨rfl, hb⟩; refine ⟨_, rfl, ?_⟩; have n0_ := Aside0.mk (bkB BK249.out hb); have n1_ := Aside0.mk (bkB BK250.out hb); have n2_ := Aside0.mk (below_step (belS HB.out) hb); clear BK249; clear BK250; clear HB; have BK249 := n0_; have BK250 := n1_; have HB := n2_; clear n0_ n1_ n2_; (try clear hb)) | ((with_reducible refine gate_dst (N := 7) rfl ?_); refine box_event ?hg (N := 7) ?hd (cs := #[.int .i64 0, .int .i64 0]) (t := 24) ?hr ?_; (case hd => rfl); (case hg => rfl); (case hr => first | (go_simp; done) | (go_simp; rfl)); intro gb254 hg w32 hbox hb; have n0_ := Aside0.mk (bkB BK249.out hb); have n1_ := Aside0.mk (bkB BK250.out hb); have n2_ := Aside0.mk (below_step (belS HB.out) hb); have n3_ := Aside0.mk (hbox); have n4_ := Aside0.mk (szB hg HB.out); have n5_ := Aside0.mk (szB hg HB.out); have n6_ := Aside0.mk ((bk1 hg BK249.out)); have n7_ := Aside0.mk ((bk2 hg BK249.out)); have n8_ := Aside0.mk ((bk1 hg BK250.out)); have n9_ := Aside0.mk ((bk2 hg BK250.out)); clear BK249; clear BK250; clear HB; have BK249 := n0_; have BK250 := n1_; have HB := n2_; have BK254 := n3_; have GW254 := n4_; have GE254 := n5_; have NB249_254 := n6_; have NB254_249 := n7_; have NB250_254 := n8_; have NB254_250 := n9_; clear n0_ n1_ n2_ n3_ n4_ n5_ n6_ n7_ n8_ n9_; clear hb hbox hg; have hnb33 := NB254_249.out; have hnc33 := NB249_254.out; have hnb34 := NB254_250.out; have hnc34 := NB250_254.out; have hcz35_0 : w32.cell? ⟨gb254, 0, none⟩ = some (.int .i64 0) := (blk_cell BK254.out 0).trans rfl; have hcz35_1 : w32.cell? ⟨gb254, 1, none⟩ = some (.int .i64 0) := (blk_cell BK254.out 1).trans rfl; have hfz35_0 := blk_frozen BK254.out 0; have hfz35_1 := blk_frozen BK254.out 1; have hcz36_0 : w32.cell? ⟨gb249, 0, none⟩ = some (.int .i64 a0_0) := (blk_cell BK249.out 0).trans rfl; have hcz36_1 : w32.cell? ⟨gb249, 1, none⟩ = some (.int .i64 a0_1) := (blk_cell BK249.out 1).trans rfl; have hcz36_2 : w32.cell? ⟨gb249, 2, none⟩ = some (.int .i64 a0_2) := (blk_cell BK249.out 2).trans rfl; have hfz36_0 := blk_frozen BK249.out 0; have hfz36_1 := blk_frozen BK249.out 1; have hfz36_2 := blk_frozen BK249.out 2; have hcz37_0 : w32.cell? ⟨gb250, 0, none⟩ = some (.int .i64 a1_0) := (blk_cell BK250.out 0).trans rfl; have hcz37_1 : w32.cell? ⟨gb250, 1, none⟩ = some (.int .i64 a1_1) := (blk_cell BK250.out 1).trans rfl; have hcz37_2 : w32.cell? ⟨gb250, 2, none⟩ = some (.int .i64 a1_2) := (blk_cell BK250.out 2).trans rfl; have hfz37_0 := blk_frozen BK250.out 0; have hfz37_1 := blk_frozen BK250.out 1; have hfz37_2 := blk_frozen BK250.out 2) | ((with_reducible refine gate_callee (f := 16) rfl ?_); refine goesL_ (some 22) rfl rfl Try.func16 (by kernel_rfl) rfl #[.agg #[.int .i64 a0_0, .int .i64 a0_1, .int .i64 a0_2], .agg #[.int .i64 a1_0, .int .i64 a1_1, .int .i64 a1_2], .int .i64 a2] rfl argN ?_; (with_reducible refine (marigraphref21_Between.calls k a0_0 a0_1 a0_2 a1_0 a1_1 a1_2 a2 t255 t256 t257 _ A5.out).mono ?_); rintro e w38 ⟨rfl, hb⟩; refine ⟨_, rfl, ?_⟩; have n0_ := Aside0.mk (bkBF BK249.out hb); have n1_ := Aside0.mk (bkBF BK250.out hb); have n2_ := Aside0.mk (blk_below (g := gb254) (o := .cells #[.int .i64 t251, .int .i64 t252] 24 (0, 0)) (by (with_reducible repeat (first | refine blk_drewN ?_ _ | refine blk_drew ?_ | refine blk_alloc ?_ _)); refine blk_put (cs := #[.int .i64 t251, .int .i64 0]) ?_ 1 _ rfl; (with_reducible repeat (first | refine blk_drewN ?_ _ | refine blk_drew ?_ | refine blk_alloc ?_ _)); refine blk_put (cs := #[.int .i64 0, .int .i64 0]) ?_ 0 _ rfl; (with_reducible repeat (first | refine blk_drewN ?_ _ | refine blk_drew ?_ | refine blk_alloc ?_ _)); exact BK254.out) hb); have n3_ := Aside0.mk (below_step (belS HB.out) hb); clear BK249; clear BK250; clear BK254; clear HB; have BK249 := n0_; have BK250 := n1_; have BK254 := n2_; have HB := n3_; clear n0_ n1_ n2_ n3_; (try clear hb)) | ((with_reducible refine gate_dst (N := 9) rfl ?_); refine box_event ?hg (N := 9) ?hd (cs := #[.int .i64 0, .int .i64 0]) (t := 24) ?hr ?_; (case hd => rfl); (case hg => rfl); (case hr => first | (go_simp; done) | (go_simp; rfl)); intro gb258 hg w39 hbox hb; have n0_ := Aside0.mk (bkB BK249.out hb); have n1_ := Aside0.mk (bkB BK250.out hb); have n2_ := Aside0.mk (bkB BK254.out hb); have n3_ := Aside0.mk (below_step (belS HB.out) hb); have n4_ := Aside0.mk (hbox); have n5_ := Aside0.mk (szB hg HB.out); have n6_ := Aside0.mk (szB hg HB.out); have n7_ := Aside0.mk ((bk1 hg BK249.out)); have n8_ := Aside0.mk ((bk2 hg BK249.out)); have n9_ := Aside0.mk ((bk1 hg BK250.out)); have n10_ := Aside0.mk ((bk2 hg BK250.out)); have n11_ := Aside0.mk ((bk1 hg BK254.out)); have n12_ := Aside0.mk ((bk2 hg BK254.out)); clear BK249; clear BK250; clear BK254; clear HB; have BK249 := n0_; have BK250 := n1_; have BK254 := n2_; have HB := n3_; have BK258 := n4_; have GW258 := n5_; have GE258 := n6_; have NB249_258 := n7_; have NB258_249 := n8_; have NB250_258 := n9_; have NB258_250 := n10_; have NB254_258 := n11_; have NB258_254 := n12_; clear n0_ n1_ n2_ n3_ n4_ n5_ n6_ n7_ n8_ n9_ n10_ n11_ n12_; clear hb hbox hg; have hnb40 := NB258_249.out; have hnc40 := NB249_258.out; have hnb41 := NB258_250.out; have hnc41 := NB250_258.out; have hnb42 := NB258_254.out; have hnc42 := NB254_258.out; have hcz43_0 : w39.cell? ⟨gb258, 0, none⟩ = some (.int .i64 0) := (blk_cell BK258.out 0).trans rfl; have hcz43_1 : w39.cell? ⟨gb258, 1, none⟩ = some (.int .i64 0) := (blk_cell BK258.out 1).trans rfl; have hfz43_0 := blk_frozen BK258.out 0; have hfz43_1 := blk_frozen BK258.out 1; have hcz44_0 : w39.cell? ⟨gb254, 0, none⟩ = some (.int .i64 t251) := (blk_cell BK254.out 0).trans rfl; have hcz44_1 : w39.cell? ⟨gb254, 1, none⟩ = some (.int .i64 t252) := (blk_cell BK254.out 1).trans rfl; have hfz44_0 := blk_frozen BK254.out 0; have hfz44_1 := blk_frozen BK254.out 1))
  go_ret
  exact ⟨by first | rfl | (simp [errW_none, errW_some] <;> rfl) | (simp [*, errW_none, errW_some] <;> rfl), (belS HB.out)⟩

end Go.Proofs.Ytlmcnlaopolinaa.PLerpTells

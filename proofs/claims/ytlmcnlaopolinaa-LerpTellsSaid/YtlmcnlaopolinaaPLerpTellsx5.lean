/- The walk of the Go functions that a law reaches, told as plain functions; a program of this session has written it. No condition beyond the statement's own. -/
import Derived.Test.YtlmcnlaopolinaaPLerpTellsx0
import Derived.Test.YtlmcnlaopolinaaPLerpTellsx2
import Derived.Test.YtlmcnlaopolinaaPLerpTellsx3
import Derived.Test.YtlmcnlaopolinaaPLerpTellsx4
namespace Go.Proofs.Ytlmcnlaopolinaa.PLerpTells
open Go.RowKit Go.Proofs.YtlmcnlaopolinaaW.PrintWords Go.Proofs.YtlmcnlaopolinaaW.PrintLast Go.Proofs.YtlmcnlaopolinaaW.PrintMore
attribute [local go_sem] max2_int min2_int max_two min_two max_three min_three max_four min_four   -- for this text's walks alone
set_option linter.unusedVariables false
set_option linter.unusedSimpArgs false

/-! ### lerp_Between: function 15 -/
def lerp_Between.j0 : Nat → Int → Bool → Int → Int → Int → Int → Int → Int → Option (Int × Int × Int)
 | 0, _, _, _, _, _, _, _, _ => none
 | k + 1, x2, x12, x186000, x186001, x186002, x187000, x187001, x187002 => if x12 = true then (some (0, 0, 1)) else (if x2 = x186000 then (some (x186001, x186002, 0)) else (if x2 = x187000 then (some (x187001, x187002, 0)) else ((rat_Sub.f k x187001 x187002 x186001 x186002).bind fun bt190 => (if bt190.2.2 = 0 then ((rat_New.f k (wrap64 (x2 - x186000)) (wrap64 (x187000 - x186000))).bind fun bt194 => (if bt194.2.2 = 0 then ((rat_Mul.f k bt190.1 bt190.2.1 bt194.1 bt194.2.1).bind fun bt198 => (if bt198.2.2 = 0 then ((rat_Add.f k bt198.1 bt198.2.1 x186001 x186002).bind fun bt202 => (some (bt202.1, bt202.2.1, bt202.2.2))) else (some (0, 0, bt198.2.2)))) else (some (0, 0, bt194.2.2)))) else (some (0, 0, bt190.2.2))))))
def lerp_Between.f (k : Nat) (a0_0 : Int) (a0_1 : Int) (a0_2 : Int) (a1_0 : Int) (a1_1 : Int) (a1_2 : Int) (a2 : Int) : Option (Int × Int × Int) := if a0_0 ≥ a1_0 then (lerp_Between.j0 k a2 true a0_0 a0_1 a0_2 a1_0 a1_1 a1_2) else (if a2 < a0_0 then (lerp_Between.j0 k a2 true a0_0 a0_1 a0_2 a1_0 a1_1 a1_2) else (if a2 > a1_0 then (lerp_Between.j0 k a2 true a0_0 a0_1 a0_2 a1_0 a1_1 a1_2) else ((rat_Right.f k a0_1 a0_2).bind fun t188 => (if t188 = true then ((rat_Right.f k a1_1 a1_2).bind fun t189 => (lerp_Between.j0 k a2 (!t189) a0_0 a0_1 a0_2 a1_0 a1_1 a1_2)) else (lerp_Between.j0 k a2 true a0_0 a0_1 a0_2 a1_0 a1_1 a1_2)))))
theorem lerp_Between.mono_l : ∀ k, (∀ y0 y1 y2 y3 y4 y5 y6 y7, LeO (lerp_Between.j0 k y0 y1 y2 y3 y4 y5 y6 y7) (lerp_Between.j0 (k + 1) y0 y1 y2 y3 y4 y5 y6 y7))
 | 0 => fun _ _ _ _ _ _ _ _ r h => by simp [lerp_Between.j0] at h
 | k + 1 => by
  have ih0 := lerp_Between.mono_l k
  ·intro y0 y1 y2 y3 y4 y5 y6 y7
   unfold lerp_Between.j0
   repeat' first
   | (with_reducible exact ih0 _ _ _ _ _ _ _ _)
   | (with_reducible exact rat_Add.mono _ _ _ _ _)
   | (with_reducible exact rat_Mul.mono _ _ _ _ _)
   | (with_reducible exact rat_New.mono _ _ _)
   | (with_reducible exact rat_Right.mono _ _ _)
   | (with_reducible exact rat_Sub.mono _ _ _ _ _)
   | (with_reducible exact LeO.refl _)
   | (with_reducible exact LeO.none _)
   | (with_reducible refine LeO.ite ?_ ?_)
   | (with_reducible refine LeO.bind ?_ (fun _ => ?_))
   | exact ih0 _ _ _ _ _ _ _ _
   | exact rat_Add.mono _ _ _ _ _
   | exact rat_Mul.mono _ _ _ _ _
   | exact rat_New.mono _ _ _
   | exact rat_Right.mono _ _ _
   | exact rat_Sub.mono _ _ _ _ _
   | exact LeO.none _
   | refine LeO.ite ?_ ?_
   | refine LeO.bind ?_ (fun _ => ?_)
theorem lerp_Between.mono : ∀ a0 a1 a2 a3 a4 a5 a6 k, LeO (lerp_Between.f k a0 a1 a2 a3 a4 a5 a6) (lerp_Between.f (k + 1) a0 a1 a2 a3 a4 a5 a6) := by
 intro a0 a1 a2 a3 a4 a5 a6 k
 have ih0 := lerp_Between.mono_l k
 unfold lerp_Between.f
 repeat' first
   | (with_reducible exact ih0 _ _ _ _ _ _ _ _)
   | (with_reducible exact rat_Add.mono _ _ _ _ _)
   | (with_reducible exact rat_Mul.mono _ _ _ _ _)
   | (with_reducible exact rat_New.mono _ _ _)
   | (with_reducible exact rat_Right.mono _ _ _)
   | (with_reducible exact rat_Sub.mono _ _ _ _ _)
   | (with_reducible exact LeO.refl _)
   | (with_reducible exact LeO.none _)
   | (with_reducible refine LeO.ite ?_ ?_)
   | (with_reducible refine LeO.bind ?_ (fun _ => ?_))
   | exact ih0 _ _ _ _ _ _ _ _
   | exact rat_Add.mono _ _ _ _ _
   | exact rat_Mul.mono _ _ _ _ _
   | exact rat_New.mono _ _ _
   | exact rat_Right.mono _ _ _
   | exact rat_Sub.mono _ _ _ _ _
   | exact LeO.none _
   | refine LeO.ite ?_ ?_
   | refine LeO.bind ?_ (fun _ => ?_)
set_option maxHeartbeats 8000000 in
set_option maxRecDepth 100000 in
theorem lerp_Between.calls (k : Nat) (a0_0 : Int) (a0_1 : Int) (a0_2 : Int) (a1_0 : Int) (a1_1 : Int) (a1_2 : Int) (a2 : Int) (r1 : Int) (r2 : Int) (r3 : Int) (w : World) (h : lerp_Between.f k a0_0 a0_1 a0_2 a1_0 a1_1 a1_2 a2 = some (r1, r2, r3)) :
  Calls Try.prog 15 #[.agg #[.int .i64 a0_0, .int .i64 a0_1, .int .i64 a0_2], .agg #[.int .i64 a1_0, .int .i64 a1_1, .int .i64 a1_2], .int .i64 a2] w fun e w' => e = .returned (.tuple #[.agg #[.int .i64 r1, .int .i64 r2], .int .i64 r3]) ∧ Below w.heap.size w w' := by
 have hu26 := Try.underlying26
 have hu24 := Try.underlying24
 have HB := Aside0.mk (Below.refl w.heap.size w)
 have H : (if a0_0 ≥ a1_0 then (lerp_Between.j0 k a2 true a0_0 a0_1 a0_2 a1_0 a1_1 a1_2) else (if a2 < a0_0 then (lerp_Between.j0 k a2 true a0_0 a0_1 a0_2 a1_0 a1_1 a1_2) else (if a2 > a1_0 then (lerp_Between.j0 k a2 true a0_0 a0_1 a0_2 a1_0 a1_1 a1_2) else ((rat_Right.f k a0_1 a0_2).bind fun t188 => (if t188 = true then ((rat_Right.f k a1_1 a1_2).bind fun t189 => (lerp_Between.j0 k a2 (!t189) a0_0 a0_1 a0_2 a1_0 a1_1 a1_2)) else (lerp_Between.j0 k a2 true a0_0 a0_1 a0_2 a1_0 a1_1 a1_2)))))) = some (r1, r2, r3) := h
 clear h
 have HC4 := Aside0.mk H
 clear H
 go_enter Try.func15, Try.ntmps15
 go_upto_region 1 with (first | ((with_reducible refine gate_dst (N := 3) rfl ?_); refine box_event ?hg (N := 3) ?hd (cs := #[.int .i64 a0_0, .int .i64 a0_1, .int .i64 a0_2]) (t := 26) ?hr ?_; (case hd => rfl); (case hg => rfl); (case hr => first | (go_simp; done) | (go_simp; rfl)); intro gb185 hg w5 hbox hb; have n0_ := Aside0.mk (below_step (belN HB.out) hb); have n1_ := Aside0.mk (hbox); have n2_ := Aside0.mk (szB hg HB.out); have n3_ := Aside0.mk (szB hg HB.out); clear HB; have HB := n0_; have BK185 := n1_; have GW185 := n2_; have GE185 := n3_; clear n0_ n1_ n2_ n3_; clear hb hbox hg) | ((with_reducible refine gate_dst (N := 4) rfl ?_); refine box_event ?hg (N := 4) ?hd (cs := #[.int .i64 a1_0, .int .i64 a1_1, .int .i64 a1_2]) (t := 26) ?hr ?_; (case hd => rfl); (case hg => rfl); (case hr => first | (go_simp; done) | (go_simp; rfl)); intro gb186 hg w6 hbox hb; have n0_ := Aside0.mk (bkB BK185.out hb); have n1_ := Aside0.mk (below_step (belS HB.out) hb); have n2_ := Aside0.mk (hbox); have n3_ := Aside0.mk (szB hg HB.out); have n4_ := Aside0.mk (szB hg HB.out); have n5_ := Aside0.mk ((bk1 hg BK185.out)); have n6_ := Aside0.mk ((bk2 hg BK185.out)); clear BK185; clear HB; have BK185 := n0_; have HB := n1_; have BK186 := n2_; have GW186 := n3_; have GE186 := n4_; have NB185_186 := n5_; have NB186_185 := n6_; clear n0_ n1_ n2_ n3_ n4_ n5_ n6_; clear hb hbox hg) | ((with_reducible refine gate_dst (N := 6) rfl ?_); refine box_event ?hg (N := 6) ?hd (cs := #[.int .i64 0, .int .i64 0]) (t := 24) ?hr ?_; (case hd => rfl); (case hg => rfl); (case hr => first | (go_simp; done) | (go_simp; rfl)); intro gb187 hg w7 hbox hb; have n0_ := Aside0.mk (bkB BK185.out hb); have n1_ := Aside0.mk (bkB BK186.out hb); have n2_ := Aside0.mk (below_step (belS HB.out) hb); have n3_ := Aside0.mk (hbox); have n4_ := Aside0.mk (szB hg HB.out); have n5_ := Aside0.mk (szB hg HB.out); have n6_ := Aside0.mk ((bk1 hg BK185.out)); have n7_ := Aside0.mk ((bk2 hg BK185.out)); have n8_ := Aside0.mk ((bk1 hg BK186.out)); have n9_ := Aside0.mk ((bk2 hg BK186.out)); clear BK185; clear BK186; clear HB; have BK185 := n0_; have BK186 := n1_; have HB := n2_; have BK187 := n3_; have GW187 := n4_; have GE187 := n5_; have NB185_187 := n6_; have NB187_185 := n7_; have NB186_187 := n8_; have NB187_186 := n9_; clear n0_ n1_ n2_ n3_ n4_ n5_ n6_ n7_ n8_ n9_; clear hb hbox hg))
 (try simp only [Act.put, List.setIfInBounds_toArray, List.set_cons_zero, List.set_cons_succ])
 go_cut [12] (fun v12 wc => ∃ (kq : Nat) (x12_3 : Bool), v12 = .bool x12_3 ∧ Aside0 (lerp_Between.j0 kq a2 x12_3 a0_0 a0_1 a0_2 a1_0 a1_1 a1_2 = some (r1, r2, r3)) ∧ Aside0 (kq ≤ k) ∧ Aside0 (wc.heap[gb185]? = some (.cells #[.int .i64 a0_0, .int .i64 a0_1, .int .i64 a0_2] 26 (0, 0))) ∧ Aside0 (wc.heap[gb186]? = some (.cells #[.int .i64 a1_0, .int .i64 a1_1, .int .i64 a1_2] 26 (0, 0))) ∧ Aside0 (wc.heap[gb187]? = some (.cells #[.int .i64 0, .int .i64 0] 24 (0, 0))) ∧ Aside0 (Below w.heap.size w wc))
 case first =>
  have H := HC4.out
  clear HC4
  by_cases c8 : a0_0 ≥ a1_0
  ·rw [if_pos c8] at H
   have c8b0 : decide (a1_0 ≤ a0_0) = true := decide_eq_true c8
   clear c8
   (first | rw [c8b0] | rw [c8b1] | (simp only [i64_w, i32_w]; rw [c8b0]) | skip)
   have H' := Aside0.mk H
   clear H
   have hnb9 := NB185_186.out
   have hnc9 := NB186_185.out
   have hnb10 := NB185_187.out
   have hnc10 := NB187_185.out
   have hcz11_0 : w7.cell? ⟨gb185, 0, none⟩ = some (.int .i64 a0_0) := (blk_cell BK185.out 0).trans rfl
   have hcz11_1 : w7.cell? ⟨gb185, 1, none⟩ = some (.int .i64 a0_1) := (blk_cell BK185.out 1).trans rfl
   have hcz11_2 : w7.cell? ⟨gb185, 2, none⟩ = some (.int .i64 a0_2) := (blk_cell BK185.out 2).trans rfl
   have hfz11_0 := blk_frozen BK185.out 0
   have hfz11_1 := blk_frozen BK185.out 1
   have hfz11_2 := blk_frozen BK185.out 2
   have hnb12 := NB186_187.out
   have hnc12 := NB187_186.out
   have hcz13_0 : w7.cell? ⟨gb186, 0, none⟩ = some (.int .i64 a1_0) := (blk_cell BK186.out 0).trans rfl
   have hcz13_1 : w7.cell? ⟨gb186, 1, none⟩ = some (.int .i64 a1_1) := (blk_cell BK186.out 1).trans rfl
   have hcz13_2 : w7.cell? ⟨gb186, 2, none⟩ = some (.int .i64 a1_2) := (blk_cell BK186.out 2).trans rfl
   have hfz13_0 := blk_frozen BK186.out 0
   have hfz13_1 := blk_frozen BK186.out 1
   have hfz13_2 := blk_frozen BK186.out 2
   go_wp2
   go_meet
   case rel => exact ⟨_, (true), (by first | rfl | (simp; done) | (simp [*]; done)), H', ⟨by first | omega | exact Nat.le_refl _⟩, ⟨blkN BK185.out⟩, ⟨blkN BK186.out⟩, ⟨blkN BK187.out⟩, ⟨(belS HB.out)⟩⟩
  ·rw [if_neg c8] at H
   have c8b0 : decide (a1_0 ≤ a0_0) = false := decide_eq_false c8
   clear c8
   (first | rw [c8b0] | rw [c8b1] | (simp only [i64_w, i32_w]; rw [c8b0]) | skip)
   by_cases c14 : a2 < a0_0
   ·rw [if_pos c14] at H
    have c14b0 : decide (a2 < a0_0) = true := decide_eq_true c14
    clear c14
    have H' := Aside0.mk H
    clear H
    have hnb15 := NB185_186.out
    have hnc15 := NB186_185.out
    have hnb16 := NB185_187.out
    have hnc16 := NB187_185.out
    have hcz17_0 : w7.cell? ⟨gb185, 0, none⟩ = some (.int .i64 a0_0) := (blk_cell BK185.out 0).trans rfl
    have hcz17_1 : w7.cell? ⟨gb185, 1, none⟩ = some (.int .i64 a0_1) := (blk_cell BK185.out 1).trans rfl
    have hcz17_2 : w7.cell? ⟨gb185, 2, none⟩ = some (.int .i64 a0_2) := (blk_cell BK185.out 2).trans rfl
    have hfz17_0 := blk_frozen BK185.out 0
    have hfz17_1 := blk_frozen BK185.out 1
    have hfz17_2 := blk_frozen BK185.out 2
    have hnb18 := NB186_187.out
    have hnc18 := NB187_186.out
    have hcz19_0 : w7.cell? ⟨gb186, 0, none⟩ = some (.int .i64 a1_0) := (blk_cell BK186.out 0).trans rfl
    have hcz19_1 : w7.cell? ⟨gb186, 1, none⟩ = some (.int .i64 a1_1) := (blk_cell BK186.out 1).trans rfl
    have hcz19_2 : w7.cell? ⟨gb186, 2, none⟩ = some (.int .i64 a1_2) := (blk_cell BK186.out 2).trans rfl
    have hfz19_0 := blk_frozen BK186.out 0
    have hfz19_1 := blk_frozen BK186.out 1
    have hfz19_2 := blk_frozen BK186.out 2
    go_wp2
    go_meet
    case rel => exact ⟨_, (true), (by first | rfl | (simp; done) | (simp [*]; done)), H', ⟨by first | omega | exact Nat.le_refl _⟩, ⟨blkN BK185.out⟩, ⟨blkN BK186.out⟩, ⟨blkN BK187.out⟩, ⟨(belS HB.out)⟩⟩
   ·rw [if_neg c14] at H
    have c14b0 : decide (a2 < a0_0) = false := decide_eq_false c14
    clear c14
    by_cases c20 : a2 > a1_0
    ·rw [if_pos c20] at H
     have c20b0 : decide (a1_0 < a2) = true := decide_eq_true c20
     clear c20
     have H' := Aside0.mk H
     clear H
     have hnb21 := NB185_186.out
     have hnc21 := NB186_185.out
     have hnb22 := NB185_187.out
     have hnc22 := NB187_185.out
     have hcz23_0 : w7.cell? ⟨gb185, 0, none⟩ = some (.int .i64 a0_0) := (blk_cell BK185.out 0).trans rfl
     have hcz23_1 : w7.cell? ⟨gb185, 1, none⟩ = some (.int .i64 a0_1) := (blk_cell BK185.out 1).trans rfl
     have hcz23_2 : w7.cell? ⟨gb185, 2, none⟩ = some (.int .i64 a0_2) := (blk_cell BK185.out 2).trans rfl
     have hfz23_0 := blk_frozen BK185.out 0
     have hfz23_1 := blk_frozen BK185.out 1
     have hfz23_2 := blk_frozen BK185.out 2
     have hnb24 := NB186_187.out
     have hnc24 := NB187_186.out
     have hcz25_0 : w7.cell? ⟨gb186, 0, none⟩ = some (.int .i64 a1_0) := (blk_cell BK186.out 0).trans rfl
     have hcz25_1 : w7.cell? ⟨gb186, 1, none⟩ = some (.int .i64 a1_1) := (blk_cell BK186.out 1).trans rfl
     have hcz25_2 : w7.cell? ⟨gb186, 2, none⟩ = some (.int .i64 a1_2) := (blk_cell BK186.out 2).trans rfl
     have hfz25_0 := blk_frozen BK186.out 0
     have hfz25_1 := blk_frozen BK186.out 1
     have hfz25_2 := blk_frozen BK186.out 2
     go_wp2
     go_meet
     case rel => exact ⟨_, (true), (by first | rfl | (simp; done) | (simp [*]; done)), H', ⟨by first | omega | exact Nat.le_refl _⟩, ⟨blkN BK185.out⟩, ⟨blkN BK186.out⟩, ⟨blkN BK187.out⟩, ⟨(belS HB.out)⟩⟩
    ·rw [if_neg c20] at H
     have c20b0 : decide (a1_0 < a2) = false := decide_eq_false c20
     clear c20
     replace H := Option.bind_eq_some_iff.mp H
     obtain ⟨t188, A260, H⟩ := H
     replace H : (if t188 = true then ((rat_Right.f k a1_1 a1_2).bind fun t189 => (lerp_Between.j0 k a2 (!t189) a0_0 a0_1 a0_2 a1_0 a1_1 a1_2)) else (lerp_Between.j0 k a2 true a0_0 a0_1 a0_2 a1_0 a1_1 a1_2)) = some (r1, r2, r3) := H
     have A26 := Aside0.mk A260
     clear A260
     by_cases c27 : t188 = true
     ·subst c27
      have H1 : ((rat_Right.f k a1_1 a1_2).bind fun t189 => (lerp_Between.j0 k a2 (!t189) a0_0 a0_1 a0_2 a1_0 a1_1 a1_2)) = some (r1, r2, r3) := by rw [if_pos rfl] at H; exact H
      clear H
      have H := H1
      clear H1
      replace H := Option.bind_eq_some_iff.mp H
      obtain ⟨t189, A280, H⟩ := H
      replace H : (lerp_Between.j0 k a2 (!t189) a0_0 a0_1 a0_2 a1_0 a1_1 a1_2) = some (r1, r2, r3) := H
      have A28 := Aside0.mk A280
      clear A280
      have H' := Aside0.mk H
      clear H
      have hnb29 := NB185_186.out
      have hnc29 := NB186_185.out
      have hnb30 := NB185_187.out
      have hnc30 := NB187_185.out
      have hcz31_0 : w7.cell? ⟨gb185, 0, none⟩ = some (.int .i64 a0_0) := (blk_cell BK185.out 0).trans rfl
      have hcz31_1 : w7.cell? ⟨gb185, 1, none⟩ = some (.int .i64 a0_1) := (blk_cell BK185.out 1).trans rfl
      have hcz31_2 : w7.cell? ⟨gb185, 2, none⟩ = some (.int .i64 a0_2) := (blk_cell BK185.out 2).trans rfl
      have hfz31_0 := blk_frozen BK185.out 0
      have hfz31_1 := blk_frozen BK185.out 1
      have hfz31_2 := blk_frozen BK185.out 2
      have hnb32 := NB186_187.out
      have hnc32 := NB187_186.out
      have hcz33_0 : w7.cell? ⟨gb186, 0, none⟩ = some (.int .i64 a1_0) := (blk_cell BK186.out 0).trans rfl
      have hcz33_1 : w7.cell? ⟨gb186, 1, none⟩ = some (.int .i64 a1_1) := (blk_cell BK186.out 1).trans rfl
      have hcz33_2 : w7.cell? ⟨gb186, 2, none⟩ = some (.int .i64 a1_2) := (blk_cell BK186.out 2).trans rfl
      have hfz33_0 := blk_frozen BK186.out 0
      have hfz33_1 := blk_frozen BK186.out 1
      have hfz33_2 := blk_frozen BK186.out 2
      go_wp2_with (first | (go_at_call 25; (with_reducible refine (rat_Right.calls k a0_1 a0_2 true _ A26.out).mono ?_); rintro e w34 ⟨rfl, hb⟩; have n0_ := Aside0.mk (bkB BK185.out hb); have n1_ := Aside0.mk (bkB BK186.out hb); have n2_ := Aside0.mk (bkB BK187.out hb); have n3_ := Aside0.mk (below_step (belS HB.out) hb); clear BK185; clear BK186; clear BK187; clear HB; have BK185 := n0_; have BK186 := n1_; have BK187 := n2_; have HB := n3_; clear n0_ n1_ n2_ n3_; (try clear hb); have hcz35_0 : w34.cell? ⟨gb186, 0, none⟩ = some (.int .i64 a1_0) := (blk_cell BK186.out 0).trans rfl; have hcz35_1 : w34.cell? ⟨gb186, 1, none⟩ = some (.int .i64 a1_1) := (blk_cell BK186.out 1).trans rfl; have hcz35_2 : w34.cell? ⟨gb186, 2, none⟩ = some (.int .i64 a1_2) := (blk_cell BK186.out 2).trans rfl; have hfz35_0 := blk_frozen BK186.out 0; have hfz35_1 := blk_frozen BK186.out 1; have hfz35_2 := blk_frozen BK186.out 2) | (go_at_call 25; (with_reducible refine (rat_Right.calls k a1_1 a1_2 t189 _ A28.out).mono ?_); rintro e w36 ⟨rfl, hb⟩; have n0_ := Aside0.mk (bkB BK185.out hb); have n1_ := Aside0.mk (bkB BK186.out hb); have n2_ := Aside0.mk (bkB BK187.out hb); have n3_ := Aside0.mk (below_step (belS HB.out) hb); clear BK185; clear BK186; clear BK187; clear HB; have BK185 := n0_; have BK186 := n1_; have BK187 := n2_; have HB := n3_; clear n0_ n1_ n2_ n3_; (try clear hb)))
      go_meet
      case rel => exact ⟨_, (!t189), (by first | rfl | (simp; done) | (simp [*]; done)), H', ⟨by first | omega | exact Nat.le_refl _⟩, ⟨blkN BK185.out⟩, ⟨blkN BK186.out⟩, ⟨blkN BK187.out⟩, ⟨(belS HB.out)⟩⟩
     ·replace c27 := Bool.eq_false_iff.mpr c27
      subst c27
      have H1 : (lerp_Between.j0 k a2 true a0_0 a0_1 a0_2 a1_0 a1_1 a1_2) = some (r1, r2, r3) := by rw [if_neg (show ¬ (false = true) by decide)] at H; exact H
      clear H
      have H := H1
      clear H1
      have H' := Aside0.mk H
      clear H
      have hnb37 := NB185_186.out
      have hnc37 := NB186_185.out
      have hnb38 := NB185_187.out
      have hnc38 := NB187_185.out
      have hcz39_0 : w7.cell? ⟨gb185, 0, none⟩ = some (.int .i64 a0_0) := (blk_cell BK185.out 0).trans rfl
      have hcz39_1 : w7.cell? ⟨gb185, 1, none⟩ = some (.int .i64 a0_1) := (blk_cell BK185.out 1).trans rfl
      have hcz39_2 : w7.cell? ⟨gb185, 2, none⟩ = some (.int .i64 a0_2) := (blk_cell BK185.out 2).trans rfl
      have hfz39_0 := blk_frozen BK185.out 0
      have hfz39_1 := blk_frozen BK185.out 1
      have hfz39_2 := blk_frozen BK185.out 2
      have hnb40 := NB186_187.out
      have hnc40 := NB187_186.out
      have hcz41_0 : w7.cell? ⟨gb186, 0, none⟩ = some (.int .i64 a1_0) := (blk_cell BK186.out 0).trans rfl
      have hcz41_1 : w7.cell? ⟨gb186, 1, none⟩ = some (.int .i64 a1_1) := (blk_cell BK186.out 1).trans rfl
      have hcz41_2 : w7.cell? ⟨gb186, 2, none⟩ = some (.int .i64 a1_2) := (blk_cell BK186.out 2).trans rfl
      have hfz41_0 := blk_frozen BK186.out 0
      have hfz41_1 := blk_frozen BK186.out 1
      have hfz41_2 := blk_frozen BK186.out 2
      go_wp2_with (first | (go_at_call 25; (with_reducible refine (rat_Right.calls k a0_1 a0_2 false _ A26.out).mono ?_); rintro e w42 ⟨rfl, hb⟩; have n0_ := Aside0.mk (bkB BK185.out hb); have n1_ := Aside0.mk (bkB BK186.out hb); have n2_ := Aside0.mk (bkB BK187.out hb); have n3_ := Aside0.mk (below_step (belS HB.out) hb); clear BK185; clear BK186; clear BK187; clear HB; have BK185 := n0_; have BK186 := n1_; have BK187 := n2_; have HB := n3_; clear n0_ n1_ n2_ n3_; (try clear hb)))
      go_meet
      case rel => exact ⟨_, (true), (by first | rfl | (simp; done) | (simp [*]; done)), H', ⟨by first | omega | exact Nat.le_refl _⟩, ⟨blkN BK185.out⟩, ⟨blkN BK186.out⟩, ⟨blkN BK187.out⟩, ⟨(belS HB.out)⟩⟩
 case rest =>
  clear HC4
  try clear c1
  try clear c2
  try clear p2
  try clear c3
  try clear c4
  try clear c8
  try clear c8b0
  try clear c9
  try clear c10
  try clear c12
  try clear c14
  try clear c14b0
  try clear c15
  try clear c16
  try clear c18
  try clear c20
  try clear c20b0
  try clear c21
  try clear c22
  try clear c24
  try clear c27
  try clear c29
  try clear c30
  try clear c32
  try clear c37
  try clear c38
  try clear c40
  try clear hcz11_0
  try clear hcz11_1
  try clear hcz11_2
  try clear hcz13_0
  try clear hcz13_1
  try clear hcz13_2
  try clear hcz17_0
  try clear hcz17_1
  try clear hcz17_2
  try clear hcz19_0
  try clear hcz19_1
  try clear hcz19_2
  try clear hcz23_0
  try clear hcz23_1
  try clear hcz23_2
  try clear hcz25_0
  try clear hcz25_1
  try clear hcz25_2
  try clear hcz31_0
  try clear hcz31_1
  try clear hcz31_2
  try clear hcz33_0
  try clear hcz33_1
  try clear hcz33_2
  try clear hcz35_0
  try clear hcz35_1
  try clear hcz35_2
  try clear hcz39_0
  try clear hcz39_1
  try clear hcz39_2
  try clear hcz41_0
  try clear hcz41_1
  try clear hcz41_2
  try clear hfz11_0
  try clear hfz11_1
  try clear hfz11_2
  try clear hfz13_0
  try clear hfz13_1
  try clear hfz13_2
  try clear hfz17_0
  try clear hfz17_1
  try clear hfz17_2
  try clear hfz19_0
  try clear hfz19_1
  try clear hfz19_2
  try clear hfz23_0
  try clear hfz23_1
  try clear hfz23_2
  try clear hfz25_0
  try clear hfz25_1
  try clear hfz25_2
  try clear hfz31_0
  try clear hfz31_1
  try clear hfz31_2
  try clear hfz33_0
  try clear hfz33_1
  try clear hfz33_2
  try clear hfz35_0
  try clear hfz35_1
  try clear hfz35_2
  try clear hfz39_0
  try clear hfz39_1
  try clear hfz39_2
  try clear hfz41_0
  try clear hfz41_1
  try clear hfz41_2
  obtain ⟨kq, x12_3, rfl, HA, HJ3, BK185, BK186, BK187, HB⟩ := hcut
  cases kq with
  | zero => exact absurd HA.out (by simp [lerp_Between.j0])
  | succ kj3 =>
   have H := HA.out
   clear HA
   simp only [lerp_Between.j0] at H
   by_cases c43 : x12_3 = true
   ·subst c43
    have H1 : (some (0, 0, 1)) = some (r1, r2, r3) := by rw [if_pos rfl] at H; exact H
    clear H
    have H := H1
    clear H1
    simp only [Option.some.injEq, Prod.mk.injEq] at H
    obtain ⟨rfl, rfl, rfl⟩ := H
    have hnb44 := NB187_185.out
    have hnc44 := NB185_187.out
    have hnb45 := NB187_186.out
    have hnc45 := NB186_187.out
    have hcz46_0 : wc.cell? ⟨gb187, 0, none⟩ = some (.int .i64 0) := (blk_cell BK187.out 0).trans rfl
    have hcz46_1 : wc.cell? ⟨gb187, 1, none⟩ = some (.int .i64 0) := (blk_cell BK187.out 1).trans rfl
    have hfz46_0 := blk_frozen BK187.out 0
    have hfz46_1 := blk_frozen BK187.out 1
    go_wp2
    refine bodyPost_ret (results_ct rfl _ _ gb187 24 #[.int .i64 0, .int .i64 0] (0, 0) _ rfl (by (with_reducible repeat (first | refine blk_drewN ?_ _ | refine blk_drew ?_ | refine blk_alloc ?_ _)); refine blk_put (cs := #[.int .i64 0, .int .i64 0]) ?_ 1 _ rfl; (with_reducible repeat (first | refine blk_drewN ?_ _ | refine blk_drew ?_ | refine blk_alloc ?_ _)); refine blk_put (cs := #[.int .i64 0, .int .i64 0]) ?_ 0 _ rfl; (with_reducible repeat (first | refine blk_drewN ?_ _ | refine blk_drew ?_ | refine blk_alloc ?_ _)); exact BK187.out) Try.underlying24 rfl (by kernel_rfl)) rfl ?_
    exact ⟨by first | rfl | (simp [errW_none, errW_some] <;> rfl) | (simp [*, errW_none, errW_some] <;> rfl), (belS HB.out)⟩
   ·replace c43 := Bool.eq_false_iff.mpr c43
    subst c43
    have H1 : (if a2 = a0_0 then (some (a0_1, a0_2, 0)) else (if a2 = a1_0 then (some (a1_1, a1_2, 0)) else ((rat_Sub.f kj3 a1_1 a1_2 a0_1 a0_2).bind fun bt190 => (if bt190.2.2 = 0 then ((rat_New.f kj3 (wrap64 (a2 - a0_0)) (wrap64 (a1_0 - a0_0))).bind fun bt194 => (if bt194.2.2 = 0 then ((rat_Mul.f kj3 bt190.1 bt190.2.1 bt194.1 bt194.2.1).bind fun bt198 => (if bt198.2.2 = 0 then ((rat_Add.f kj3 bt198.1 bt198.2.1 a0_1 a0_2).bind fun bt202 => (some (bt202.1, bt202.2.1, bt202.2.2))) else (some (0, 0, bt198.2.2)))) else (some (0, 0, bt194.2.2)))) else (some (0, 0, bt190.2.2)))))) = some (r1, r2, r3) := by rw [if_neg (show ¬ (false = true) by decide)] at H; exact H
    clear H
    have H := H1
    clear H1
    by_cases c47 : a2 = a0_0
    ·rw [if_pos c47] at H
     have c47b0 : (a2 == a0_0) = true := beq_iff_eq.mpr c47
     have c47b1 : (a2 != a0_0) = false := bne_eq_false_iff_eq.mpr c47
     clear c47
     simp only [Option.some.injEq, Prod.mk.injEq] at H
     obtain ⟨rfl, rfl, rfl⟩ := H
     have hnb48 := NB185_186.out
     have hnc48 := NB186_185.out
     have hnb49 := NB185_187.out
     have hnc49 := NB187_185.out
     have hcz50_0 : wc.cell? ⟨gb185, 0, none⟩ = some (.int .i64 a0_0) := (blk_cell BK185.out 0).trans rfl
     have hcz50_1 : wc.cell? ⟨gb185, 1, none⟩ = some (.int .i64 a0_1) := (blk_cell BK185.out 1).trans rfl
     have hcz50_2 : wc.cell? ⟨gb185, 2, none⟩ = some (.int .i64 a0_2) := (blk_cell BK185.out 2).trans rfl
     have hfz50_0 := blk_frozen BK185.out 0
     have hfz50_1 := blk_frozen BK185.out 1
     have hfz50_2 := blk_frozen BK185.out 2
     have hnb51 := NB187_186.out
     have hnc51 := NB186_187.out
     have hcz52_0 : wc.cell? ⟨gb187, 0, none⟩ = some (.int .i64 0) := (blk_cell BK187.out 0).trans rfl
     have hcz52_1 : wc.cell? ⟨gb187, 1, none⟩ = some (.int .i64 0) := (blk_cell BK187.out 1).trans rfl
     have hfz52_0 := blk_frozen BK187.out 0
     have hfz52_1 := blk_frozen BK187.out 1
     go_wp2
     refine bodyPost_ret (results_ct rfl _ _ gb187 24 #[.int .i64 a0_1, .int .i64 a0_2] (0, 0) _ rfl (by (with_reducible repeat (first | refine blk_drewN ?_ _ | refine blk_drew ?_ | refine blk_alloc ?_ _)); refine blk_put (cs := #[.int .i64 a0_1, .int .i64 0]) ?_ 1 _ rfl; (with_reducible repeat (first | refine blk_drewN ?_ _ | refine blk_drew ?_ | refine blk_alloc ?_ _)); refine blk_put (cs := #[.int .i64 0, .int .i64 0]) ?_ 0 _ rfl; (with_reducible repeat (first | refine blk_drewN ?_ _ | refine blk_drew ?_ | refine blk_alloc ?_ _)); exact BK187.out) Try.underlying24 rfl (by kernel_rfl)) rfl ?_
     exact ⟨by first | rfl | (simp [errW_none, errW_some] <;> rfl) | (simp [*, errW_none, errW_some] <;> rfl), (belS HB.out)⟩
    ·rw [if_neg c47] at H
     have c47b0 : (a2 == a0_0) = false := beq_eq_false_iff_ne.mpr c47
     have c47b1 : (a2 != a0_0) = true := bne_iff_ne.mpr c47
     by_cases c53 : a2 = a1_0
     ·rw [if_pos c53] at H
      have c53b0 : (a2 == a1_0) = true := beq_iff_eq.mpr c53
      have c53b1 : (a2 != a1_0) = false := bne_eq_false_iff_eq.mpr c53
      clear c53
      simp only [Option.some.injEq, Prod.mk.injEq] at H
      obtain ⟨rfl, rfl, rfl⟩ := H
      have hnb54 := NB185_186.out
      have hnc54 := NB186_185.out
      have hnb55 := NB185_187.out
      have hnc55 := NB187_185.out
      have hcz56_0 : wc.cell? ⟨gb185, 0, none⟩ = some (.int .i64 a0_0) := (blk_cell BK185.out 0).trans rfl
      have hcz56_1 : wc.cell? ⟨gb185, 1, none⟩ = some (.int .i64 a0_1) := (blk_cell BK185.out 1).trans rfl
      have hcz56_2 : wc.cell? ⟨gb185, 2, none⟩ = some (.int .i64 a0_2) := (blk_cell BK185.out 2).trans rfl
      have hfz56_0 := blk_frozen BK185.out 0
      have hfz56_1 := blk_frozen BK185.out 1
      have hfz56_2 := blk_frozen BK185.out 2
      have hnb57 := NB186_187.out
      have hnc57 := NB187_186.out
      have hcz58_0 : wc.cell? ⟨gb186, 0, none⟩ = some (.int .i64 a1_0) := (blk_cell BK186.out 0).trans rfl
      have hcz58_1 : wc.cell? ⟨gb186, 1, none⟩ = some (.int .i64 a1_1) := (blk_cell BK186.out 1).trans rfl
      have hcz58_2 : wc.cell? ⟨gb186, 2, none⟩ = some (.int .i64 a1_2) := (blk_cell BK186.out 2).trans rfl
      have hfz58_0 := blk_frozen BK186.out 0
      have hfz58_1 := blk_frozen BK186.out 1
      have hfz58_2 := blk_frozen BK186.out 2
      have hcz59_0 : wc.cell? ⟨gb187, 0, none⟩ = some (.int .i64 0) := (blk_cell BK187.out 0).trans rfl
      have hcz59_1 : wc.cell? ⟨gb187, 1, none⟩ = some (.int .i64 0) := (blk_cell BK187.out 1).trans rfl
      have hfz59_0 := blk_frozen BK187.out 0
      have hfz59_1 := blk_frozen BK187.out 1
      go_wp2
      refine bodyPost_ret (results_ct rfl _ _ gb187 24 #[.int .i64 a1_1, .int .i64 a1_2] (0, 0) _ rfl (by (with_reducible repeat (first | refine blk_drewN ?_ _ | refine blk_drew ?_ | refine blk_alloc ?_ _)); refine blk_put (cs := #[.int .i64 a1_1, .int .i64 0]) ?_ 1 _ rfl; (with_reducible repeat (first | refine blk_drewN ?_ _ | refine blk_drew ?_ | refine blk_alloc ?_ _)); refine blk_put (cs := #[.int .i64 0, .int .i64 0]) ?_ 0 _ rfl; (with_reducible repeat (first | refine blk_drewN ?_ _ | refine blk_drew ?_ | refine blk_alloc ?_ _)); exact BK187.out) Try.underlying24 rfl (by kernel_rfl)) rfl ?_
      exact ⟨by first | rfl | (simp [errW_none, errW_some] <;> rfl) | (simp [*, errW_none, errW_some] <;> rfl), (belS HB.out)⟩
     ·rw [if_neg c53] at H
      have c53b0 : (a2 == a1_0) = false := beq_eq_false_iff_ne.mpr c53
      have c53b1 : (a2 != a1_0) = true := bne_iff_ne.mpr c53
      replace H := Option.bind_eq_some_iff.mp H
      obtain ⟨⟨t190, t191, t192⟩, A600, H⟩ := H
      replace H : (if t192 = 0 then ((rat_New.f kj3 (wrap64 (a2 - a0_0)) (wrap64 (a1_0 - a0_0))).bind fun bt194 => (if bt194.2.2 = 0 then ((rat_Mul.f kj3 t190 t191 bt194.1 bt194.2.1).bind fun bt198 => (if bt198.2.2 = 0 then ((rat_Add.f kj3 bt198.1 bt198.2.1 a0_1 a0_2).bind fun bt202 => (some (bt202.1, bt202.2.1, bt202.2.2))) else (some (0, 0, bt198.2.2)))) else (some (0, 0, bt194.2.2)))) else (some (0, 0, t192))) = some (r1, r2, r3) := H
      have A60 := Aside0.mk A600
      clear A600
      by_cases c61 : t192 = 0
      ·rw [if_pos c61] at H
       have c61b0 : (t192 == 0) = true := beq_iff_eq.mpr c61
       have c61b1 : (t192 != 0) = false := bne_eq_false_iff_eq.mpr c61
       clear c61
       replace H := Option.bind_eq_some_iff.mp H
       obtain ⟨⟨t194, t195, t196⟩, A620, H⟩ := H
       replace H : (if t196 = 0 then ((rat_Mul.f kj3 t190 t191 t194 t195).bind fun bt198 => (if bt198.2.2 = 0 then ((rat_Add.f kj3 bt198.1 bt198.2.1 a0_1 a0_2).bind fun bt202 => (some (bt202.1, bt202.2.1, bt202.2.2))) else (some (0, 0, bt198.2.2)))) else (some (0, 0, t196))) = some (r1, r2, r3) := H
       have A62 := Aside0.mk A620
       clear A620
       by_cases c63 : t196 = 0
       ·rw [if_pos c63] at H
        have c63b0 : (t196 == 0) = true := beq_iff_eq.mpr c63
        have c63b1 : (t196 != 0) = false := bne_eq_false_iff_eq.mpr c63
        clear c63
        replace H := Option.bind_eq_some_iff.mp H
        obtain ⟨⟨t198, t199, t200⟩, A640, H⟩ := H
        replace H : (if t200 = 0 then ((rat_Add.f kj3 t198 t199 a0_1 a0_2).bind fun bt202 => (some (bt202.1, bt202.2.1, bt202.2.2))) else (some (0, 0, t200))) = some (r1, r2, r3) := H
        have A64 := Aside0.mk A640
        clear A640
        by_cases c65 : t200 = 0
        ·rw [if_pos c65] at H
         have c65b0 : (t200 == 0) = true := beq_iff_eq.mpr c65
         have c65b1 : (t200 != 0) = false := bne_eq_false_iff_eq.mpr c65
         clear c65
         replace H := Option.bind_eq_some_iff.mp H
         obtain ⟨⟨t202, t203, t204⟩, A660, H⟩ := H
         replace H : (some (t202, t203, t204)) = some (r1, r2, r3) := H
         have A66 := Aside0.mk A660
         clear A660
         simp only [Option.some.injEq, Prod.mk.injEq] at H
         obtain ⟨rfl, rfl, rfl⟩ := H
         have hnb67 := NB185_186.out
         have hnc67 := NB186_185.out
         have hnb68 := NB185_187.out
         have hnc68 := NB187_185.out
         have hcz69_0 : wc.cell? ⟨gb185, 0, none⟩ = some (.int .i64 a0_0) := (blk_cell BK185.out 0).trans rfl
         have hcz69_1 : wc.cell? ⟨gb185, 1, none⟩ = some (.int .i64 a0_1) := (blk_cell BK185.out 1).trans rfl
         have hcz69_2 : wc.cell? ⟨gb185, 2, none⟩ = some (.int .i64 a0_2) := (blk_cell BK185.out 2).trans rfl
         have hfz69_0 := blk_frozen BK185.out 0
         have hfz69_1 := blk_frozen BK185.out 1
         have hfz69_2 := blk_frozen BK185.out 2
         have hnb70 := NB186_187.out
         have hnc70 := NB187_186.out
         have hcz71_0 : wc.cell? ⟨gb186, 0, none⟩ = some (.int .i64 a1_0) := (blk_cell BK186.out 0).trans rfl
         have hcz71_1 : wc.cell? ⟨gb186, 1, none⟩ = some (.int .i64 a1_1) := (blk_cell BK186.out 1).trans rfl
         have hcz71_2 : wc.cell? ⟨gb186, 2, none⟩ = some (.int .i64 a1_2) := (blk_cell BK186.out 2).trans rfl
         have hfz71_0 := blk_frozen BK186.out 0
         have hfz71_1 := blk_frozen BK186.out 1
         have hfz71_2 := blk_frozen BK186.out 2
         go_wp2_with (first | ((with_reducible refine gate_callee (f := 26) rfl ?_); refine goesL_ (some 62) rfl rfl Try.func26 (by kernel_rfl) rfl #[.agg #[.int .i64 a1_1, .int .i64 a1_2], .agg #[.int .i64 a0_1, .int .i64 a0_2]] rfl argN ?_; (with_reducible refine (rat_Sub.calls kj3 a1_1 a1_2 a0_1 a0_2 t190 t191 t192 _ A60.out).mono ?_); rintro e w72 ⟨rfl, hb⟩; refine ⟨_, rfl, ?_⟩; have n0_ := Aside0.mk (bkB BK185.out hb); have n1_ := Aside0.mk (bkB BK186.out hb); have n2_ := Aside0.mk (bkB BK187.out hb); have n3_ := Aside0.mk (below_step (belS HB.out) hb); clear BK185; clear BK186; clear BK187; clear HB; have BK185 := n0_; have BK186 := n1_; have BK187 := n2_; have HB := n3_; clear n0_ n1_ n2_ n3_; (try clear hb)) | ((with_reducible refine gate_dst (N := 8) rfl ?_); refine box_event ?hg (N := 8) ?hd (cs := #[.int .i64 0, .int .i64 0]) (t := 24) ?hr ?_; (case hd => rfl); (case hg => rfl); (case hr => first | (go_simp; done) | (go_simp; rfl)); intro gb193 hg w73 hbox hb; have n0_ := Aside0.mk (bkB BK185.out hb); have n1_ := Aside0.mk (bkB BK186.out hb); have n2_ := Aside0.mk (bkB BK187.out hb); have n3_ := Aside0.mk (below_step (belS HB.out) hb); have n4_ := Aside0.mk (hbox); have n5_ := Aside0.mk (szB hg HB.out); have n6_ := Aside0.mk (szB hg HB.out); have n7_ := Aside0.mk ((bk1 hg BK185.out)); have n8_ := Aside0.mk ((bk2 hg BK185.out)); have n9_ := Aside0.mk ((bk1 hg BK186.out)); have n10_ := Aside0.mk ((bk2 hg BK186.out)); have n11_ := Aside0.mk ((bk1 hg BK187.out)); have n12_ := Aside0.mk ((bk2 hg BK187.out)); clear BK185; clear BK186; clear BK187; clear HB; have BK185 := n0_; have BK186 := n1_; have BK187 := n2_; have HB := n3_; have BK193 := n4_; have GW193 := n5_; have GE193 := n6_; have NB185_193 := n7_; have NB193_185 := n8_; have NB186_193 := n9_; have NB193_186 := n10_; have NB187_193 := n11_; have NB193_187 := n12_; clear n0_ n1_ n2_ n3_ n4_ n5_ n6_ n7_ n8_ n9_ n10_ n11_ n12_; clear hb hbox hg; have hnb74 := NB193_185.out; have hnc74 := NB185_193.out; have hnb75 := NB193_186.out; have hnc75 := NB186_193.out; have hnb76 := NB193_187.out; have hnc76 := NB187_193.out; have hcz77_0 : w73.cell? ⟨gb193, 0, none⟩ = some (.int .i64 0) := (blk_cell BK193.out 0).trans rfl; have hcz77_1 : w73.cell? ⟨gb193, 1, none⟩ = some (.int .i64 0) := (blk_cell BK193.out 1).trans rfl; have hfz77_0 := blk_frozen BK193.out 0; have hfz77_1 := blk_frozen BK193.out 1; have hcz78_0 : w73.cell? ⟨gb185, 0, none⟩ = some (.int .i64 a0_0) := (blk_cell BK185.out 0).trans rfl; have hcz78_1 : w73.cell? ⟨gb185, 1, none⟩ = some (.int .i64 a0_1) := (blk_cell BK185.out 1).trans rfl; have hcz78_2 : w73.cell? ⟨gb185, 2, none⟩ = some (.int .i64 a0_2) := (blk_cell BK185.out 2).trans rfl; have hfz78_0 := blk_frozen BK185.out 0; have hfz78_1 := blk_frozen BK185.out 1; have hfz78_2 := blk_frozen BK185.out 2; have hcz79_0 : w73.cell? ⟨gb186, 0, none⟩ = some (.int .i64 a1_0) := (blk_cell BK186.out 0).trans rfl; have hcz79_1 : w73.cell? ⟨gb186, 1, none⟩ = some (.int .i64 a1_1) := (blk_cell BK186.out 1).trans rfl; have hcz79_2 : w73.cell? ⟨gb186, 2, none⟩ = some (.int .i64 a1_2) := (blk_cell BK186.out 2).trans rfl; have hfz79_0 := blk_frozen BK186.out 0; have hfz79_1 := blk_frozen BK186.out 1; have hfz79_2 := blk_frozen BK186.out 2) | ((with_reducible refine gate_callee (f := 27) rfl ?_); refine goesL_ (some 79) rfl rfl Try.func27 (by kernel_rfl) rfl #[.int .i64 (wrap64 (a2 - a0_0)), .int .i64 (wrap64 (a1_0 - a0_0))] rfl argN ?_; (with_reducible refine (rat_New.calls kj3 (wrap64 (a2 - a0_0)) (wrap64 (a1_0 - a0_0)) t194 t195 t196 _ A62.out).mono ?_); rintro e w80 ⟨rfl, hb⟩; refine ⟨_, rfl, ?_⟩; have n0_ := Aside0.mk (bkBF BK185.out hb); have n1_ := Aside0.mk (bkBF BK186.out hb); have n2_ := Aside0.mk (bkBF BK187.out hb); have n3_ := Aside0.mk (blk_below (g := gb193) (o := .cells #[.int .i64 t190, .int .i64 t191] 24 (0, 0)) (by (with_reducible repeat (first | refine blk_drewN ?_ _ | refine blk_drew ?_ | refine blk_alloc ?_ _)); refine blk_put (cs := #[.int .i64 t190, .int .i64 0]) ?_ 1 _ rfl; (with_reducible repeat (first | refine blk_drewN ?_ _ | refine blk_drew ?_ | refine blk_alloc ?_ _)); refine blk_put (cs := #[.int .i64 0, .int .i64 0]) ?_ 0 _ rfl; (with_reducible repeat (first | refine blk_drewN ?_ _ | refine blk_drew ?_ | refine blk_alloc ?_ _)); exact BK193.out) hb); have n4_ := Aside0.mk (below_step (belS HB.out) hb); clear BK185; clear BK186; clear BK187; clear BK193; clear HB; have BK185 := n0_; have BK186 := n1_; have BK187 := n2_; have BK193 := n3_; have HB := n4_; clear n0_ n1_ n2_ n3_ n4_; (try clear hb)) | ((with_reducible refine gate_dst (N := 10) rfl ?_); refine box_event ?hg (N := 10) ?hd (cs := #[.int .i64 0, .int .i64 0]) (t := 24) ?hr ?_; (case hd => rfl); (case hg => rfl); (case hr => first | (go_simp; done) | (go_simp; rfl)); intro gb197 hg w81 hbox hb; have n0_ := Aside0.mk (bkB BK185.out hb); have n1_ := Aside0.mk (bkB BK186.out hb); have n2_ := Aside0.mk (bkB BK187.out hb); have n3_ := Aside0.mk (bkB BK193.out hb); have n4_ := Aside0.mk (below_step (belS HB.out) hb); have n5_ := Aside0.mk (hbox); have n6_ := Aside0.mk (szB hg HB.out); have n7_ := Aside0.mk (szB hg HB.out); have n8_ := Aside0.mk ((bk1 hg BK185.out)); have n9_ := Aside0.mk ((bk2 hg BK185.out)); have n10_ := Aside0.mk ((bk1 hg BK186.out)); have n11_ := Aside0.mk ((bk2 hg BK186.out)); have n12_ := Aside0.mk ((bk1 hg BK187.out)); have n13_ := Aside0.mk ((bk2 hg BK187.out)); have n14_ := Aside0.mk ((bk1 hg BK193.out)); have n15_ := Aside0.mk ((bk2 hg BK193.out)); clear BK185; clear BK186; clear BK187; clear BK193; clear HB; have BK185 := n0_; have BK186 := n1_; have BK187 := n2_; have BK193 := n3_; have HB := n4_; have BK197 := n5_; have GW197 := n6_; have GE197 := n7_; have NB185_197 := n8_; have NB197_185 := n9_; have NB186_197 := n10_; have NB197_186 := n11_; have NB187_197 := n12_; have NB197_187 := n13_; have NB193_197 := n14_; have NB197_193 := n15_; clear n0_ n1_ n2_ n3_ n4_ n5_ n6_ n7_ n8_ n9_ n10_ n11_ n12_ n13_ n14_ n15_; clear hb hbox hg; have hnb82 := NB197_185.out; have hnc82 := NB185_197.out; have hnb83 := NB197_186.out; have hnc83 := NB186_197.out; have hnb84 := NB197_187.out; have hnc84 := NB187_197.out; have hnb85 := NB197_193.out; have hnc85 := NB193_197.out; have hcz86_0 : w81.cell? ⟨gb197, 0, none⟩ = some (.int .i64 0) := (blk_cell BK197.out 0).trans rfl; have hcz86_1 : w81.cell? ⟨gb197, 1, none⟩ = some (.int .i64 0) := (blk_cell BK197.out 1).trans rfl; have hfz86_0 := blk_frozen BK197.out 0; have hfz86_1 := blk_frozen BK197.out 1; have hcz87_0 : w81.cell? ⟨gb193, 0, none⟩ = some (.int .i64 t190) := (blk_cell BK193.out 0).trans rfl; have hcz87_1 : w81.cell? ⟨gb193, 1, none⟩ = some (.int .i64 t191) := (blk_cell BK193.out 1).trans rfl; have hfz87_0 := blk_frozen BK193.out 0; have hfz87_1 := blk_frozen BK193.out 1) | ((with_reducible refine gate_callee (f := 28) rfl ?_); refine goesL_ (some 89) rfl rfl Try.func28 (by kernel_rfl) rfl #[.agg #[.int .i64 t190, .int .i64 t191], .agg #[.int .i64 t194, .int .i64 t195]] rfl argN ?_; (with_reducible refine (rat_Mul.calls kj3 t190 t191 t194 t195 t198 t199 t200 _ A64.out).mono ?_); rintro e w88 ⟨rfl, hb⟩; refine ⟨_, rfl, ?_⟩; have n0_ := Aside0.mk (bkBF BK185.out hb); have n1_ := Aside0.mk (bkBF BK186.out hb); have n2_ := Aside0.mk (bkBF BK187.out hb); have n3_ := Aside0.mk (bkBF BK193.out hb); have n4_ := Aside0.mk (blk_below (g := gb197) (o := .cells #[.int .i64 t194, .int .i64 t195] 24 (0, 0)) (by (with_reducible repeat (first | refine blk_drewN ?_ _ | refine blk_drew ?_ | refine blk_alloc ?_ _)); refine blk_put (cs := #[.int .i64 t194, .int .i64 0]) ?_ 1 _ rfl; (with_reducible repeat (first | refine blk_drewN ?_ _ | refine blk_drew ?_ | refine blk_alloc ?_ _)); refine blk_put (cs := #[.int .i64 0, .int .i64 0]) ?_ 0 _ rfl; (with_reducible repeat (first | refine blk_drewN ?_ _ | refine blk_drew ?_ | refine blk_alloc ?_ _)); exact BK197.out) hb); have n5_ := Aside0.mk (below_step (belS HB.out) hb); clear BK185; clear BK186; clear BK187; clear BK193; clear BK197; clear HB; have BK185 := n0_; have BK186 := n1_; have BK187 := n2_; have BK193 := n3_; have BK197 := n4_; have HB := n5_; clear n0_ n1_ n2_ n3_ n4_ n5_; (try clear hb)) | ((with_reducible refine gate_dst (N := 11) rfl ?_); refine box_event ?hg (N := 11) ?hd (cs := #[.int .i64 0, .int .i64 0]) (t := 24) ?hr ?_; (case hd => rfl); (case hg => rfl); (case hr => first | (go_simp; done) | (go_simp; rfl)); intro gb201 hg w89 hbox hb; have n0_ := Aside0.mk (bkB BK185.out hb); have n1_ := Aside0.mk (bkB BK186.out hb); have n2_ := Aside0.mk (bkB BK187.out hb); have n3_ := Aside0.mk (bkB BK193.out hb); have n4_ := Aside0.mk (bkB BK197.out hb); have n5_ := Aside0.mk (below_step (belS HB.out) hb); have n6_ := Aside0.mk (hbox); have n7_ := Aside0.mk (szB hg HB.out); have n8_ := Aside0.mk (szB hg HB.out); have n9_ := Aside0.mk ((bk1 hg BK185.out)); have n10_ := Aside0.mk ((bk2 hg BK185.out)); have n11_ := Aside0.mk ((bk1 hg BK186.out)); have n12_ := Aside0.mk ((bk2 hg BK186.out)); have n13_ := Aside0.mk ((bk1 hg BK187.out)); have n14_ := Aside0.mk ((bk2 hg BK187.out)); have n15_ := Aside0.mk ((bk1 hg BK193.out)); have n16_ := Aside0.mk ((bk2 hg BK193.out)); have n17_ := Aside0.mk ((bk1 hg BK197.out)); have n18_ := Aside0.mk ((bk2 hg BK197.out)); clear BK185; clear BK186; clear BK187; clear BK193; clear BK197; clear HB; have BK185 := n0_; have BK186 := n1_; have BK187 := n2_; have BK193 := n3_; have BK197 := n4_; have HB := n5_; have BK201 := n6_; have GW201 := n7_; have GE201 := n8_; have NB185_201 := n9_; have NB201_185 := n10_; have NB186_201 := n11_; have NB201_186 := n12_; have NB187_201 := n13_; have NB201_187 := n14_; have NB193_201 := n15_; have NB201_193 := n16_; have NB197_201 := n17_; have NB201_197 := n18_; clear n0_ n1_ n2_ n3_ n4_ n5_ n6_ n7_ n8_ n9_ n10_ n11_ n12_ n13_ n14_ n15_ n16_ n17_ n18_; clear hb hbox hg; have hnb90 := NB201_185.out; have hnc90 := NB185_201.out; have hnb91 := NB201_186.out; have hnc91 := NB186_201.out; have hnb92 := NB201_187.out; have hnc92 := NB187_201.out; have hnb93 := NB201_193.out; have hnc93 := NB193_201.out; have hnb94 := NB201_197.out; have hnc94 := NB197_201.out; have hcz95_0 : w89.cell? ⟨gb201, 0, none⟩ = some (.int .i64 0) := (blk_cell BK201.out 0).trans rfl; have hcz95_1 : w89.cell? ⟨gb201, 1, none⟩ = some (.int .i64 0) := (blk_cell BK201.out 1).trans rfl; have hfz95_0 := blk_frozen BK201.out 0; have hfz95_1 := blk_frozen BK201.out 1; have hcz96_0 : w89.cell? ⟨gb185, 0, none⟩ = some (.int .i64 a0_0) := (blk_cell BK185.out 0).trans rfl; have hcz96_1 : w89.cell? ⟨gb185, 1, none⟩ = some (.int .i64 a0_1) := (blk_cell BK185.out 1).trans rfl; have hcz96_2 : w89.cell? ⟨gb185, 2, none⟩ = some (.int .i64 a0_2) := (blk_cell BK185.out 2).trans rfl; have hfz96_0 := blk_frozen BK185.out 0; have hfz96_1 := blk_frozen BK185.out 1; have hfz96_2 := blk_frozen BK185.out 2) | ((with_reducible refine gate_callee (f := 29) rfl ?_); refine goesL_ (some 99) rfl rfl Try.func29 (by kernel_rfl) rfl #[.agg #[.int .i64 t198, .int .i64 t199], .agg #[.int .i64 a0_1, .int .i64 a0_2]] rfl argN ?_; (with_reducible refine (rat_Add.calls kj3 t198 t199 a0_1 a0_2 t202 t203 t204 _ A66.out).mono ?_); rintro e w97 ⟨rfl, hb⟩; refine ⟨_, rfl, ?_⟩; have n0_ := Aside0.mk (bkBF BK185.out hb); have n1_ := Aside0.mk (bkBF BK186.out hb); have n2_ := Aside0.mk (bkBF BK187.out hb); have n3_ := Aside0.mk (bkBF BK193.out hb); have n4_ := Aside0.mk (bkBF BK197.out hb); have n5_ := Aside0.mk (blk_below (g := gb201) (o := .cells #[.int .i64 t198, .int .i64 t199] 24 (0, 0)) (by (with_reducible repeat (first | refine blk_drewN ?_ _ | refine blk_drew ?_ | refine blk_alloc ?_ _)); refine blk_put (cs := #[.int .i64 t198, .int .i64 0]) ?_ 1 _ rfl; (with_reducible repeat (first | refine blk_drewN ?_ _ | refine blk_drew ?_ | refine blk_alloc ?_ _)); refine blk_put (cs := #[.int .i64 0, .int .i64 0]) ?_ 0 _ rfl; (with_reducible repeat (first | refine blk_drewN ?_ _ | refine blk_drew ?_ | refine blk_alloc ?_ _)); exact BK201.out) hb); have n6_ := Aside0.mk (below_step (belS HB.out) hb); clear BK185; clear BK186; clear BK187; clear BK193; clear BK197; clear BK201; clear HB; have BK185 := n0_; have BK186 := n1_; have BK187 := n2_; have BK193 := n3_; have BK197 := n4_; have BK201 := n5_; have HB := n6_; clear n0_ n1_ n2_ n3_ n4_ n5_ n6_; (try clear hb); have hcz98_0 : w97.cell? ⟨gb187, 0, none⟩ = some (.int .i64 0) := (blk_cell BK187.out 0).trans rfl; have hcz98_1 : w97.cell? ⟨gb187, 1, none⟩ = some (.int .i64 0) := (blk_cell BK187.out 1).trans rfl; have hfz98_0 := blk_frozen BK187.out 0; have hfz98_1 := blk_frozen BK187.out 1))
         refine bodyPost_ret (results_ct rfl _ _ gb187 24 #[.int .i64 t202, .int .i64 t203] (0, 0) _ rfl (by (with_reducible repeat (first | refine blk_drewN ?_ _ | refine blk_drew ?_ | refine blk_alloc ?_ _)); refine blk_put (cs := #[.int .i64 t202, .int .i64 0]) ?_ 1 _ rfl; (with_reducible repeat (first | refine blk_drewN ?_ _ | refine blk_drew ?_ | refine blk_alloc ?_ _)); refine blk_put (cs := #[.int .i64 0, .int .i64 0]) ?_ 0 _ rfl; (with_reducible repeat (first | refine blk_drewN ?_ _ | refine blk_drew ?_ | refine blk_alloc ?_ _)); exact BK187.out) Try.underlying24 rfl (by kernel_rfl)) rfl ?_
         exact ⟨by first | rfl | (simp [errW_none, errW_some] <;> rfl) | (simp [*, errW_none, errW_some] <;> rfl), (belS HB.out)⟩
        ·rw [if_neg c65] at H
         have c65b0 : (t200 == 0) = false := beq_eq_false_iff_ne.mpr c65
         have c65b1 : (t200 != 0) = true := bne_iff_ne.mpr c65
         simp only [Option.some.injEq, Prod.mk.injEq] at H
         obtain ⟨rfl, rfl, rfl⟩ := H
         have hnb99 := NB185_186.out
         have hnc99 := NB186_185.out
         have hnb100 := NB185_187.out
         have hnc100 := NB187_185.out
         have hcz101_0 : wc.cell? ⟨gb185, 0, none⟩ = some (.int .i64 a0_0) := (blk_cell BK185.out 0).trans rfl
         have hcz101_1 : wc.cell? ⟨gb185, 1, none⟩ = some (.int .i64 a0_1) := (blk_cell BK185.out 1).trans rfl
         have hcz101_2 : wc.cell? ⟨gb185, 2, none⟩ = some (.int .i64 a0_2) := (blk_cell BK185.out 2).trans rfl
         have hfz101_0 := blk_frozen BK185.out 0
         have hfz101_1 := blk_frozen BK185.out 1
         have hfz101_2 := blk_frozen BK185.out 2
         have hnb102 := NB186_187.out
         have hnc102 := NB187_186.out
         have hcz103_0 : wc.cell? ⟨gb186, 0, none⟩ = some (.int .i64 a1_0) := (blk_cell BK186.out 0).trans rfl
         have hcz103_1 : wc.cell? ⟨gb186, 1, none⟩ = some (.int .i64 a1_1) := (blk_cell BK186.out 1).trans rfl
         have hcz103_2 : wc.cell? ⟨gb186, 2, none⟩ = some (.int .i64 a1_2) := (blk_cell BK186.out 2).trans rfl
         have hfz103_0 := blk_frozen BK186.out 0
         have hfz103_1 := blk_frozen BK186.out 1
         have hfz103_2 := blk_frozen BK186.out 2
         go_wp2_with (first | ((with_reducible refine gate_callee (f := 26) rfl ?_); refine goesL_ (some 62) rfl rfl Try.func26 (by kernel_rfl) rfl #[.agg #[.int .i64 a1_1, .int .i64 a1_2], .agg #[.int .i64 a0_1, .int .i64 a0_2]] rfl argN ?_; (with_reducible refine (rat_Sub.calls kj3 a1_1 a1_2 a0_1 a0_2 t190 t191 t192 _ A60.out).mono ?_); rintro e w104 ⟨rfl, hb⟩; refine ⟨_, rfl, ?_⟩; have n0_ := Aside0.mk (bkB BK185.out hb); have n1_ := Aside0.mk (bkB BK186.out hb); have n2_ := Aside0.mk (bkB BK187.out hb); have n3_ := Aside0.mk (below_step (belS HB.out) hb); clear BK185; clear BK186; clear BK187; clear HB; have BK185 := n0_; have BK186 := n1_; have BK187 := n2_; have HB := n3_; clear n0_ n1_ n2_ n3_; (try clear hb)) | ((with_reducible refine gate_dst (N := 8) rfl ?_); refine box_event ?hg (N := 8) ?hd (cs := #[.int .i64 0, .int .i64 0]) (t := 24) ?hr ?_; (case hd => rfl); (case hg => rfl); (case hr => first | (go_simp; done) | (go_simp; rfl)); intro gb193 hg w105 hbox hb; have n0_ := Aside0.mk (bkB BK185.out hb); have n1_ := Aside0.mk (bkB BK186.out hb); have n2_ := Aside0.mk (bkB BK187.out hb); have n3_ := Aside0.mk (below_step (belS HB.out) hb); have n4_ := Aside0.mk (hbox); have n5_ := Aside0.mk (szB hg HB.out); have n6_ := Aside0.mk (szB hg HB.out); have n7_ := Aside0.mk ((bk1 hg BK185.out)); have n8_ := Aside0.mk ((bk2 hg BK185.out)); have n9_ := Aside0.mk ((bk1 hg BK186.out)); have n10_ := Aside0.mk ((bk2 hg BK186.out)); have n11_ := Aside0.mk ((bk1 hg BK187.out)); have n12_ := Aside0.mk ((bk2 hg BK187.out)); clear BK185; clear BK186; clear BK187; clear HB; have BK185 := n0_; have BK186 := n1_; have BK187 := n2_; have HB := n3_; have BK193 := n4_; have GW193 := n5_; have GE193 := n6_; have NB185_193 := n7_; have NB193_185 := n8_; have NB186_193 := n9_; have NB193_186 := n10_; have NB187_193 := n11_; have NB193_187 := n12_; clear n0_ n1_ n2_ n3_ n4_ n5_ n6_ n7_ n8_ n9_ n10_ n11_ n12_; clear hb hbox hg; have hnb106 := NB193_185.out; have hnc106 := NB185_193.out; have hnb107 := NB193_186.out; have hnc107 := NB186_193.out; have hnb108 := NB193_187.out; have hnc108 := NB187_193.out; have hcz109_0 : w105.cell? ⟨gb193, 0, none⟩ = some (.int .i64 0) := (blk_cell BK193.out 0).trans rfl; have hcz109_1 : w105.cell? ⟨gb193, 1, none⟩ = some (.int .i64 0) := (blk_cell BK193.out 1).trans rfl; have hfz109_0 := blk_frozen BK193.out 0; have hfz109_1 := blk_frozen BK193.out 1; have hcz110_0 : w105.cell? ⟨gb185, 0, none⟩ = some (.int .i64 a0_0) := (blk_cell BK185.out 0).trans rfl; have hcz110_1 : w105.cell? ⟨gb185, 1, none⟩ = some (.int .i64 a0_1) := (blk_cell BK185.out 1).trans rfl; have hcz110_2 : w105.cell? ⟨gb185, 2, none⟩ = some (.int .i64 a0_2) := (blk_cell BK185.out 2).trans rfl; have hfz110_0 := blk_frozen BK185.out 0; have hfz110_1 := blk_frozen BK185.out 1; have hfz110_2 := blk_frozen BK185.out 2; have hcz111_0 : w105.cell? ⟨gb186, 0, none⟩ = some (.int .i64 a1_0) := (blk_cell BK186.out 0).trans rfl; have hcz111_1 : w105.cell? ⟨gb186, 1, none⟩ = some (.int .i64 a1_1) := (blk_cell BK186.out 1).trans rfl; have hcz111_2 : w105.cell? ⟨gb186, 2, none⟩ = some (.int .i64 a1_2) := (blk_cell BK186.out 2).trans rfl; have hfz111_0 := blk_frozen BK186.out 0; have hfz111_1 := blk_frozen BK186.out 1; have hfz111_2 := blk_frozen BK186.out 2) | ((with_reducible refine gate_callee (f := 27) rfl ?_); refine goesL_ (some 79) rfl rfl Try.func27 (by kernel_rfl) rfl #[.int .i64 (wrap64 (a2 - a0_0)), .int .i64 (wrap64 (a1_0 - a0_0))] rfl argN ?_; (with_reducible refine (rat_New.calls kj3 (wrap64 (a2 - a0_0)) (wrap64 (a1_0 - a0_0)) t194 t195 t196 _ A62.out).mono ?_); rintro e w112 ⟨rfl, hb⟩; refine ⟨_, rfl, ?_⟩; have n0_ := Aside0.mk (bkBF BK185.out hb); have n1_ := Aside0.mk (bkBF BK186.out hb); have n2_ := Aside0.mk (bkBF BK187.out hb); have n3_ := Aside0.mk (blk_below (g := gb193) (o := .cells #[.int .i64 t190, .int .i64 t191] 24 (0, 0)) (by (with_reducible repeat (first | refine blk_drewN ?_ _ | refine blk_drew ?_ | refine blk_alloc ?_ _)); refine blk_put (cs := #[.int .i64 t190, .int .i64 0]) ?_ 1 _ rfl; (with_reducible repeat (first | refine blk_drewN ?_ _ | refine blk_drew ?_ | refine blk_alloc ?_ _)); refine blk_put (cs := #[.int .i64 0, .int .i64 0]) ?_ 0 _ rfl; (with_reducible repeat (first | refine blk_drewN ?_ _ | refine blk_drew ?_ | refine blk_alloc ?_ _)); exact BK193.out) hb); have n4_ := Aside0.mk (below_step (belS HB.out) hb); clear BK185; clear BK186; clear BK187; clear BK193; clear HB; have BK185 := n0_; have BK186 := n1_; have BK187 := n2_; have BK193 := n3_; have HB := n4_; clear n0_ n1_ n2_ n3_ n4_; (try clear hb)) | ((with_reducible refine gate_dst (N := 10) rfl ?_); refine box_event ?hg (N := 10) ?hd (cs := #[.int .i64 0, .int .i64 0]) (t := 24) ?hr ?_; (case hd => rfl); (case hg => rfl); (case hr => first | (go_simp; done) | (go_simp; rfl)); intro gb197 hg w113 hbox hb; have n0_ := Aside0.mk (bkB BK185.out hb); have n1_ := Aside0.mk (bkB BK186.out hb); have n2_ := Aside0.mk (bkB BK187.out hb); have n3_ := Aside0.mk (bkB BK193.out hb); have n4_ := Aside0.mk (below_step (belS HB.out) hb); have n5_ := Aside0.mk (hbox); have n6_ := Aside0.mk (szB hg HB.out); have n7_ := Aside0.mk (szB hg HB.out); have n8_ := Aside0.mk ((bk1 hg BK185.out)); have n9_ := Aside0.mk ((bk2 hg BK185.out)); have n10_ := Aside0.mk ((bk1 hg BK186.out)); have n11_ := Aside0.mk ((bk2 hg BK186.out)); have n12_ := Aside0.mk ((bk1 hg BK187.out)); have n13_ := Aside0.mk ((bk2 hg BK187.out)); have n14_ := Aside0.mk ((bk1 hg BK193.out)); have n15_ := Aside0.mk ((bk2 hg BK193.out)); clear BK185; clear BK186; clear BK187; clear BK193; clear HB; have BK185 := n0_; have BK186 := n1_; have BK187 := n2_; have BK193 := n3_; have HB := n4_; have BK197 := n5_; have GW197 := n6_; have GE197 := n7_; have NB185_197 := n8_; have NB197_185 := n9_; have NB186_197 := n10_; have NB197_186 := n11_; have NB187_197 := n12_; have NB197_187 := n13_; have NB193_197 := n14_; have NB197_193 := n15_; clear n0_ n1_ n2_ n3_ n4_ n5_ n6_ n7_ n8_ n9_ n10_ n11_ n12_ n13_ n14_ n15_; clear hb hbox hg; have hnb114 := NB197_185.out; have hnc114 := NB185_197.out; have hnb115 := NB197_186.out; have hnc115 := NB186_197.out; have hnb116 := NB197_187.out; have hnc116 := NB187_197.out; have hnb117 := NB197_193.out; have hnc117 := NB193_197.out; have hcz118_0 : w113.cell? ⟨gb197, 0, none⟩ = some (.int .i64 0) := (blk_cell BK197.out 0).trans rfl; have hcz118_1 : w113.cell? ⟨gb197, 1, none⟩ = some (.int .i64 0) := (blk_cell BK197.out 1).trans rfl; have hfz118_0 := blk_frozen BK197.out 0; have hfz118_1 := blk_frozen BK197.out 1; have hcz119_0 : w113.cell? ⟨gb193, 0, none⟩ = some (.int .i64 t190) := (blk_cell BK193.out 0).trans rfl; have hcz119_1 : w113.cell? ⟨gb193, 1, none⟩ = some (.int .i64 t191) := (blk_cell BK193.out 1).trans rfl; have hfz119_0 := blk_frozen BK193.out 0; have hfz119_1 := blk_frozen BK193.out 1) | ((with_reducible refine gate_callee (f := 28) rfl ?_); refine goesL_ (some 89) rfl rfl Try.func28 (by kernel_rfl) rfl #[.agg #[.int .i64 t190, .int .i64 t191], .agg #[.int .i64 t194, .int .i64 t195]] rfl argN ?_; (with_reducible refine (rat_Mul.calls kj3 t190 t191 t194 t195 t198 t199 t200 _ A64.out).mono ?_); rintro e w120 ⟨rfl, hb⟩; refine ⟨_, rfl, ?_⟩; have n0_ := Aside0.mk (bkBF BK185.out hb); have n1_ := Aside0.mk (bkBF BK186.out hb); have n2_ := Aside0.mk (bkBF BK187.out hb); have n3_ := Aside0.mk (bkBF BK193.out hb); have n4_ := Aside0.mk (blk_below (g := gb197) (o := .cells #[.int .i64 t194, .int .i64 t195] 24 (0, 0)) (by (with_reducible repeat (first | refine blk_drewN ?_ _ | refine blk_drew ?_ | refine blk_alloc ?_ _)); refine blk_put (cs := #[.int .i64 t194, .int .i64 0]) ?_ 1 _ rfl; (with_reducible repeat (first | refine blk_drewN ?_ _ | refine blk_drew ?_ | refine blk_alloc ?_ _)); refine blk_put (cs := #[.int .i64 0, .int .i64 0]) ?_ 0 _ rfl; (with_reducible repeat (first | refine blk_drewN ?_ _ | refine blk_drew ?_ | refine blk_alloc ?_ _)); exact BK197.out) hb); have n5_ := Aside0.mk (below_step (belS HB.out) hb); clear BK185; clear BK186; clear BK187; clear BK193; clear BK197; clear HB; have BK185 := n0_; have BK186 := n1_; have BK187 := n2_; have BK193 := n3_; have BK197 := n4_; have HB := n5_; clear n0_ n1_ n2_ n3_ n4_ n5_; (try clear hb)) | ((with_reducible refine gate_dst (N := 11) rfl ?_); refine box_event ?hg (N := 11) ?hd (cs := #[.int .i64 0, .int .i64 0]) (t := 24) ?hr ?_; (case hd => rfl); (case hg => rfl); (case hr => first | (go_simp; done) | (go_simp; rfl)); intro gb201 hg w121 hbox hb; have n0_ := Aside0.mk (bkB BK185.out hb); have n1_ := Aside0.mk (bkB BK186.out hb); have n2_ := Aside0.mk (bkB BK187.out hb); have n3_ := Aside0.mk (bkB BK193.out hb); have n4_ := Aside0.mk (bkB BK197.out hb); have n5_ := Aside0.mk (below_step (belS HB.out) hb); have n6_ := Aside0.mk (hbox); have n7_ := Aside0.mk (szB hg HB.out); have n8_ := Aside0.mk (szB hg HB.out); have n9_ := Aside0.mk ((bk1 hg BK185.out)); have n10_ := Aside0.mk ((bk2 hg BK185.out)); have n11_ := Aside0.mk ((bk1 hg BK186.out)); have n12_ := Aside0.mk ((bk2 hg BK186.out)); have n13_ := Aside0.mk ((bk1 hg BK187.out)); have n14_ := Aside0.mk ((bk2 hg BK187.out)); have n15_ := Aside0.mk ((bk1 hg BK193.out)); have n16_ := Aside0.mk ((bk2 hg BK193.out)); have n17_ := Aside0.mk ((bk1 hg BK197.out)); have n18_ := Aside0.mk ((bk2 hg BK197.out)); clear BK185; clear BK186; clear BK187; clear BK193; clear BK197; clear HB; have BK185 := n0_; have BK186 := n1_; have BK187 := n2_; have BK193 := n3_; have BK197 := n4_; have HB := n5_; have BK201 := n6_; have GW201 := n7_; have GE201 := n8_; have NB185_201 := n9_; have NB201_185 := n10_; have NB186_201 := n11_; have NB201_186 := n12_; have NB187_201 := n13_; have NB201_187 := n14_; have NB193_201 := n15_; have NB201_193 := n16_; have NB197_201 := n17_; have NB201_197 := n18_; clear n0_ n1_ n2_ n3_ n4_ n5_ n6_ n7_ n8_ n9_ n10_ n11_ n12_ n13_ n14_ n15_ n16_ n17_ n18_; clear hb hbox hg; have hnb122 := NB201_185.out; have hnc122 := NB185_201.out; have hnb123 := NB201_186.out; have hnc123 := NB186_201.out; have hnb124 := NB201_187.out; have hnc124 := NB187_201.out; have hnb125 := NB201_193.out; have hnc125 := NB193_201.out; have hnb126 := NB201_197.out; have hnc126 := NB197_201.out; have hcz127_0 : w121.cell? ⟨gb201, 0, none⟩ = some (.int .i64 0) := (blk_cell BK201.out 0).trans rfl; have hcz127_1 : w121.cell? ⟨gb201, 1, none⟩ = some (.int .i64 0) := (blk_cell BK201.out 1).trans rfl; have hfz127_0 := blk_frozen BK201.out 0; have hfz127_1 := blk_frozen BK201.out 1; have hcz128_0 : w121.cell? ⟨gb187, 0, none⟩ = some (.int .i64 0) := (blk_cell BK187.out 0).trans rfl; have hcz128_1 : w121.cell? ⟨gb187, 1, none⟩ = some (.int .i64 0) := (blk_cell BK187.out 1).trans rfl; have hfz128_0 := blk_frozen BK187.out 0; have hfz128_1 := blk_frozen BK187.out 1))
         refine bodyPost_ret (results_ct rfl _ _ gb187 24 #[.int .i64 0, .int .i64 0] (0, 0) _ rfl (by (with_reducible repeat (first | refine blk_drewN ?_ _ | refine blk_drew ?_ | refine blk_alloc ?_ _)); refine blk_put (cs := #[.int .i64 0, .int .i64 0]) ?_ 1 _ rfl; (with_reducible repeat (first | refine blk_drewN ?_ _ | refine blk_drew ?_ | refine blk_alloc ?_ _)); refine blk_put (cs := #[.int .i64 0, .int .i64 0]) ?_ 0 _ rfl; (with_reducible repeat (first | refine blk_drewN ?_ _ | refine blk_drew ?_ | refine blk_alloc ?_ _)); refine blk_far ?_ NB187_201.out _; (with_reducible repeat (first | refine blk_drewN ?_ _ | refine blk_drew ?_ | refine blk_alloc ?_ _)); refine blk_far ?_ NB187_201.out _; (with_reducible repeat (first | refine blk_drewN ?_ _ | refine blk_drew ?_ | refine blk_alloc ?_ _)); exact BK187.out) Try.underlying24 rfl (by kernel_rfl)) rfl ?_
         exact ⟨by first | rfl | (simp [errW_none, errW_some] <;> rfl) | (simp [*, errW_none, errW_some] <;> rfl), (belS HB.out)⟩
       ·rw [if_neg c63] at H
        have c63b0 : (t196 == 0) = false := beq_eq_false_iff_ne.mpr c63
        have c63b1 : (t196 != 0) = true := bne_iff_ne.mpr c63
        simp only [Option.some.injEq, Prod.mk.injEq] at H
        obtain ⟨rfl, rfl, rfl⟩ := H
        have hnb129 := NB185_186.out
        have hnc129 := NB186_185.out
        have hnb130 := NB185_187.out
        have hnc130 := NB187_185.out
        have hcz131_0 : wc.cell? ⟨gb185, 0, none⟩ = some (.int .i64 a0_0) := (blk_cell BK185.out 0).trans rfl
        have hcz131_1 : wc.cell? ⟨gb185, 1, none⟩ = some (.int .i64 a0_1) := (blk_cell BK185.out 1).trans rfl
        have hcz131_2 : wc.cell? ⟨gb185, 2, none⟩ = some (.int .i64 a0_2) := (blk_cell BK185.out 2).trans rfl
        have hfz131_0 := blk_frozen BK185.out 0
        have hfz131_1 := blk_frozen BK185.out 1
        have hfz131_2 := blk_frozen BK185.out 2
        have hnb132 := NB186_187.out
        have hnc132 := NB187_186.out
        have hcz133_0 : wc.cell? ⟨gb186, 0, none⟩ = some (.int .i64 a1_0) := (blk_cell BK186.out 0).trans rfl
        have hcz133_1 : wc.cell? ⟨gb186, 1, none⟩ = some (.int .i64 a1_1) := (blk_cell BK186.out 1).trans rfl
        have hcz133_2 : wc.cell? ⟨gb186, 2, none⟩ = some (.int .i64 a1_2) := (blk_cell BK186.out 2).trans rfl
        have hfz133_0 := blk_frozen BK186.out 0
        have hfz133_1 := blk_frozen BK186.out 1
        have hfz133_2 := blk_frozen BK186.out 2
        go_wp2_with (first | ((with_reducible refine gate_callee (f := 26) rfl ?_); refine goesL_ (some 62) rfl rfl Try.func26 (by kernel_rfl) rfl #[.agg #[.int .i64 a1_1, .int .i64 a1_2], .agg #[.int .i64 a0_1, .int .i64 a0_2]] rfl argN ?_; (with_reducible refine (rat_Sub.calls kj3 a1_1 a1_2 a0_1 a0_2 t190 t191 t192 _ A60.out).mono ?_); rintro e w134 ⟨rfl, hb⟩; refine ⟨_, rfl, ?_⟩; have n0_ := Aside0.mk (bkB BK185.out hb); have n1_ := Aside0.mk (bkB BK186.out hb); have n2_ := Aside0.mk (bkB BK187.out hb); have n3_ := Aside0.mk (below_step (belS HB.out) hb); clear BK185; clear BK186; clear BK187; clear HB; have BK185 := n0_; have BK186 := n1_; have BK187 := n2_; have HB := n3_; clear n0_ n1_ n2_ n3_; (try clear hb)) | ((with_reducible refine gate_dst (N := 8) rfl ?_); refine box_event ?hg (N := 8) ?hd (cs := #[.int .i64 0, .int .i64 0]) (t := 24) ?hr ?_; (case hd => rfl); (case hg => rfl); (case hr => first | (go_simp; done) | (go_simp; rfl)); intro gb193 hg w135 hbox hb; have n0_ := Aside0.mk (bkB BK185.out hb); have n1_ := Aside0.mk (bkB BK186.out hb); have n2_ := Aside0.mk (bkB BK187.out hb); have n3_ := Aside0.mk (below_step (belS HB.out) hb); have n4_ := Aside0.mk (hbox); have n5_ := Aside0.mk (szB hg HB.out); have n6_ := Aside0.mk (szB hg HB.out); have n7_ := Aside0.mk ((bk1 hg BK185.out)); have n8_ := Aside0.mk ((bk2 hg BK185.out)); have n9_ := Aside0.mk ((bk1 hg BK186.out)); have n10_ := Aside0.mk ((bk2 hg BK186.out)); have n11_ := Aside0.mk ((bk1 hg BK187.out)); have n12_ := Aside0.mk ((bk2 hg BK187.out)); clear BK185; clear BK186; clear BK187; clear HB; have BK185 := n0_; have BK186 := n1_; have BK187 := n2_; have HB := n3_; have BK193 := n4_; have GW193 := n5_; have GE193 := n6_; have NB185_193 := n7_; have NB193_185 := n8_; have NB186_193 := n9_; have NB193_186 := n10_; have NB187_193 := n11_; have NB193_187 := n12_; clear n0_ n1_ n2_ n3_ n4_ n5_ n6_ n7_ n8_ n9_ n10_ n11_ n12_; clear hb hbox hg; have hnb136 := NB193_185.out; have hnc136 := NB185_193.out; have hnb137 := NB193_186.out; have hnc137 := NB186_193.out; have hnb138 := NB193_187.out; have hnc138 := NB187_193.out; have hcz139_0 : w135.cell? ⟨gb193, 0, none⟩ = some (.int .i64 0) := (blk_cell BK193.out 0).trans rfl; have hcz139_1 : w135.cell? ⟨gb193, 1, none⟩ = some (.int .i64 0) := (blk_cell BK193.out 1).trans rfl; have hfz139_0 := blk_frozen BK193.out 0; have hfz139_1 := blk_frozen BK193.out 1; have hcz140_0 : w135.cell? ⟨gb185, 0, none⟩ = some (.int .i64 a0_0) := (blk_cell BK185.out 0).trans rfl; have hcz140_1 : w135.cell? ⟨gb185, 1, none⟩ = some (.int .i64 a0_1) := (blk_cell BK185.out 1).trans rfl; have hcz140_2 : w135.cell? ⟨gb185, 2, none⟩ = some (.int .i64 a0_2) := (blk_cell BK185.out 2).trans rfl; have hfz140_0 := blk_frozen BK185.out 0; have hfz140_1 := blk_frozen BK185.out 1; have hfz140_2 := blk_frozen BK185.out 2; have hcz141_0 : w135.cell? ⟨gb186, 0, none⟩ = some (.int .i64 a1_0) := (blk_cell BK186.out 0).trans rfl; have hcz141_1 : w135.cell? ⟨gb186, 1, none⟩ = some (.int .i64 a1_1) := (blk_cell BK186.out 1).trans rfl; have hcz141_2 : w135.cell? ⟨gb186, 2, none⟩ = some (.int .i64 a1_2) := (blk_cell BK186.out 2).trans rfl; have hfz141_0 := blk_frozen BK186.out 0; have hfz141_1 := blk_frozen BK186.out 1; have hfz141_2 := blk_frozen BK186.out 2) | ((with_reducible refine gate_callee (f := 27) rfl ?_); refine goesL_ (some 79) rfl rfl Try.func27 (by kernel_rfl) rfl #[.int .i64 (wrap64 (a2 - a0_0)), .int .i64 (wrap64 (a1_0 - a0_0))] rfl argN ?_; (with_reducible refine (rat_New.calls kj3 (wrap64 (a2 - a0_0)) (wrap64 (a1_0 - a0_0)) t194 t195 t196 _ A62.out).mono ?_); rintro e w142 ⟨rfl, hb⟩; refine ⟨_, rfl, ?_⟩; have n0_ := Aside0.mk (bkBF BK185.out hb); have n1_ := Aside0.mk (bkBF BK186.out hb); have n2_ := Aside0.mk (bkBF BK187.out hb); have n3_ := Aside0.mk (blk_below (g := gb193) (o := .cells #[.int .i64 t190, .int .i64 t191] 24 (0, 0)) (by (with_reducible repeat (first | refine blk_drewN ?_ _ | refine blk_drew ?_ | refine blk_alloc ?_ _)); refine blk_put (cs := #[.int .i64 t190, .int .i64 0]) ?_ 1 _ rfl; (with_reducible repeat (first | refine blk_drewN ?_ _ | refine blk_drew ?_ | refine blk_alloc ?_ _)); refine blk_put (cs := #[.int .i64 0, .int .i64 0]) ?_ 0 _ rfl; (with_reducible repeat (first | refine blk_drewN ?_ _ | refine blk_drew ?_ | refine blk_alloc ?_ _)); exact BK193.out) hb); have n4_ := Aside0.mk (below_step (belS HB.out) hb); clear BK185; clear BK186; clear BK187; clear BK193; clear HB; have BK185 := n0_; have BK186 := n1_; have BK187 := n2_; have BK193 := n3_; have HB := n4_; clear n0_ n1_ n2_ n3_ n4_; (try clear hb)) | ((with_reducible refine gate_dst (N := 10) rfl ?_); refine box_event ?hg (N := 10) ?hd (cs := #[.int .i64 0, .int .i64 0]) (t := 24) ?hr ?_; (case hd => rfl); (case hg => rfl); (case hr => first | (go_simp; done) | (go_simp; rfl)); intro gb197 hg w143 hbox hb; have n0_ := Aside0.mk (bkB BK185.out hb); have n1_ := Aside0.mk (bkB BK186.out hb); have n2_ := Aside0.mk (bkB BK187.out hb); have n3_ := Aside0.mk (bkB BK193.out hb); have n4_ := Aside0.mk (below_step (belS HB.out) hb); have n5_ := Aside0.mk (hbox); have n6_ := Aside0.mk (szB hg HB.out); have n7_ := Aside0.mk (szB hg HB.out); have n8_ := Aside0.mk ((bk1 hg BK185.out)); have n9_ := Aside0.mk ((bk2 hg BK185.out)); have n10_ := Aside0.mk ((bk1 hg BK186.out)); have n11_ := Aside0.mk ((bk2 hg BK186.out)); have n12_ := Aside0.mk ((bk1 hg BK187.out)); have n13_ := Aside0.mk ((bk2 hg BK187.out)); have n14_ := Aside0.mk ((bk1 hg BK193.out)); have n15_ := Aside0.mk ((bk2 hg BK193.out)); clear BK185; clear BK186; clear BK187; clear BK193; clear HB; have BK185 := n0_; have BK186 := n1_; have BK187 := n2_; have BK193 := n3_; have HB := n4_; have BK197 := n5_; have GW197 := n6_; have GE197 := n7_; have NB185_197 := n8_; have NB197_185 := n9_; have NB186_197 := n10_; have NB197_186 := n11_; have NB187_197 := n12_; have NB197_187 := n13_; have NB193_197 := n14_; have NB197_193 := n15_; clear n0_ n1_ n2_ n3_ n4_ n5_ n6_ n7_ n8_ n9_ n10_ n11_ n12_ n13_ n14_ n15_; clear hb hbox hg; have hnb144 := NB197_185.out; have hnc144 := NB185_197.out; have hnb145 := NB197_186.out; have hnc145 := NB186_197.out; have hnb146 := NB197_187.out; have hnc146 := NB187_197.out; have hnb147 := NB197_193.out; have hnc147 := NB193_197.out; have hcz148_0 : w143.cell? ⟨gb197, 0, none⟩ = some (.int .i64 0) := (blk_cell BK197.out 0).trans rfl; have hcz148_1 : w143.cell? ⟨gb197, 1, none⟩ = some (.int .i64 0) := (blk_cell BK197.out 1).trans rfl; have hfz148_0 := blk_frozen BK197.out 0; have hfz148_1 := blk_frozen BK197.out 1; have hcz149_0 : w143.cell? ⟨gb187, 0, none⟩ = some (.int .i64 0) := (blk_cell BK187.out 0).trans rfl; have hcz149_1 : w143.cell? ⟨gb187, 1, none⟩ = some (.int .i64 0) := (blk_cell BK187.out 1).trans rfl; have hfz149_0 := blk_frozen BK187.out 0; have hfz149_1 := blk_frozen BK187.out 1))
        refine bodyPost_ret (results_ct rfl _ _ gb187 24 #[.int .i64 0, .int .i64 0] (0, 0) _ rfl (by (with_reducible repeat (first | refine blk_drewN ?_ _ | refine blk_drew ?_ | refine blk_alloc ?_ _)); refine blk_put (cs := #[.int .i64 0, .int .i64 0]) ?_ 1 _ rfl; (with_reducible repeat (first | refine blk_drewN ?_ _ | refine blk_drew ?_ | refine blk_alloc ?_ _)); refine blk_put (cs := #[.int .i64 0, .int .i64 0]) ?_ 0 _ rfl; (with_reducible repeat (first | refine blk_drewN ?_ _ | refine blk_drew ?_ | refine blk_alloc ?_ _)); refine blk_far ?_ NB187_197.out _; (with_reducible repeat (first | refine blk_drewN ?_ _ | refine blk_drew ?_ | refine blk_alloc ?_ _)); refine blk_far ?_ NB187_197.out _; (with_reducible repeat (first | refine blk_drewN ?_ _ | refine blk_drew ?_ | refine blk_alloc ?_ _)); exact BK187.out) Try.underlying24 rfl (by kernel_rfl)) rfl ?_
        exact ⟨by first | rfl | (simp [errW_none, errW_some] <;> rfl) | (simp [*, errW_none, errW_some] <;> rfl), (belS HB.out)⟩
      ·rw [if_neg c61] at H
       have c61b0 : (t192 == 0) = false := beq_eq_false_iff_ne.mpr c61
       have c61b1 : (t192 != 0) = true := bne_iff_ne.mpr c61
       simp only [Option.some.injEq, Prod.mk.injEq] at H
       obtain ⟨rfl, rfl, rfl⟩ := H
       have hnb150 := NB185_186.out
       have hnc150 := NB186_185.out
       have hnb151 := NB185_187.out
       have hnc151 := NB187_185.out
       have hcz152_0 : wc.cell? ⟨gb185, 0, none⟩ = some (.int .i64 a0_0) := (blk_cell BK185.out 0).trans rfl
       have hcz152_1 : wc.cell? ⟨gb185, 1, none⟩ = some (.int .i64 a0_1) := (blk_cell BK185.out 1).trans rfl
       have hcz152_2 : wc.cell? ⟨gb185, 2, none⟩ = some (.int .i64 a0_2) := (blk_cell BK185.out 2).trans rfl
       have hfz152_0 := blk_frozen BK185.out 0
       have hfz152_1 := blk_frozen BK185.out 1
       have hfz152_2 := blk_frozen BK185.out 2
       have hnb153 := NB186_187.out
       have hnc153 := NB187_186.out
       have hcz154_0 : wc.cell? ⟨gb186, 0, none⟩ = some (.int .i64 a1_0) := (blk_cell BK186.out 0).trans rfl
       have hcz154_1 : wc.cell? ⟨gb186, 1, none⟩ = some (.int .i64 a1_1) := (blk_cell BK186.out 1).trans rfl
       have hcz154_2 : wc.cell? ⟨gb186, 2, none⟩ = some (.int .i64 a1_2) := (blk_cell BK186.out 2).trans rfl
       have hfz154_0 := blk_frozen BK186.out 0
       have hfz154_1 := blk_frozen BK186.out 1
       have hfz154_2 := blk_frozen BK186.out 2
       go_wp2_with (first | ((with_reducible refine gate_callee (f := 26) rfl ?_); refine goesL_ (some 62) rfl rfl Try.func26 (by kernel_rfl) rfl #[.agg #[.int .i64 a1_1, .int .i64 a1_2], .agg #[.int .i64 a0_1, .int .i64 a0_2]] rfl argN ?_; (with_reducible refine (rat_Sub.calls kj3 a1_1 a1_2 a0_1 a0_2 t190 t191 t192 _ A60.out).mono ?_); rintro e w155 ⟨rfl, hb⟩; refine ⟨_, rfl, ?_⟩; have n0_ := Aside0.mk (bkB BK185.out hb); have n1_ := Aside0.mk (bkB BK186.out hb); have n2_ := Aside0.mk (bkB BK187.out hb); have n3_ := Aside0.mk (below_step (belS HB.out) hb); clear BK185; clear BK186; clear BK187; clear HB; have BK185 := n0_; have BK186 := n1_; have BK187 := n2_; have HB := n3_; clear n0_ n1_ n2_ n3_; (try clear hb)) | ((with_reducible refine gate_dst (N := 8) rfl ?_); refine box_event ?hg (N := 8) ?hd (cs := #[.int .i64 0, .int .i64 0]) (t := 24) ?hr ?_; (case hd => rfl); (case hg => rfl); (case hr => first | (go_simp; done) | (go_simp; rfl)); intro gb193 hg w156 hbox hb; have n0_ := Aside0.mk (bkB BK185.out hb); have n1_ := Aside0.mk (bkB BK186.out hb); have n2_ := Aside0.mk (bkB BK187.out hb); have n3_ := Aside0.mk (below_step (belS HB.out) hb); have n4_ := Aside0.mk (hbox); have n5_ := Aside0.mk (szB hg HB.out); have n6_ := Aside0.mk (szB hg HB.out); have n7_ := Aside0.mk ((bk1 hg BK185.out)); have n8_ := Aside0.mk ((bk2 hg BK185.out)); have n9_ := Aside0.mk ((bk1 hg BK186.out)); have n10_ := Aside0.mk ((bk2 hg BK186.out)); have n11_ := Aside0.mk ((bk1 hg BK187.out)); have n12_ := Aside0.mk ((bk2 hg BK187.out)); clear BK185; clear BK186; clear BK187; clear HB; have BK185 := n0_; have BK186 := n1_; have BK187 := n2_; have HB := n3_; have BK193 := n4_; have GW193 := n5_; have GE193 := n6_; have NB185_193 := n7_; have NB193_185 := n8_; have NB186_193 := n9_; have NB193_186 := n10_; have NB187_193 := n11_; have NB193_187 := n12_; clear n0_ n1_ n2_ n3_ n4_ n5_ n6_ n7_ n8_ n9_ n10_ n11_ n12_; clear hb hbox hg; have hnb157 := NB193_185.out; have hnc157 := NB185_193.out; have hnb158 := NB193_186.out; have hnc158 := NB186_193.out; have hnb159 := NB193_187.out; have hnc159 := NB187_193.out; have hcz160_0 : w156.cell? ⟨gb193, 0, none⟩ = some (.int .i64 0) := (blk_cell BK193.out 0).trans rfl; have hcz160_1 : w156.cell? ⟨gb193, 1, none⟩ = some (.int .i64 0) := (blk_cell BK193.out 1).trans rfl; have hfz160_0 := blk_frozen BK193.out 0; have hfz160_1 := blk_frozen BK193.out 1; have hcz161_0 : w156.cell? ⟨gb187, 0, none⟩ = some (.int .i64 0) := (blk_cell BK187.out 0).trans rfl; have hcz161_1 : w156.cell? ⟨gb187, 1, none⟩ = some (.int .i64 0) := (blk_cell BK187.out 1).trans rfl; have hfz161_0 := blk_frozen BK187.out 0; have hfz161_1 := blk_frozen BK187.out 1))
       refine bodyPost_ret (results_ct rfl _ _ gb187 24 #[.int .i64 0, .int .i64 0] (0, 0) _ rfl (by (with_reducible repeat (first | refine blk_drewN ?_ _ | refine blk_drew ?_ | refine blk_alloc ?_ _)); refine blk_put (cs := #[.int .i64 0, .int .i64 0]) ?_ 1 _ rfl; (with_reducible repeat (first | refine blk_drewN ?_ _ | refine blk_drew ?_ | refine blk_alloc ?_ _)); refine blk_put (cs := #[.int .i64 0, .int .i64 0]) ?_ 0 _ rfl; (with_reducible repeat (first | refine blk_drewN ?_ _ | refine blk_drew ?_ | refine blk_alloc ?_ _)); refine blk_far ?_ NB187_193.out _; (with_reducible repeat (first | refine blk_drewN ?_ _ | refine blk_drew ?_ | refine blk_alloc ?_ _)); refine blk_far ?_ NB187_193.out _; (with_reducible repeat (first | refine blk_drewN ?_ _ | refine blk_drew ?_ | refine blk_alloc ?_ _)); exact BK187.out) Try.underlying24 rfl (by kernel_rfl)) rfl ?_
       exact ⟨by first | rfl | (simp [errW_none, errW_some] <;> rfl) | (simp [*, errW_none, errW_some] <;> rfl), (belS HB.out)⟩

/-! ### marigraphref1_gcd: function 46 -/
def marigraphref1_gcd.l0 : Nat → Int → Int → Option (Int)
 | 0, _, _ => none
 | k + 1, x0, x1 => if x1 = 0 then (some x0) else (marigraphref1_gcd.l0 k x1 (Int.tmod x0 x1))
def marigraphref1_gcd.f (k : Nat) (a0 : Int) (a1 : Int) : Option (Int) := marigraphref1_gcd.l0 k a0 a1
theorem marigraphref1_gcd.mono_l : ∀ k, (∀ y0 y1, LeO (marigraphref1_gcd.l0 k y0 y1) (marigraphref1_gcd.l0 (k + 1) y0 y1))
 | 0 => fun _ _ r h => by simp [marigraphref1_gcd.l0] at h
 | k + 1 => by
  have ih0 := marigraphref1_gcd.mono_l k
  ·intro y0 y1
   unfold marigraphref1_gcd.l0
   repeat' first
   | (with_reducible exact ih0 _ _)
   | (with_reducible exact LeO.refl _)
   | (with_reducible exact LeO.none _)
   | (with_reducible refine LeO.ite ?_ ?_)
   | (with_reducible refine LeO.bind ?_ (fun _ => ?_))
   | exact ih0 _ _
   | exact LeO.none _
   | refine LeO.ite ?_ ?_
   | refine LeO.bind ?_ (fun _ => ?_)
theorem marigraphref1_gcd.mono : ∀ a0 a1 k, LeO (marigraphref1_gcd.f k a0 a1) (marigraphref1_gcd.f (k + 1) a0 a1) := by
 intro a0 a1 k
 have ih0 := marigraphref1_gcd.mono_l k
 unfold marigraphref1_gcd.f
 repeat' first
   | (with_reducible exact ih0 _ _)
   | (with_reducible exact LeO.refl _)
   | (with_reducible exact LeO.none _)
   | (with_reducible refine LeO.ite ?_ ?_)
   | (with_reducible refine LeO.bind ?_ (fun _ => ?_))
   | exact ih0 _ _
   | exact LeO.none _
   | refine LeO.ite ?_ ?_
   | refine LeO.bind ?_ (fun _ => ?_)
set_option maxHeartbeats 8000000 in
set_option maxRecDepth 100000 in
theorem marigraphref1_gcd.calls (k : Nat) (a0 : Int) (a1 : Int) (r : Int) (w : World) (h : marigraphref1_gcd.f k a0 a1 = some r) :
  Calls Try.prog 46 #[.int .i64 a0, .int .i64 a1] w fun e w' => e = .returned (.int .i64 r) ∧ Drawn0 w w' := by
 have H : (marigraphref1_gcd.l0 k a0 a1) = some r := h
 clear h
 have H' := Aside0.mk H
 clear H
 go_enter Try.func46, Try.ntmps46
 go_wp2
 repeat (go_quiet (fail); try go_wp2)
 go_loopg [0, 1] k (fun kq v0 v1 w' => ∃ (x0_1 : Int) (x1_1 : Int), v0 = .int .i64 x0_1 ∧ v1 = .int .i64 x1_1 ∧ Aside0 (marigraphref1_gcd.l0 kq x0_1 x1_1 = some r) ∧ Aside0 (kq ≤ k) ∧ Drawn0 w w')
 case atStart => exact ⟨(a0), (a1), (by first | rfl | (simp; done) | (simp [*]; done)), (by first | rfl | (simp; done) | (simp [*]; done)), H', ⟨Nat.le_refl _⟩, by repeat (first | exact Drawn0.refl _ | apply Drawn0.step)⟩
 case round =>
  clear H'
  try clear p2
  obtain ⟨x0_1, x1_1, rfl, rfl, HA, HK1, ⟨m1, rfl⟩⟩ := hrel
  cases gk with
  | zero => exact absurd HA.out (by simp [marigraphref1_gcd.l0])
  | succ k1 =>
   have H := HA.out
   clear HA
   simp only [marigraphref1_gcd.l0] at H
   by_cases c3 : x1_1 = 0
   ·rw [if_pos c3] at H
    have c3b0 : (x1_1 == 0) = true := beq_iff_eq.mpr c3
    have c3b1 : (x1_1 != 0) = false := bne_eq_false_iff_eq.mpr c3
    clear c3
    obtain rfl := Option.some.inj H
    go_wp2
    repeat (go_quiet (fail); try go_wp2)
    go_ret
    exact ⟨by first | rfl | (simp; done) | (simp [*]; done), by repeat (first | exact Drawn0.refl _ | apply Drawn0.step)⟩
   ·rw [if_neg c3] at H
    have c3b0 : (x1_1 == 0) = false := beq_eq_false_iff_ne.mpr c3
    have c3b1 : (x1_1 != 0) = true := bne_iff_ne.mpr c3
    have H' := Aside0.mk H
    clear H
    go_wp2
    repeat (go_quiet (fail); try go_wp2)
    go_roundg k1
    case measure => have := HK1.out; omega
    case rel => exact ⟨(x1_1), (Int.tmod x0_1 x1_1), (by first | rfl | (simp; done) | (simp [*]; done)), (by first | rfl | (simp; done) | (simp [*]; done)), H', ⟨by have := HK1.out; omega⟩, by repeat (first | exact Drawn0.refl _ | apply Drawn0.step)⟩

/-! ### marigraphref1_abs: function 47 -/
def marigraphref1_abs.f (a0 : Int) : Option (Int) := if a0 < 0 then (some (wrap64 (-a0))) else (some a0)
set_option maxHeartbeats 8000000 in
set_option maxRecDepth 100000 in
theorem marigraphref1_abs.calls (a0 : Int) (r : Int) (w : World) (h : marigraphref1_abs.f a0 = some r) :
    Calls Try.prog 47 #[.int .i64 a0] w fun e w' => e = .returned (.int .i64 r) ∧ Drawn0 w w' := by
  have H : (if a0 < 0 then (some (wrap64 (-a0))) else (some a0)) = some r := h
  clear h
  by_cases c2 : a0 < 0
  · rw [if_pos c2] at H
    have c2b0 : decide (a0 < 0) = true := decide_eq_true c2
    clear c2
    obtain rfl := Option.some.inj H
    go_enter Try.func47, Try.ntmps47
    go_wp2
    go_ret
    exact ⟨by first | rfl | (simp; done) | (simp [*]; done), by repeat (first | exact Drawn0.refl _ | apply Drawn0.step)⟩
  · rw [if_neg c2] at H
    have c2b0 : decide (a0 < 0) = false := decide_eq_false c2
    clear c2
    obtain rfl := Option.some.inj H
    go_enter Try.func47, Try.ntmps47
    go_wp2
    go_ret
    exact ⟨by first | rfl | (simp; done) | (simp [*]; done), by repeat (first | exact Drawn0.refl _ | apply Drawn0.step)⟩

/-! ### marigraphref1_Right: function 30 -/
def marigraphref1_Right.j0 : Nat → Bool → Int → Int → Option (Bool)
 | 0, _, _, _ => none
 | k + 1, x20, x206000, x206001 => if x20 = true then (some false) else ((marigraphref1_abs.f x206000).bind fun t206 => ((marigraphref1_gcd.f k t206 x206001).bind fun t207 => (some (t207 == 1))))
def marigraphref1_Right.f (k : Nat) (a0_0 : Int) (a0_1 : Int) : Option (Bool) := if a0_1 < 1 then (marigraphref1_Right.j0 k true a0_0 a0_1) else (if a0_1 > 2147483647 then (marigraphref1_Right.j0 k true a0_0 a0_1) else (if a0_0 < (-2147483647) then (marigraphref1_Right.j0 k true a0_0 a0_1) else (marigraphref1_Right.j0 k (decide (a0_0 > 2147483647)) a0_0 a0_1)))
theorem marigraphref1_Right.mono_l : ∀ k, (∀ y0 y1 y2, LeO (marigraphref1_Right.j0 k y0 y1 y2) (marigraphref1_Right.j0 (k + 1) y0 y1 y2))
 | 0 => fun _ _ _ r h => by simp [marigraphref1_Right.j0] at h
 | k + 1 => by
  have ih0 := marigraphref1_Right.mono_l k
  ·intro y0 y1 y2
   unfold marigraphref1_Right.j0
   repeat' first
   | (with_reducible exact ih0 _ _ _)
   | (with_reducible exact marigraphref1_gcd.mono _ _ _)
   | (with_reducible exact LeO.refl _)
   | (with_reducible exact LeO.none _)
   | (with_reducible refine LeO.ite ?_ ?_)
   | (with_reducible refine LeO.bind ?_ (fun _ => ?_))
   | exact ih0 _ _ _
   | exact marigraphref1_gcd.mono _ _ _
   | exact LeO.none _
   | refine LeO.ite ?_ ?_
   | refine LeO.bind ?_ (fun _ => ?_)
theorem marigraphref1_Right.mono : ∀ a0 a1 k, LeO (marigraphref1_Right.f k a0 a1) (marigraphref1_Right.f (k + 1) a0 a1) := by
 intro a0 a1 k
 have ih0 := marigraphref1_Right.mono_l k
 unfold marigraphref1_Right.f
 repeat' first
   | (with_reducible exact ih0 _ _ _)
   | (with_reducible exact marigraphref1_gcd.mono _ _ _)
   | (with_reducible exact LeO.refl _)
   | (with_reducible exact LeO.none _)
   | (with_reducible refine LeO.ite ?_ ?_)
   | (with_reducible refine LeO.bind ?_ (fun _ => ?_))
   | exact ih0 _ _ _
   | exact marigraphref1_gcd.mono _ _ _
   | exact LeO.none _
   | refine LeO.ite ?_ ?_
   | refine LeO.bind ?_ (fun _ => ?_)
set_option maxHeartbeats 8000000 in
set_option maxRecDepth 100000 in
theorem marigraphref1_Right.calls (k : Nat) (a0_0 : Int) (a0_1 : Int) (r : Bool) (w : World) (h : marigraphref1_Right.f k a0_0 a0_1 = some r) :
  Calls Try.prog 30 #[.agg #[.int .i64 a0_0, .int .i64 a0_1]] w fun e w' => e = .returned (.bool r) ∧ Below w.heap.size w w' := by
 have hu24 := Try.underlying24
 have HB := Aside0.mk (Below.refl w.heap.size w)
 have H : (if a0_1 < 1 then (marigraphref1_Right.j0 k true a0_0 a0_1) else (if a0_1 > 2147483647 then (marigraphref1_Right.j0 k true a0_0 a0_1) else (if a0_0 < (-2147483647) then (marigraphref1_Right.j0 k true a0_0 a0_1) else (marigraphref1_Right.j0 k (decide (a0_0 > 2147483647)) a0_0 a0_1)))) = some r := h
 clear h
 have HC2 := Aside0.mk H
 clear H
 go_enter Try.func30, Try.ntmps30
 go_upto_region 1 with (first | ((with_reducible refine gate_dst (N := 1) rfl ?_); refine box_event ?hg (N := 1) ?hd (cs := #[.int .i64 a0_0, .int .i64 a0_1]) (t := 24) ?hr ?_; (case hd => rfl); (case hg => rfl); (case hr => first | (go_simp; done) | (go_simp; rfl)); intro gb205 hg w3 hbox hb; have n0_ := Aside0.mk (below_step (belN HB.out) hb); have n1_ := Aside0.mk (hbox); have n2_ := Aside0.mk (szB hg HB.out); have n3_ := Aside0.mk (szB hg HB.out); clear HB; have HB := n0_; have BK205 := n1_; have GW205 := n2_; have GE205 := n3_; clear n0_ n1_ n2_ n3_; clear hb hbox hg))
 repeat (go_quiet (first | ((with_reducible refine gate_dst (N := 1) rfl ?_); refine box_event ?hg (N := 1) ?hd (cs := #[.int .i64 a0_0, .int .i64 a0_1]) (t := 24) ?hr ?_; (case hd => rfl); (case hg => rfl); (case hr => first | (go_simp; done) | (go_simp; rfl)); intro gb205 hg w3 hbox hb; have n0_ := Aside0.mk (below_step (belN HB.out) hb); have n1_ := Aside0.mk (hbox); have n2_ := Aside0.mk (szB hg HB.out); have n3_ := Aside0.mk (szB hg HB.out); clear HB; have HB := n0_; have BK205 := n1_; have GW205 := n2_; have GE205 := n3_; clear n0_ n1_ n2_ n3_; clear hb hbox hg)); go_upto_region 1 with (first | ((with_reducible refine gate_dst (N := 1) rfl ?_); refine box_event ?hg (N := 1) ?hd (cs := #[.int .i64 a0_0, .int .i64 a0_1]) (t := 24) ?hr ?_; (case hd => rfl); (case hg => rfl); (case hr => first | (go_simp; done) | (go_simp; rfl)); intro gb205 hg w3 hbox hb; have n0_ := Aside0.mk (below_step (belN HB.out) hb); have n1_ := Aside0.mk (hbox); have n2_ := Aside0.mk (szB hg HB.out); have n3_ := Aside0.mk (szB hg HB.out); clear HB; have HB := n0_; have BK205 := n1_; have GW205 := n2_; have GE205 := n3_; clear n0_ n1_ n2_ n3_; clear hb hbox hg)))
 (try simp only [Act.put, List.setIfInBounds_toArray, List.set_cons_zero, List.set_cons_succ])
 go_cut [20] (fun v20 wc => ∃ (kq : Nat) (x20_1 : Bool), v20 = .bool x20_1 ∧ Aside0 (marigraphref1_Right.j0 kq x20_1 a0_0 a0_1 = some r) ∧ Aside0 (kq ≤ k) ∧ Aside0 (wc.heap[gb205]? = some (.cells #[.int .i64 a0_0, .int .i64 a0_1] 24 (0, 0))) ∧ Aside0 (Below w.heap.size w wc))
 case first =>
  have H := HC2.out
  clear HC2
  by_cases c4 : a0_1 < 1
  ·rw [if_pos c4] at H
   have c4b0 : decide (a0_1 < 1) = true := decide_eq_true c4
   clear c4
   (first | rw [c4b0] | rw [c4b1] | (simp only [i64_w, i32_w]; rw [c4b0]) | skip)
   have H' := Aside0.mk H
   clear H
   have hcz5_0 : w3.cell? ⟨gb205, 0, none⟩ = some (.int .i64 a0_0) := (blk_cell BK205.out 0).trans rfl
   have hcz5_1 : w3.cell? ⟨gb205, 1, none⟩ = some (.int .i64 a0_1) := (blk_cell BK205.out 1).trans rfl
   have hfz5_0 := blk_frozen BK205.out 0
   have hfz5_1 := blk_frozen BK205.out 1
   go_wp2
   repeat (go_quiet (fail); try go_wp2)
   go_meet
   case rel => exact ⟨_, (true), (by first | rfl | (simp; done) | (simp [*]; done)), H', ⟨by first | omega | exact Nat.le_refl _⟩, ⟨blkN BK205.out⟩, ⟨(belS HB.out)⟩⟩
  ·rw [if_neg c4] at H
   have c4b0 : decide (a0_1 < 1) = false := decide_eq_false c4
   clear c4
   (first | rw [c4b0] | rw [c4b1] | (simp only [i64_w, i32_w]; rw [c4b0]) | skip)
   by_cases c6 : a0_1 > 2147483647
   ·rw [if_pos c6] at H
    have c6b0 : decide (2147483647 < a0_1) = true := decide_eq_true c6
    clear c6
    have H' := Aside0.mk H
    clear H
    have hcz7_0 : w3.cell? ⟨gb205, 0, none⟩ = some (.int .i64 a0_0) := (blk_cell BK205.out 0).trans rfl
    have hcz7_1 : w3.cell? ⟨gb205, 1, none⟩ = some (.int .i64 a0_1) := (blk_cell BK205.out 1).trans rfl
    have hfz7_0 := blk_frozen BK205.out 0
    have hfz7_1 := blk_frozen BK205.out 1
    go_wp2
    repeat (go_quiet (fail); try go_wp2)
    go_meet
    case rel => exact ⟨_, (true), (by first | rfl | (simp; done) | (simp [*]; done)), H', ⟨by first | omega | exact Nat.le_refl _⟩, ⟨blkN BK205.out⟩, ⟨(belS HB.out)⟩⟩
   ·rw [if_neg c6] at H
    have c6b0 : decide (2147483647 < a0_1) = false := decide_eq_false c6
    clear c6
    by_cases c8 : a0_0 < (-2147483647)
    ·rw [if_pos c8] at H
     have c8b0 : decide (a0_0 < (-2147483647)) = true := decide_eq_true c8
     clear c8
     have H' := Aside0.mk H
     clear H
     have hcz9_0 : w3.cell? ⟨gb205, 0, none⟩ = some (.int .i64 a0_0) := (blk_cell BK205.out 0).trans rfl
     have hcz9_1 : w3.cell? ⟨gb205, 1, none⟩ = some (.int .i64 a0_1) := (blk_cell BK205.out 1).trans rfl
     have hfz9_0 := blk_frozen BK205.out 0
     have hfz9_1 := blk_frozen BK205.out 1
     go_wp2
     repeat (go_quiet (fail); try go_wp2)
     go_meet
     case rel => exact ⟨_, (true), (by first | rfl | (simp; done) | (simp [*]; done)), H', ⟨by first | omega | exact Nat.le_refl _⟩, ⟨blkN BK205.out⟩, ⟨(belS HB.out)⟩⟩
    ·rw [if_neg c8] at H
     have c8b0 : decide (a0_0 < (-2147483647)) = false := decide_eq_false c8
     clear c8
     have H' := Aside0.mk H
     clear H
     have hcz10_0 : w3.cell? ⟨gb205, 0, none⟩ = some (.int .i64 a0_0) := (blk_cell BK205.out 0).trans rfl
     have hcz10_1 : w3.cell? ⟨gb205, 1, none⟩ = some (.int .i64 a0_1) := (blk_cell BK205.out 1).trans rfl
     have hfz10_0 := blk_frozen BK205.out 0
     have hfz10_1 := blk_frozen BK205.out 1
     go_wp2
     repeat (go_quiet (fail); try go_wp2)
     go_meet
     case rel => exact ⟨_, (decide (a0_0 > 2147483647)), (by first | rfl | (simp; done) | (simp [*]; done)), H', ⟨by first | omega | exact Nat.le_refl _⟩, ⟨blkN BK205.out⟩, ⟨(belS HB.out)⟩⟩
 case rest =>
  clear HC2
  try clear p2
  try clear c3
  try clear c4
  try clear c4b0
  try clear c6
  try clear c6b0
  try clear c8
  try clear c8b0
  try clear hcz10_0
  try clear hcz10_1
  try clear hcz5_0
  try clear hcz5_1
  try clear hcz7_0
  try clear hcz7_1
  try clear hcz9_0
  try clear hcz9_1
  try clear hfz10_0
  try clear hfz10_1
  try clear hfz5_0
  try clear hfz5_1
  try clear hfz7_0
  try clear hfz7_1
  try clear hfz9_0
  try clear hfz9_1
  obtain ⟨kq, x20_1, rfl, HA, HJ1, BK205, HB⟩ := hcut
  cases kq with
  | zero => exact absurd HA.out (by simp [marigraphref1_Right.j0])
  | succ kj1 =>
   have H := HA.out
   clear HA
   simp only [marigraphref1_Right.j0] at H
   by_cases c11 : x20_1 = true
   ·subst c11
    have H1 : (some false) = some r := by rw [if_pos rfl] at H; exact H
    clear H
    have H := H1
    clear H1
    obtain rfl := Option.some.inj H
    go_wp2
    repeat (go_quiet (fail); try go_wp2)
    go_ret
    exact ⟨by first | rfl | (simp [errW_none, errW_some] <;> rfl) | (simp [*, errW_none, errW_some] <;> rfl), (belS HB.out)⟩
   ·replace c11 := Bool.eq_false_iff.mpr c11
    subst c11
    have H1 : ((marigraphref1_abs.f a0_0).bind fun t206 => ((marigraphref1_gcd.f kj1 t206 a0_1).bind fun t207 => (some (t207 == 1)))) = some r := by rw [if_neg (show ¬ (false = true) by decide)] at H; exact H
    clear H
    have H := H1
    clear H1
    replace H := Option.bind_eq_some_iff.mp H
    obtain ⟨t206, A120, H⟩ := H
    replace H : ((marigraphref1_gcd.f kj1 t206 a0_1).bind fun t207 => (some (t207 == 1))) = some r := H
    have A12 := Aside0.mk A120
    clear A120
    replace H := Option.bind_eq_some_iff.mp H
    obtain ⟨t207, A130, H⟩ := H
    replace H : (some (t207 == 1)) = some r := H
    have A13 := Aside0.mk A130
    clear A130
    obtain rfl := Option.some.inj H
    have hcz14_0 : wc.cell? ⟨gb205, 0, none⟩ = some (.int .i64 a0_0) := (blk_cell BK205.out 0).trans rfl
    have hcz14_1 : wc.cell? ⟨gb205, 1, none⟩ = some (.int .i64 a0_1) := (blk_cell BK205.out 1).trans rfl
    have hfz14_0 := blk_frozen BK205.out 0
    have hfz14_1 := blk_frozen BK205.out 1
    go_wp2_with (first | (go_at_call 47; (with_reducible refine (marigraphref1_abs.calls a0_0 t206 _ A12.out).mono ?_); rintro e w' ⟨rfl, ⟨nd, rfl⟩⟩; (try first | exact ⟨rfl, _, World.drewN_drewN _ _ _⟩ | exact ⟨rfl, _, Eq.trans (World.drewN_drewN _ _ _) (congrArg (World.drewN _) (Nat.add_assoc _ _ _))⟩)) | (go_at_call 46; (with_reducible refine (marigraphref1_gcd.calls kj1 t206 a0_1 t207 _ A13.out).mono ?_); rintro e w' ⟨rfl, ⟨nd, rfl⟩⟩; (try first | exact ⟨rfl, _, World.drewN_drewN _ _ _⟩ | exact ⟨rfl, _, Eq.trans (World.drewN_drewN _ _ _) (congrArg (World.drewN _) (Nat.add_assoc _ _ _))⟩)))
    repeat (go_quiet (first | (go_at_call 47; (with_reducible refine (marigraphref1_abs.calls a0_0 t206 _ A12.out).mono ?_); rintro e w' ⟨rfl, ⟨nd, rfl⟩⟩; (try first | exact ⟨rfl, _, World.drewN_drewN _ _ _⟩ | exact ⟨rfl, _, Eq.trans (World.drewN_drewN _ _ _) (congrArg (World.drewN _) (Nat.add_assoc _ _ _))⟩)) | (go_at_call 46; (with_reducible refine (marigraphref1_gcd.calls kj1 t206 a0_1 t207 _ A13.out).mono ?_); rintro e w' ⟨rfl, ⟨nd, rfl⟩⟩; (try first | exact ⟨rfl, _, World.drewN_drewN _ _ _⟩ | exact ⟨rfl, _, Eq.trans (World.drewN_drewN _ _ _) (congrArg (World.drewN _) (Nat.add_assoc _ _ _))⟩))); try go_wp2_with (first | (go_at_call 47; (with_reducible refine (marigraphref1_abs.calls a0_0 t206 _ A12.out).mono ?_); rintro e w' ⟨rfl, ⟨nd, rfl⟩⟩; (try first | exact ⟨rfl, _, World.drewN_drewN _ _ _⟩ | exact ⟨rfl, _, Eq.trans (World.drewN_drewN _ _ _) (congrArg (World.drewN _) (Nat.add_assoc _ _ _))⟩)) | (go_at_call 46; (with_reducible refine (marigraphref1_gcd.calls kj1 t206 a0_1 t207 _ A13.out).mono ?_); rintro e w' ⟨rfl, ⟨nd, rfl⟩⟩; (try first | exact ⟨rfl, _, World.drewN_drewN _ _ _⟩ | exact ⟨rfl, _, Eq.trans (World.drewN_drewN _ _ _) (congrArg (World.drewN _) (Nat.add_assoc _ _ _))⟩))))
    go_ret
    exact ⟨by first | rfl | (simp [errW_none, errW_some] <;> rfl) | (simp [*, errW_none, errW_some] <;> rfl), (belS HB.out)⟩

/-! ### marigraphref1_parts: function 48 -/
def marigraphref1_parts.f (a0 : Int) : Option (Bool × Int) := if a0 < 0 then (some (true, IntKind.u64.wrap (-(IntKind.u64.wrap (a0))))) else (some (false, IntKind.u64.wrap (a0)))
set_option maxHeartbeats 8000000 in
set_option maxRecDepth 100000 in
theorem marigraphref1_parts.calls (a0 : Int) (r1 : Bool) (r2 : Int) (w : World) (h : marigraphref1_parts.f a0 = some (r1, r2)) :
    Calls Try.prog 48 #[.int .i64 a0] w fun e w' => e = .returned (.tuple #[.bool r1, .int .u64 r2]) ∧ Drawn0 w w' := by
  have H : (if a0 < 0 then (some (true, IntKind.u64.wrap (-(IntKind.u64.wrap (a0))))) else (some (false, IntKind.u64.wrap (a0)))) = some (r1, r2) := h
  clear h
  by_cases c2 : a0 < 0
  · rw [if_pos c2] at H
    have c2b0 : decide (a0 < 0) = true := decide_eq_true c2
    clear c2
    simp only [Option.some.injEq, Prod.mk.injEq] at H
    obtain ⟨rfl, rfl⟩ := H
    go_enter Try.func48, Try.ntmps48
    go_wp2
    go_ret2
    exact ⟨by first | rfl | (simp; done) | (simp [*]; done), by repeat (first | exact Drawn0.refl _ | apply Drawn0.step)⟩
  · rw [if_neg c2] at H
    have c2b0 : decide (a0 < 0) = false := decide_eq_false c2
    clear c2
    simp only [Option.some.injEq, Prod.mk.injEq] at H
    obtain ⟨rfl, rfl⟩ := H
    go_enter Try.func48, Try.ntmps48
    go_wp2
    go_ret2
    exact ⟨by first | rfl | (simp; done) | (simp [*]; done), by repeat (first | exact Drawn0.refl _ | apply Drawn0.step)⟩

end Go.Proofs.Ytlmcnlaopolinaa.PLerpTells

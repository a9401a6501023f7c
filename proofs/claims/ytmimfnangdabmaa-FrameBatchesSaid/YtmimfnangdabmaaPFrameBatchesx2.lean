/- The walk of the Go functions that a law reaches, told as plain functions; a program of this session has written it. No condition beyond the statement's own. -/
import Derived.Test.YtmimfnangdabmaaPFrameBatchesx0
import Derived.Test.YtmimfnangdabmaaPFrameBatchesx1
namespace Go.Proofs.Ytmimfnangdabmaa.PFrameBatches
open Go.RowKit Go.Proofs.YtmimfnangdabmaaW.PrintWords Go.Proofs.YtmimfnangdabmaaW.PrintLast Go.Proofs.YtmimfnangdabmaaW.PrintMore
attribute [local go_sem] max2_int min2_int max_two min_two max_three min_three max_four min_four   -- for this text's walks alone
set_option linter.unusedVariables false
set_option linter.unusedSimpArgs false

/-! ### frame_Batch: function 22 -/
mutual
def frame_Batch.l0 : Nat → List Int → List (S49) → Int → Int → Option (List Int × Int)
 | 0, _, _, _, _ => none
 | k + 1, x4, x16, x17, x18 => if x18 < x17 then (if 0 ≤ x18 then (if x18 < (x16.length : Int) then ((frame_value.f ((rd_T49 x16 x18).f0) ((rd_T49 x16 x18).f1) ((rd_T49 x16 x18).f2)).bind fun t127 => (if (((rd_T49 x16 x18).f0).length : Int) < 1 then (frame_Batch.j1 k x4 t127 x16 x17 x18 true ((rd_T49 x16 x18).f0) ((rd_T49 x16 x18).f1) ((rd_T49 x16 x18).f2)) else (if (((rd_T49 x16 x18).f0).length : Int) > 255 then (frame_Batch.j1 k x4 t127 x16 x17 x18 true ((rd_T49 x16 x18).f0) ((rd_T49 x16 x18).f1) ((rd_T49 x16 x18).f2)) else (frame_Batch.j1 k x4 t127 x16 x17 x18 (decide ((t127.length : Int) > 4095)) ((rd_T49 x16 x18).f0) ((rd_T49 x16 x18).f1) ((rd_T49 x16 x18).f2))))) else (none)) else (none)) else (some (x4, 0))
def frame_Batch.j1 : Nat → List Int → List Int → List (S49) → Int → Int → Bool → List Int → List Int → Bool → Option (List Int × Int)
 | 0, _, _, _, _, _, _, _, _, _ => none
 | k + 1, x4, x7, x16, x17, x18, x38, x127000, x127001, x127002 => if x38 = true then (some (([] : List Int), 3)) else (if x127002 = true then ((some (([0, ((x127000.length : Int)) % 256] : List Int) : List Int)).bind fun y130 => (if x4.length + y130.length < 140737488355328 then ((some (x4 ++ y130 : List Int)).bind fun y133 => (if y133.length + x127000.length < 140737488355328 then (frame_Batch.l0 k (y133 ++ x127000) x16 x17 (wrap64 (x18 + 1))) else (none))) else (none))) else ((some (([1, ((x127000.length : Int)) % 256] : List Int) : List Int)).bind fun y139 => (if x4.length + y139.length < 140737488355328 then ((some (x4 ++ y139 : List Int)).bind fun y142 => (if y142.length + x127000.length < 140737488355328 then ((octet_Put.f k (y142 ++ x127000) (IntKind.u64.wrap ((x7.length : Int))) 2).bind fun t148 => (if t148.length + x7.length < 140737488355328 then (frame_Batch.l0 k (t148 ++ x7) x16 x17 (wrap64 (x18 + 1))) else (none))) else (none))) else (none))))
end
def frame_Batch.f (k : Nat) (l0 : List (S49)) : Option (List Int × Int) := if (l0.length : Int) > 8191 then (some (([] : List Int), 3)) else ((octet_Put.f k ([] : List Int) (IntKind.u64.wrap ((l0.length : Int))) 2).bind fun t122 => (frame_Batch.l0 k t122 l0 (l0.length : Int) 0))
theorem frame_Batch.mono_l : ∀ k, (∀ y0 y1 y2 y3, LeO (frame_Batch.l0 k y0 y1 y2 y3) (frame_Batch.l0 (k + 1) y0 y1 y2 y3)) ∧ (∀ y0 y1 y2 y3 y4 y5 y6 y7 y8, LeO (frame_Batch.j1 k y0 y1 y2 y3 y4 y5 y6 y7 y8) (frame_Batch.j1 (k + 1) y0 y1 y2 y3 y4 y5 y6 y7 y8))
 | 0 => ⟨fun _ _ _ _ r h => by simp [frame_Batch.l0] at h, fun _ _ _ _ _ _ _ _ _ r h => by simp [frame_Batch.j1] at h⟩
 | k + 1 => by
  obtain ⟨ih0, ih1⟩ := frame_Batch.mono_l k
  refine ⟨?_, ?_⟩
  ·intro y0 y1 y2 y3
   unfold frame_Batch.l0
   repeat' first
   | (with_reducible exact ih0 _ _ _ _)
   | (with_reducible exact ih1 _ _ _ _ _ _ _ _ _)
   | (with_reducible exact octet_Put.mono _ _ _ _)
   | (with_reducible exact LeO.refl _)
   | (with_reducible exact LeO.none _)
   | (with_reducible refine LeO.ite ?_ ?_)
   | (with_reducible refine LeO.bind ?_ (fun _ => ?_))
   | exact ih0 _ _ _ _
   | exact ih1 _ _ _ _ _ _ _ _ _
   | exact octet_Put.mono _ _ _ _
   | exact LeO.none _
   | refine LeO.ite ?_ ?_
   | refine LeO.bind ?_ (fun _ => ?_)
  ·intro y0 y1 y2 y3 y4 y5 y6 y7 y8
   unfold frame_Batch.j1
   repeat' first
   | (with_reducible exact ih0 _ _ _ _)
   | (with_reducible exact ih1 _ _ _ _ _ _ _ _ _)
   | (with_reducible exact octet_Put.mono _ _ _ _)
   | (with_reducible exact LeO.refl _)
   | (with_reducible exact LeO.none _)
   | (with_reducible refine LeO.ite ?_ ?_)
   | (with_reducible refine LeO.bind ?_ (fun _ => ?_))
   | exact ih0 _ _ _ _
   | exact ih1 _ _ _ _ _ _ _ _ _
   | exact octet_Put.mono _ _ _ _
   | exact LeO.none _
   | refine LeO.ite ?_ ?_
   | refine LeO.bind ?_ (fun _ => ?_)
theorem frame_Batch.mono : ∀ a0 k, LeO (frame_Batch.f k a0) (frame_Batch.f (k + 1) a0) := by
 intro a0 k
 obtain ⟨ih0, ih1⟩ := frame_Batch.mono_l k
 unfold frame_Batch.f
 repeat' first
   | (with_reducible exact ih0 _ _ _ _)
   | (with_reducible exact ih1 _ _ _ _ _ _ _ _ _)
   | (with_reducible exact octet_Put.mono _ _ _ _)
   | (with_reducible exact LeO.refl _)
   | (with_reducible exact LeO.none _)
   | (with_reducible refine LeO.ite ?_ ?_)
   | (with_reducible refine LeO.bind ?_ (fun _ => ?_))
   | exact ih0 _ _ _ _
   | exact ih1 _ _ _ _ _ _ _ _ _
   | exact octet_Put.mono _ _ _ _
   | exact LeO.none _
   | refine LeO.ite ?_ ?_
   | refine LeO.bind ?_ (fun _ => ?_)
set_option maxHeartbeats 8000000 in
set_option maxRecDepth 100000 in
theorem frame_Batch.calls (k : Nat) (A0 : Option Addr) (c0 : Nat) (l0 : List (S49)) (r1 : List Int) (r2 : Int) (w : World) (hr0 : Kd.C k49 w A0 l0.length l0) (hc0 : l0.length ≤ c0) (h : frame_Batch.f k l0 = some (r1, r2)) :
  Calls Try.prog 22 #[.slice A0 l0.length c0] w fun e w' => ∃ v0_ : Value, e = .returned (.tuple #[v0_, .int .i64 r2]) ∧ Kd.R (Kd.int .u8) 5 w' w.heap.size (fun _ => True) v0_ r1 ∧ Below w.heap.size w w' := by
 have hu49 := Try.underlying49
 have HR0 := Aside0.mk hr0
 have HC0 := Aside0.mk hc0
 clear hr0 hc0
 have HB := Aside0.mk (Below.refl w.heap.size w)
 have H : (if (l0.length : Int) > 8191 then (some (([] : List Int), 3)) else ((octet_Put.f k ([] : List Int) (IntKind.u64.wrap ((l0.length : Int))) 2).bind fun t122 => (frame_Batch.l0 k t122 l0 (l0.length : Int) 0))) = some (r1, r2) := h
 clear h
 by_cases c2 : (l0.length : Int) > 8191
 ·rw [if_pos c2] at H
  have c2b0 : decide (8191 < (l0.length : Int)) = true := decide_eq_true c2
  have c2b1 : decide (8191 < l0.length) = true := decide_eq_true (by omega)
  clear c2
  simp only [Option.some.injEq, Prod.mk.injEq] at H
  obtain ⟨rfl, rfl⟩ := H
  go_enter Try.func22, Try.ntmps22
  go_wp2
  go_ret2
  exact ⟨_, by first | rfl | (simp [errW_none, errW_some] <;> rfl) | (simp [*, errW_none, errW_some] <;> rfl), by first | exact Kd.R_nil _ _ _ _ _ | exact Kd.N_nil _ _ _ _ _ | exact Kd.V_nil _ _ _ _ _ | exact Kd.Q_nil _ _ _ _ _ | exact Kd.S_nil _ _ _ _ _, (belN HB.out)⟩
 ·rw [if_neg c2] at H
  have c2b0 : decide (8191 < (l0.length : Int)) = false := decide_eq_false c2
  have c2b1 : decide (8191 < l0.length) = false := decide_eq_false (by omega)
  clear c2
  replace H := Option.bind_eq_some_iff.mp H
  obtain ⟨t122, A30, H⟩ := H
  replace H : (frame_Batch.l0 k t122 l0 (l0.length : Int) 0) = some (r1, r2) := H
  have A3 := Aside0.mk A30
  clear A30
  have H' := Aside0.mk H
  clear H
  go_enter Try.func22, Try.ntmps22
  go_wp2_with (first | ((with_reducible refine gate_callee (f := 39) rfl ?_); refine goesL_ (some 15) rfl rfl Try.func39 (by kernel_rfl) rfl #[.slice none 0 0, .int .u64 (IntKind.u64.wrap ((l0.length : Int))), .int .i64 2] rfl argN ?_; (refine (octet_Put.calls k _ _ ([] : List Int) (IntKind.u64.wrap ((l0.length : Int))) 2 t122 _ ?side1 ?side2 A3.out).mono ?_); (case side1 => exact Kd.C_nil _ _); (case side2 => exact Nat.le_refl _); rintro e w4 ⟨v123, rfl, ho0, hb⟩; refine ⟨_, rfl, ?_⟩; have n0_ := Aside0.mk (Kd.R_lower ho0 (below_size (belN HB.out))); have n1_ := Aside0.mk (below_step (belN HB.out) hb); clear HB; have HO124 := n0_; have HB := n1_; clear n0_ n1_; (try clear hb); (try clear hk); (try clear ho0)))
  go_loopg [4, 18] k (fun kq v4 v18 w' => ∃ (x4_1 : List Int) (x18_1 : Int), v18 = .int .i64 x18_1 ∧ Aside0 (frame_Batch.l0 kq x4_1 l0 (l0.length : Int) x18_1 = some (r1, r2)) ∧ Aside0 (kq ≤ k) ∧ Aside0 (Kd.R (Kd.int .u8) 5 w' w.heap.size (fun _ => True) v4 x4_1) ∧ Aside0 (Below w.heap.size w w'))
  case atStart => exact ⟨(t122), (0), (by first | rfl | (simp; done) | (simp [*]; done)), H', ⟨Nat.le_refl _⟩, ⟨(rowN HO124.out)⟩, ⟨(belN HB.out)⟩⟩
  case round =>
   clear H'
   try clear c2
   try clear c2b0
   try clear c2b1
   try clear p2
   try clear c3
   obtain ⟨x4_1, x18_1, rfl, HA, HK1, HO_4, HB⟩ := hrel
   cases gk with
   | zero => exact absurd HA.out (by simp [frame_Batch.l0])
   | succ k1 =>
    have H := HA.out
    clear HA
    simp only [frame_Batch.l0] at H
    by_cases c5 : x18_1 < (l0.length : Int)
    ·rw [if_pos c5] at H
     have c5b0 : decide (x18_1 < (l0.length : Int)) = true := decide_eq_true c5
     clear c5
     by_cases c6 : 0 ≤ x18_1
     ·rw [if_pos c6] at H
      have c6b0 : decide (0 ≤ x18_1) = true := decide_eq_true c6
      clear c6
      by_cases c7 : x18_1 < (l0.length : Int)
      ·rw [if_pos c7] at H
       have c7b0 : decide (x18_1 < (l0.length : Int)) = true := decide_eq_true c7
       clear c7
       replace H := Option.bind_eq_some_iff.mp H
       obtain ⟨t127, A80, H⟩ := H
       replace H : (if (((rd_T49 l0 x18_1).f0).length : Int) < 1 then (frame_Batch.j1 k1 x4_1 t127 l0 (l0.length : Int) x18_1 true ((rd_T49 l0 x18_1).f0) ((rd_T49 l0 x18_1).f1) ((rd_T49 l0 x18_1).f2)) else (if (((rd_T49 l0 x18_1).f0).length : Int) > 255 then (frame_Batch.j1 k1 x4_1 t127 l0 (l0.length : Int) x18_1 true ((rd_T49 l0 x18_1).f0) ((rd_T49 l0 x18_1).f1) ((rd_T49 l0 x18_1).f2)) else (frame_Batch.j1 k1 x4_1 t127 l0 (l0.length : Int) x18_1 (decide ((t127.length : Int) > 4095)) ((rd_T49 l0 x18_1).f0) ((rd_T49 l0 x18_1).f1) ((rd_T49 l0 x18_1).f2)))) = some (r1, r2) := H
       have A8 := Aside0.mk A80
       clear A80
       have HC9 := Aside0.mk H
       clear H
       have p125 : 0 ≤ (x18_1 : Int) := of_decide_eq_true (by first | (with_reducible assumption) | assumption)
       have q125 : x18_1 < (l0.length : Int) := of_decide_eq_true (by first | (with_reducible assumption) | assumption)
       obtain ⟨ad125, A125_0, c125_0, A125_1, c125_1, e125, hx125_0, hx125_1, hx125_2, hl125_0, hi125_0, hl125_1, hi125_1⟩ := at_T49 HR0.out x18_1 p125 q125
       cases e125
       replace hx125_0 := cellB HB.out hx125_0
       replace hx125_1 := cellB HB.out hx125_1
       replace hx125_2 := cellB HB.out hx125_2
       have HR125_0 := Aside0.mk hi125_0
       have HC125_0 := Aside0.mk hl125_0
       clear hi125_0 hl125_0
       have HR125_1 := Aside0.mk hi125_1
       have HC125_1 := Aside0.mk hl125_1
       clear hi125_1 hl125_1
       replace p125 := eq_true p125
       replace q125 := eq_true q125
       go_upto_region 8 with (first | ((with_reducible refine gate_dst (N := 6) rfl ?_); (try (refine gate_guard (by rfl) ?_; dsimp only)); refine box_event ?hg (N := 6) ?hd (cs := #[.slice none 0 0, .slice none 0 0, .bool false]) (t := 49) ?hr ?_; (case hd => rfl); (case hg => rfl); (case hr => first | (go_simp; done) | (go_simp; rfl)); intro gb126 hg w10 hbox hb; have n0_ := Aside0.mk (Kd.R_below (rowN HO_4.out) hb); have n1_ := Aside0.mk (below_step (belN HB.out) hb); have n2_ := Aside0.mk (hbox); have n3_ := Aside0.mk (szB hg HB.out); have n4_ := Aside0.mk (szB hg HB.out); clear HO_4; clear HB; have HO_4 := n0_; have HB := n1_; have BK126 := n2_; have GW126 := n3_; have GE126 := n4_; clear n0_ n1_ n2_ n3_ n4_; clear hb hbox hg; have hcz11_0 : w10.cell? ⟨gb126, 0, none⟩ = some (.slice none 0 0) := (blk_cell BK126.out 0).trans rfl; have hcz11_1 : w10.cell? ⟨gb126, 1, none⟩ = some (.slice none 0 0) := (blk_cell BK126.out 1).trans rfl; have hcz11_2 : w10.cell? ⟨gb126, 2, none⟩ = some (.bool false) := (blk_cell BK126.out 2).trans rfl; have hfz11_0 := blk_frozen BK126.out 0; have hfz11_1 := blk_frozen BK126.out 1; have hfz11_2 := blk_frozen BK126.out 2) | ((with_reducible refine gate_store (t := 49) (p := 6) rfl ?_); refine store_event (t := 49) (p := 6) (v := ?vo_w12) (w1 := (((w10.setCell ⟨gb126, 0, none⟩ (.slice A125_0 ((rd_T49 l0 x18_1).f0).length c125_0)).setCell ⟨gb126, 1, none⟩ (.slice A125_1 ((rd_T49 l0 x18_1).f1).length c125_1)).setCell ⟨gb126, 2, none⟩ (.bool ((rd_T49 l0 x18_1).f2)))) ?hg ?ho ?hn ?hr ?_; (case ho => rfl); (case hg => rfl); (case hn => rfl); (case hr => first | (go_simp; done) | (go_simp; rfl)); intro w12 hw; have n0_ : Aside0 (Kd.R (Kd.int .u8) 5 w12 w.heap.size (fun _ => True) u4 x4_1) := ⟨(by rw [hw]; exact (by (with_reducible repeat (first | apply Kd.R_alloc | apply Kd.R_drewN | apply Kd.R_drew)); exact Kd.R_mono (Kd.R_far (p := ⟨gb126, 2, none⟩) (Kd.R_far (p := ⟨gb126, 1, none⟩) (Kd.R_far (p := ⟨gb126, 0, none⟩) (Kd.R_types HO_4.out BK126.out (by decide)) (fun _ hk => hk.2) (.slice A125_0 ((rd_T49 l0 x18_1).f0).length c125_0)) (fun _ hk => hk.2) (.slice A125_1 ((rd_T49 l0 x18_1).f1).length c125_1)) (fun _ hk => hk.2) (.bool ((rd_T49 l0 x18_1).f2))) (fun _ hk => trivial)))⟩; have n1_ : Aside0 (w12.heap[gb126]? = some (.cells #[.slice A125_0 ((rd_T49 l0 x18_1).f0).length c125_0, .slice A125_1 ((rd_T49 l0 x18_1).f1).length c125_1, .bool ((rd_T49 l0 x18_1).f2)] 49 (0, 0))) := ⟨(by rw [hw]; exact (by (with_reducible repeat (first | refine blk_drewN ?_ _ | refine blk_drew ?_ | refine blk_alloc ?_ _)); refine blk_put (cs := #[.slice A125_0 ((rd_T49 l0 x18_1).f0).length c125_0, .slice A125_1 ((rd_T49 l0 x18_1).f1).length c125_1, .bool false]) ?_ 2 _ rfl; (with_reducible repeat (first | refine blk_drewN ?_ _ | refine blk_drew ?_ | refine blk_alloc ?_ _)); refine blk_put (cs := #[.slice A125_0 ((rd_T49 l0 x18_1).f0).length c125_0, .slice none 0 0, .bool false]) ?_ 1 _ rfl; (with_reducible repeat (first | refine blk_drewN ?_ _ | refine blk_drew ?_ | refine blk_alloc ?_ _)); refine blk_put (cs := #[.slice none 0 0, .slice none 0 0, .bool false]) ?_ 0 _ rfl; (with_reducible repeat (first | refine blk_drewN ?_ _ | refine blk_drew ?_ | refine blk_alloc ?_ _)); exact BK126.out))⟩; have n2_ : Aside0 (Below w.heap.size w w12) := ⟨(by rw [hw]; exact (belS HB.out))⟩; clear hw; clear HO_4; clear BK126; clear HB; have HO_4 := n0_; have BK126 := n1_; have HB := n2_; clear n0_ n1_ n2_; have hcz13_0 : w12.cell? ⟨gb126, 0, none⟩ = some (.slice A125_0 ((rd_T49 l0 x18_1).f0).length c125_0) := (blk_cell BK126.out 0).trans rfl; have hcz13_1 : w12.cell? ⟨gb126, 1, none⟩ = some (.slice A125_1 ((rd_T49 l0 x18_1).f1).length c125_1) := (blk_cell BK126.out 1).trans rfl; have hcz13_2 : w12.cell? ⟨gb126, 2, none⟩ = some (.bool ((rd_T49 l0 x18_1).f2)) := (blk_cell BK126.out 2).trans rfl; have hfz13_0 := blk_frozen BK126.out 0; have hfz13_1 := blk_frozen BK126.out 1; have hfz13_2 := blk_frozen BK126.out 2) | ((with_reducible refine gate_callee (f := 43) rfl ?_); refine goesL_ (some 23) rfl rfl Try.func43 (by kernel_rfl) rfl #[.agg #[.slice A125_0 ((rd_T49 l0 x18_1).f0).length c125_0, .slice A125_1 ((rd_T49 l0 x18_1).f1).length c125_1, .bool ((rd_T49 l0 x18_1).f2)]] rfl argN ?_; (with_reducible refine (frame_value.calls _ _ ((rd_T49 l0 x18_1).f0) (fun k_ => k_ < w.heap.size) _ _ ((rd_T49 l0 x18_1).f1) ((rd_T49 l0 x18_1).f2) t127 _ ?side1 ?side2 ?side3 A8.out).mono ?_); (case side1 => repeat (first | exact (Kd.C_below HR125_0.out HB.out) | (with_reducible refine Kd.C_alloc ?_ _) | (with_reducible refine Kd.C_drewN ?_ _) | (with_reducible refine Kd.C_drew ?_))); (case side2 => exact HC125_0.out); (case side3 => exact Kd.V_mk HC125_1.out (Kd.F_below (Kd.C_F (Kd.heap_int .u8) HR125_1.out) (belS HB.out))); rintro e w14 ⟨v128, rfl, ho0, hb⟩; refine ⟨_, rfl, ?_⟩; have n0_ := Aside0.mk (Kd.R_below (rowN HO_4.out) hb); have n1_ := Aside0.mk (Kd.V_lower (Kd.V_mono (ok' := fun k_ => some k_ ≠ (u4 : Value).ownBlock ∧ k_ ≠ gb126) ho0 (fun k_ hk_ => ⟨Or.elim hk_ (fun hs_ => fun e_ => Nat.not_le.2 hs_ (Kd.R_base HO_4.out k_ e_.symm)) (fun hn_ => (Kd.fresh' (Kd.R_lt (rowN HO_4.out)) k_ hn_)), Or.elim hk_ (fun hs_ => fun e_ => Nat.not_le.2 hs_ (by rw [e_]; exact GW126.out)) (fun hn_ => (Kd.freshB (g := gb126) (o := .cells #[.slice A125_0 ((rd_T49 l0 x18_1).f0).length c125_0, .slice A125_1 ((rd_T49 l0 x18_1).f1).length c125_1, .bool ((rd_T49 l0 x18_1).f2)] 49 (0, 0)) (blkN BK126.out) k_ hn_))⟩)) (below_size (belS HB.out))); have n2_ := Aside0.mk (bkB BK126.out hb); have n3_ := Aside0.mk (below_step (belS HB.out) hb); clear HO_4; clear BK126; clear HB; have HO_4 := n0_; have HO129 := n1_; have BK126 := n2_; have HB := n3_; clear n0_ n1_ n2_ n3_; (try clear hb); (try clear hk); (try clear ho0)))
       (try simp only [Act.put, List.setIfInBounds_toArray, List.set_cons_zero, List.set_cons_succ])
       go_cut [38] (fun v38 wc => ∃ (kq : Nat) (x38_8 : Bool), v38 = .bool x38_8 ∧ Aside0 (frame_Batch.j1 kq x4_1 t127 l0 (l0.length : Int) x18_1 x38_8 ((rd_T49 l0 x18_1).f0) ((rd_T49 l0 x18_1).f1) ((rd_T49 l0 x18_1).f2) = some (r1, r2)) ∧ Aside0 (kq ≤ k1) ∧ Aside0 (Kd.R (Kd.int .u8) 5 wc w.heap.size (fun _ => True) u4 x4_1) ∧ Aside0 (Kd.V (Kd.int .u8) 5 wc w.heap.size (fun k_ => some k_ ≠ (u4 : Value).ownBlock ∧ k_ ≠ gb126) v128 t127) ∧ Aside0 (wc.heap[gb126]? = some (.cells #[(.slice A125_0 ((rd_T49 l0 x18_1).f0).length c125_0), (.slice A125_1 ((rd_T49 l0 x18_1).f1).length c125_1), .bool ((rd_T49 l0 x18_1).f2)] 49 (0, 0))) ∧ Aside0 (Below w.heap.size w wc))
       case first =>
        have H := HC9.out
        clear HC9
        by_cases c15 : (((rd_T49 l0 x18_1).f0).length : Int) < 1
        ·rw [if_pos c15] at H
         have c15b0 : decide ((((rd_T49 l0 x18_1).f0).length : Int) < 1) = true := decide_eq_true c15
         have c15b1 : decide (((rd_T49 l0 x18_1).f0).length < 1) = true := decide_eq_true (by omega)
         clear c15
         (first | rw [c15b0] | rw [c15b1] | (simp only [i64_w, i32_w]; rw [c15b0]) | skip)
         have H' := Aside0.mk H
         clear H
         have hcz16_0 : w14.cell? ⟨gb126, 0, none⟩ = some (.slice A125_0 ((rd_T49 l0 x18_1).f0).length c125_0) := (blk_cell BK126.out 0).trans rfl
         have hcz16_1 : w14.cell? ⟨gb126, 1, none⟩ = some (.slice A125_1 ((rd_T49 l0 x18_1).f1).length c125_1) := (blk_cell BK126.out 1).trans rfl
         have hcz16_2 : w14.cell? ⟨gb126, 2, none⟩ = some (.bool ((rd_T49 l0 x18_1).f2)) := (blk_cell BK126.out 2).trans rfl
         have hfz16_0 := blk_frozen BK126.out 0
         have hfz16_1 := blk_frozen BK126.out 1
         have hfz16_2 := blk_frozen BK126.out 2
         go_wp2
         go_meet
         case rel => exact ⟨_, (true), (by first | rfl | (simp; done) | (simp [*]; done)), H', ⟨by have := HK1.out; first | omega | exact Nat.le_refl _⟩, ⟨(rowN HO_4.out)⟩, ⟨by (with_reducible repeat (first | apply Kd.V_alloc | apply Kd.V_drewN | apply Kd.V_drew)); exact HO129.out⟩, ⟨blkN BK126.out⟩, ⟨(belS HB.out)⟩⟩
        ·rw [if_neg c15] at H
         have c15b0 : decide ((((rd_T49 l0 x18_1).f0).length : Int) < 1) = false := decide_eq_false c15
         have c15b1 : decide (((rd_T49 l0 x18_1).f0).length < 1) = false := decide_eq_false (by omega)
         clear c15
         (first | rw [c15b0] | rw [c15b1] | (simp only [i64_w, i32_w]; rw [c15b0]) | skip)
         by_cases c17 : (((rd_T49 l0 x18_1).f0).length : Int) > 255
         ·rw [if_pos c17] at H
          have c17b0 : decide (255 < (((rd_T49 l0 x18_1).f0).length : Int)) = true := decide_eq_true c17
          have c17b1 : decide (255 < ((rd_T49 l0 x18_1).f0).length) = true := decide_eq_true (by omega)
          clear c17
          have H' := Aside0.mk H
          clear H
          have hcz18_0 : w14.cell? ⟨gb126, 0, none⟩ = some (.slice A125_0 ((rd_T49 l0 x18_1).f0).length c125_0) := (blk_cell BK126.out 0).trans rfl
          have hcz18_1 : w14.cell? ⟨gb126, 1, none⟩ = some (.slice A125_1 ((rd_T49 l0 x18_1).f1).length c125_1) := (blk_cell BK126.out 1).trans rfl
          have hcz18_2 : w14.cell? ⟨gb126, 2, none⟩ = some (.bool ((rd_T49 l0 x18_1).f2)) := (blk_cell BK126.out 2).trans rfl
          have hfz18_0 := blk_frozen BK126.out 0
          have hfz18_1 := blk_frozen BK126.out 1
          have hfz18_2 := blk_frozen BK126.out 2
          go_wp2
          go_meet
          case rel => exact ⟨_, (true), (by first | rfl | (simp; done) | (simp [*]; done)), H', ⟨by have := HK1.out; first | omega | exact Nat.le_refl _⟩, ⟨(rowN HO_4.out)⟩, ⟨by (with_reducible repeat (first | apply Kd.V_alloc | apply Kd.V_drewN | apply Kd.V_drew)); exact HO129.out⟩, ⟨blkN BK126.out⟩, ⟨(belS HB.out)⟩⟩
         ·rw [if_neg c17] at H
          have c17b0 : decide (255 < (((rd_T49 l0 x18_1).f0).length : Int)) = false := decide_eq_false c17
          have c17b1 : decide (255 < ((rd_T49 l0 x18_1).f0).length) = false := decide_eq_false (by omega)
          clear c17
          have H' := Aside0.mk H
          clear H
          have hcz19_0 : w14.cell? ⟨gb126, 0, none⟩ = some (.slice A125_0 ((rd_T49 l0 x18_1).f0).length c125_0) := (blk_cell BK126.out 0).trans rfl
          have hcz19_1 : w14.cell? ⟨gb126, 1, none⟩ = some (.slice A125_1 ((rd_T49 l0 x18_1).f1).length c125_1) := (blk_cell BK126.out 1).trans rfl
          have hcz19_2 : w14.cell? ⟨gb126, 2, none⟩ = some (.bool ((rd_T49 l0 x18_1).f2)) := (blk_cell BK126.out 2).trans rfl
          have hfz19_0 := blk_frozen BK126.out 0
          have hfz19_1 := blk_frozen BK126.out 1
          have hfz19_2 := blk_frozen BK126.out 2
          obtain ⟨Ao20, co20, eo20⟩ := Kd.V_slice HO129.out
          subst eo20
          go_wp2
          go_meet
          case rel => exact ⟨_, (decide ((t127.length : Int) > 4095)), (by first | rfl | (simp; done) | (simp [*]; done)), H', ⟨by have := HK1.out; first | omega | exact Nat.le_refl _⟩, ⟨(rowN HO_4.out)⟩, ⟨by (with_reducible repeat (first | apply Kd.V_alloc | apply Kd.V_drewN | apply Kd.V_drew)); exact HO129.out⟩, ⟨blkN BK126.out⟩, ⟨(belS HB.out)⟩⟩
       case rest =>
        clear HC9
        try clear c1
        try clear p1
        try clear q1
        try clear hx1
        try clear c2
        try clear c2b0
        try clear c2b1
        try clear p2
        try clear c3
        try clear c4
        try clear c5
        try clear c5b0
        try clear c6
        try clear c6b0
        try clear c7
        try clear c7b0
        try clear c12
        try clear p12
        try clear q12
        try clear hx12
        try clear c15
        try clear c15b0
        try clear c15b1
        try clear c17
        try clear c17b0
        try clear c17b1
        try clear hcz11_0
        try clear hcz11_1
        try clear hcz11_2
        try clear hcz13_0
        try clear hcz13_1
        try clear hcz13_2
        try clear hcz16_0
        try clear hcz16_1
        try clear hcz16_2
        try clear hcz18_0
        try clear hcz18_1
        try clear hcz18_2
        try clear hcz19_0
        try clear hcz19_1
        try clear hcz19_2
        try clear hfz11_0
        try clear hfz11_1
        try clear hfz11_2
        try clear hfz13_0
        try clear hfz13_1
        try clear hfz13_2
        try clear hfz16_0
        try clear hfz16_1
        try clear hfz16_2
        try clear hfz18_0
        try clear hfz18_1
        try clear hfz18_2
        try clear hfz19_0
        try clear hfz19_1
        try clear hfz19_2
        try clear hx125_0
        try clear hx125_1
        try clear hx125_2
        try clear p125
        try clear p2
        try clear q125
        obtain ⟨kq, x38_8, rfl, HA, HJ8, HO_4, HO_7, BK126, HB⟩ := hcut
        cases kq with
        | zero => exact absurd HA.out (by simp [frame_Batch.j1])
        | succ kj8 =>
         have H := HA.out
         clear HA
         simp only [frame_Batch.j1] at H
         by_cases c21 : x38_8 = true
         ·subst c21
          have H1 : (some (([] : List Int), 3)) = some (r1, r2) := by rw [if_pos rfl] at H; exact H
          clear H
          have H := H1
          clear H1
          simp only [Option.some.injEq, Prod.mk.injEq] at H
          obtain ⟨rfl, rfl⟩ := H
          go_wp2
          go_ret2
          exact ⟨_, by first | rfl | (simp [errW_none, errW_some] <;> rfl) | (simp [*, errW_none, errW_some] <;> rfl), by first | exact Kd.R_nil _ _ _ _ _ | exact Kd.N_nil _ _ _ _ _ | exact Kd.V_nil _ _ _ _ _ | exact Kd.Q_nil _ _ _ _ _ | exact Kd.S_nil _ _ _ _ _, (belS HB.out)⟩
         ·replace c21 := Bool.eq_false_iff.mpr c21
          subst c21
          have H1 : (if ((rd_T49 l0 x18_1).f2) = true then ((some (([0, ((((rd_T49 l0 x18_1).f0).length : Int)) % 256] : List Int) : List Int)).bind fun y130 => (if x4_1.length + y130.length < 140737488355328 then ((some (x4_1 ++ y130 : List Int)).bind fun y133 => (if y133.length + ((rd_T49 l0 x18_1).f0).length < 140737488355328 then (frame_Batch.l0 kj8 (y133 ++ ((rd_T49 l0 x18_1).f0)) l0 (l0.length : Int) (wrap64 (x18_1 + 1))) else (none))) else (none))) else ((some (([1, ((((rd_T49 l0 x18_1).f0).length : Int)) % 256] : List Int) : List Int)).bind fun y139 => (if x4_1.length + y139.length < 140737488355328 then ((some (x4_1 ++ y139 : List Int)).bind fun y142 => (if y142.length + ((rd_T49 l0 x18_1).f0).length < 140737488355328 then ((octet_Put.f kj8 (y142 ++ ((rd_T49 l0 x18_1).f0)) (IntKind.u64.wrap ((t127.length : Int))) 2).bind fun t148 => (if t148.length + t127.length < 140737488355328 then (frame_Batch.l0 kj8 (t148 ++ t127) l0 (l0.length : Int) (wrap64 (x18_1 + 1))) else (none))) else (none))) else (none)))) = some (r1, r2) := by rw [if_neg (show ¬ (false = true) by decide)] at H; exact H
          clear H
          have H := H1
          clear H1
          by_cases c22 : ((rd_T49 l0 x18_1).f2) = true
          ·rw [if_pos c22] at H
           have c22b0 : ((rd_T49 l0 x18_1).f2) = true := c22
           clear c22
           obtain ⟨y130, hy130⟩ : ∃ y_ : List Int, y_ = (([0, ((((rd_T49 l0 x18_1).f0).length : Int)) % 256] : List Int)) := ⟨_, rfl⟩
           replace H : (if x4_1.length + y130.length < 140737488355328 then ((some (x4_1 ++ y130 : List Int)).bind fun y133 => (if y133.length + ((rd_T49 l0 x18_1).f0).length < 140737488355328 then (frame_Batch.l0 kj8 (y133 ++ ((rd_T49 l0 x18_1).f0)) l0 (l0.length : Int) (wrap64 (x18_1 + 1))) else (none))) else (none)) = some (r1, r2) := by first | (rw [hy130]; with_reducible exact H) | (have H2_ := (Option.bind_some _ _).symm.trans H; rw [hy130]; with_reducible exact H2_) | (have H2_ := (Option.bind_some _ _).symm.trans H; with_reducible exact H2_) | with_reducible exact H | (rw [hy130]; exact H) | exact H
           have Ny130 := Aside0.mk hy130
           clear hy130
           by_cases c23 : x4_1.length + y130.length < 140737488355328
           ·rw [if_pos c23] at H
            have LMc23 := Aside0.mk c23
            clear c23
            obtain ⟨y133, hy133⟩ : ∃ y_ : List Int, y_ = (x4_1 ++ y130) := ⟨_, rfl⟩
            replace H : (if y133.length + ((rd_T49 l0 x18_1).f0).length < 140737488355328 then (frame_Batch.l0 kj8 (y133 ++ ((rd_T49 l0 x18_1).f0)) l0 (l0.length : Int) (wrap64 (x18_1 + 1))) else (none)) = some (r1, r2) := by first | (rw [hy133]; with_reducible exact H) | (have H2_ := (Option.bind_some _ _).symm.trans H; rw [hy133]; with_reducible exact H2_) | (have H2_ := (Option.bind_some _ _).symm.trans H; with_reducible exact H2_) | with_reducible exact H | (rw [hy133]; exact H) | exact H
            have Ny133 := Aside0.mk hy133
            clear hy133
            by_cases c24 : y133.length + ((rd_T49 l0 x18_1).f0).length < 140737488355328
            ·rw [if_pos c24] at H
             have LMc24 := Aside0.mk c24
             clear c24
             obtain ⟨y136, hy136⟩ : ∃ y_ : List Int, y_ = (y133 ++ ((rd_T49 l0 x18_1).f0)) := ⟨_, rfl⟩
             replace H : (frame_Batch.l0 kj8 y136 l0 (l0.length : Int) (wrap64 (x18_1 + 1))) = some (r1, r2) := by first | (rw [hy136]; with_reducible exact H) | (have H2_ := (Option.bind_some _ _).symm.trans H; rw [hy136]; with_reducible exact H2_) | (have H2_ := (Option.bind_some _ _).symm.trans H; with_reducible exact H2_) | with_reducible exact H | (rw [hy136]; exact H) | exact H
             have Ny136 := Aside0.mk hy136
             clear hy136
             have H' := Aside0.mk H
             clear H
             have hcz25_0 : wc.cell? ⟨gb126, 0, none⟩ = some (.slice A125_0 ((rd_T49 l0 x18_1).f0).length c125_0) := (blk_cell BK126.out 0).trans rfl
             have hcz25_1 : wc.cell? ⟨gb126, 1, none⟩ = some (.slice A125_1 ((rd_T49 l0 x18_1).f1).length c125_1) := (blk_cell BK126.out 1).trans rfl
             have hcz25_2 : wc.cell? ⟨gb126, 2, none⟩ = some (.bool ((rd_T49 l0 x18_1).f2)) := (blk_cell BK126.out 2).trans rfl
             have hfz25_0 := blk_frozen BK126.out 0
             have hfz25_1 := blk_frozen BK126.out 1
             have hfz25_2 := blk_frozen BK126.out 2
             go_wp2_with (first | ((with_reducible refine gate_dst (N := 47) rfl ?_); (try (refine gate_guard (by rfl) ?_; dsimp only)); refine Kd.R_lit (Kd.int .u8) _ 5 ?hg (N := 47) ?hd (xs := ([0, ((((rd_T49 l0 x18_1).f0).length : Int)) % 256] : List Int)) (inner := [.int .u8 0, .int .u8 (((((rd_T49 l0 x18_1).f0).length : Int)) % 256)]) (ok := fun _ => True) (okp := fun _ => True) ?hr ?hp (fun _ hk => hk) trivial (Below.refl _ _) (Nat.le_refl _) (by simp) ?_; (case hd => rfl); (case hg => rfl); (case hr => first | (go_simp; done) | (go_simp; rfl)); (case hp => exact (Reps.one (show Kd.M (Kd.int .u8) _ _ _ 0 [.int .u8 0] from rfl) (Reps.one (show Kd.M (Kd.int .u8) _ _ _ (((((rd_T49 l0 x18_1).f0).length : Int)) % 256) [.int .u8 (((((rd_T49 l0 x18_1).f0).length : Int)) % 256)] from rfl) (Reps.none _ _)))); intro v131 w26 ho27 hb hg_ hnew_; clear hg_ hnew_; (first | rw [← Ny130.out] at ho27 | (simp only [Int.reduceToNat] at ho27; rw [← Ny130.out] at ho27)); have n0_ := Aside0.mk (Kd.R_elder' (rowN HO_4.out) (Kd.R_base ho27) hb); have n1_ := Aside0.mk (Kd.V_elder' (by (with_reducible repeat (first | apply Kd.V_alloc | apply Kd.V_drewN | apply Kd.V_drew)); exact HO_7.out) (Kd.R_base ho27) hb); have n2_ := Aside0.mk (Kd.R_lower (Kd.R_new' ho27 (Kd.R_lt (rowN HO_4.out))) (below_size (belS HB.out))); have n3_ := Aside0.mk (bkB BK126.out hb); have n4_ := Aside0.mk (below_step (belS HB.out) hb); clear HO_4; clear HO_7; clear BK126; clear HB; have HO_4 := n0_; have HO_7 := n1_; have HO132 := n2_; have BK126 := n3_; have HB := n4_; clear n0_ n1_ n2_ n3_ n4_; clear hb ho27; obtain ⟨Ao29, co29, eo29⟩ := Kd.R_slice HO132.out; subst eo29) | ((with_reducible refine gate_builtin (b := .append) (xs := #[.tmp 41, .tmp 47]) rfl ?_); (try (refine gate_guard (by rfl) ?_; dsimp only)); at_builtin; refine Kd.R_append_rows (Kd.int .u8) (w0 := w) w.heap.size rfl (.tmp 41) (.tmp 47) 23 5 (.int .u8 0) 1 rfl Try.underlying23 info5 rfl (by decide) (by omega) u4 x4_1 y130 _ _ _ (fun k_ => some k_ ≠ (.slice Ao29 y130.length co29 : Value).ownBlock) (fun _ => False) rfl rfl ?aO ?aR (fun _ _ h => h) (fun _ h => h.elim) ?aF ?aB ?aS ?aL ?_; (case aR => repeat (first | exact (Kd.R_reads' HO132.out).2.2 | (with_reducible refine Kd.C_alloc ?_ _) | (with_reducible refine Kd.C_drewN ?_ _) | (with_reducible refine Kd.C_drew ?_))); (case aB => exact (belS HB.out)); (case aF => exact (fun k_ hk => Kd.fresh' (Kd.R_lt (rowN HO132.out)) k_ hk)); (case aO => exact (by (with_reducible repeat (first | apply Kd.R_alloc | apply Kd.R_drewN | apply Kd.R_drew)); exact Kd.R_mono HO_4.out (fun _ hk => hk.2))); (case aS => exact (below_size (belS HB.out))); (case aL => have := LMc23.out; omega); intro v134 w28 ho hb hg hat; rw [← Ny133.out] at ho; have n0_ := Aside0.mk (Kd.V_afterv (ok := (fun k_ => some k_ ≠ (.slice Ao29 y130.length co29 : Value).ownBlock ∧ k_ ≠ gb126)) (by (with_reducible repeat (first | apply Kd.V_alloc | apply Kd.V_drewN | apply Kd.V_drew)); exact Kd.V_mono HO_7.out (fun _ hk => ⟨⟨hk.2, hk.1.2⟩, hk.1.1⟩)) hg hat); have n1_ := Aside0.mk (blk_grown (g := gb126) (o := .cells #[.slice A125_0 ((rd_T49 l0 x18_1).f0).length c125_0, .slice A125_1 ((rd_T49 l0 x18_1).f1).length c125_1, .bool ((rd_T49 l0 x18_1).f2)] 49 (0, 0)) (blkN BK126.out) hg (Kd.R_ne HO_4.out BK126.out (by decide))); have n2_ := Aside0.mk (Kd.R_after (ok := (fun _ => True)) (rowN HO132.out) hg hat); have n3_ := Aside0.mk (hb); have n4_ := Aside0.mk (ho); clear HO_7; clear BK126; clear HO132; clear HB; clear HO_4; have HO_7 := n0_; have BK126 := n1_; have HO132 := n2_; have HB := n3_; have HO135 := n4_; clear n0_ n1_ n2_ n3_ n4_; clear ho hb hg hat; have hcz30_0 : w28.cell? ⟨gb126, 0, none⟩ = some (.slice A125_0 ((rd_T49 l0 x18_1).f0).length c125_0) := (blk_cell BK126.out 0).trans rfl; have hcz30_1 : w28.cell? ⟨gb126, 1, none⟩ = some (.slice A125_1 ((rd_T49 l0 x18_1).f1).length c125_1) := (blk_cell BK126.out 1).trans rfl; have hcz30_2 : w28.cell? ⟨gb126, 2, none⟩ = some (.bool ((rd_T49 l0 x18_1).f2)) := (blk_cell BK126.out 2).trans rfl; have hfz30_0 := blk_frozen BK126.out 0; have hfz30_1 := blk_frozen BK126.out 1; have hfz30_2 := blk_frozen BK126.out 2) | ((with_reducible refine gate_builtin (b := .append) (xs := #[.tmp 49, .tmp 51]) rfl ?_); (try (refine gate_guard (by rfl) ?_; dsimp only)); at_builtin; refine Kd.R_append_rows (Kd.int .u8) (w0 := w) w.heap.size rfl (.tmp 49) (.tmp 51) 23 5 (.int .u8 0) 1 rfl Try.underlying23 info5 rfl (by decide) (by omega) v134 y133 ((rd_T49 l0 x18_1).f0) _ _ _ (fun k_ => some k_ ≠ (.slice Ao29 y130.length co29 : Value).ownBlock) (fun _ => False) rfl rfl ?aO ?aR (fun _ _ h => h) (fun _ h => h.elim) ?aF ?aB ?aS ?aL ?_; (case aR => repeat (first | exact (Kd.C_below HR125_0.out HB.out) | (with_reducible refine Kd.C_alloc ?_ _) | (with_reducible refine Kd.C_drewN ?_ _) | (with_reducible refine Kd.C_drew ?_))); (case aB => exact (belS HB.out)); (case aF => exact (fun k_ hk => Kd.fresh' (Kd.R_lt (rowN HO132.out)) k_ hk)); (case aO => exact (rowN HO135.out)); (case aS => exact (below_size (belS HB.out))); (case aL => have := LMc24.out; omega); intro v137 w31 ho hb hg hat; rw [← Ny136.out] at ho; have n0_ := Aside0.mk (Kd.V_afterv (ok := (fun k_ => some k_ ≠ (.slice Ao29 y130.length co29 : Value).ownBlock ∧ k_ ≠ gb126)) (by (with_reducible repeat (first | apply Kd.V_alloc | apply Kd.V_drewN | apply Kd.V_drew)); exact HO_7.out) hg hat); have n1_ := Aside0.mk (blk_grown (g := gb126) (o := .cells #[.slice A125_0 ((rd_T49 l0 x18_1).f0).length c125_0, .slice A125_1 ((rd_T49 l0 x18_1).f1).length c125_1, .bool ((rd_T49 l0 x18_1).f2)] 49 (0, 0)) (blkN BK126.out) hg (Kd.R_ne HO135.out BK126.out (by decide))); have n2_ := Aside0.mk (Kd.R_after (ok := (fun _ => True)) (rowN HO132.out) hg hat); have n3_ := Aside0.mk (hb); have n4_ := Aside0.mk (ho); clear HO_7; clear BK126; clear HO132; clear HB; clear HO135; have HO_7 := n0_; have BK126 := n1_; have HO132 := n2_; have HB := n3_; have HO138 := n4_; clear n0_ n1_ n2_ n3_ n4_; clear ho hb hg hat; have hcz32_0 : w31.cell? ⟨gb126, 0, none⟩ = some (.slice A125_0 ((rd_T49 l0 x18_1).f0).length c125_0) := (blk_cell BK126.out 0).trans rfl; have hcz32_1 : w31.cell? ⟨gb126, 1, none⟩ = some (.slice A125_1 ((rd_T49 l0 x18_1).f1).length c125_1) := (blk_cell BK126.out 1).trans rfl; have hcz32_2 : w31.cell? ⟨gb126, 2, none⟩ = some (.bool ((rd_T49 l0 x18_1).f2)) := (blk_cell BK126.out 2).trans rfl; have hfz32_0 := blk_frozen BK126.out 0; have hfz32_1 := blk_frozen BK126.out 1; have hfz32_2 := blk_frozen BK126.out 2))
             go_roundg kj8
             case measure => have := HK1.out; have := HJ8.out; omega
             case rel => exact ⟨(y136), (wrap64 (x18_1 + 1)), (by first | rfl | (simp; done) | (simp [*]; done)), H', ⟨by have := HK1.out; have := HJ8.out; omega⟩, ⟨by (with_reducible repeat (first | apply Kd.R_alloc | apply Kd.R_drewN | apply Kd.R_drew)); exact Kd.R_mono HO138.out (fun _ hk => trivial)⟩, ⟨(belS HB.out)⟩⟩
            ·rw [if_neg c24] at H
             exact absurd H (by simp)
           ·rw [if_neg c23] at H
            exact absurd H (by simp)
          ·rw [if_neg c22] at H
           have c22b0 : ((rd_T49 l0 x18_1).f2) = false := by simpa using c22
           clear c22
           obtain ⟨y139, hy139⟩ : ∃ y_ : List Int, y_ = (([1, ((((rd_T49 l0 x18_1).f0).length : Int)) % 256] : List Int)) := ⟨_, rfl⟩
           replace H : (if x4_1.length + y139.length < 140737488355328 then ((some (x4_1 ++ y139 : List Int)).bind fun y142 => (if y142.length + ((rd_T49 l0 x18_1).f0).length < 140737488355328 then ((octet_Put.f kj8 (y142 ++ ((rd_T49 l0 x18_1).f0)) (IntKind.u64.wrap ((t127.length : Int))) 2).bind fun t148 => (if t148.length + t127.length < 140737488355328 then (frame_Batch.l0 kj8 (t148 ++ t127) l0 (l0.length : Int) (wrap64 (x18_1 + 1))) else (none))) else (none))) else (none)) = some (r1, r2) := by first | (rw [hy139]; with_reducible exact H) | (have H2_ := (Option.bind_some _ _).symm.trans H; rw [hy139]; with_reducible exact H2_) | (have H2_ := (Option.bind_some _ _).symm.trans H; with_reducible exact H2_) | with_reducible exact H | (rw [hy139]; exact H) | exact H
           have Ny139 := Aside0.mk hy139
           clear hy139
           by_cases c33 : x4_1.length + y139.length < 140737488355328
           ·rw [if_pos c33] at H
            have LMc33 := Aside0.mk c33
            clear c33
            obtain ⟨y142, hy142⟩ : ∃ y_ : List Int, y_ = (x4_1 ++ y139) := ⟨_, rfl⟩
            replace H : (if y142.length + ((rd_T49 l0 x18_1).f0).length < 140737488355328 then ((octet_Put.f kj8 (y142 ++ ((rd_T49 l0 x18_1).f0)) (IntKind.u64.wrap ((t127.length : Int))) 2).bind fun t148 => (if t148.length + t127.length < 140737488355328 then (frame_Batch.l0 kj8 (t148 ++ t127) l0 (l0.length : Int) (wrap64 (x18_1 + 1))) else (none))) else (none)) = some (r1, r2) := by first | (rw [hy142]; with_reducible exact H) | (have H2_ := (Option.bind_some _ _).symm.trans H; rw [hy142]; with_reducible exact H2_) | (have H2_ := (Option.bind_some _ _).symm.trans H; with_reducible exact H2_) | with_reducible exact H | (rw [hy142]; exact H) | exact H
            have Ny142 := Aside0.mk hy142
            clear hy142
            by_cases c34 : y142.length + ((rd_T49 l0 x18_1).f0).length < 140737488355328
            ·rw [if_pos c34] at H
             have LMc34 := Aside0.mk c34
             clear c34
             obtain ⟨y145, hy145⟩ : ∃ y_ : List Int, y_ = (y142 ++ ((rd_T49 l0 x18_1).f0)) := ⟨_, rfl⟩
             replace H : ((octet_Put.f kj8 y145 (IntKind.u64.wrap ((t127.length : Int))) 2).bind fun t148 => (if t148.length + t127.length < 140737488355328 then (frame_Batch.l0 kj8 (t148 ++ t127) l0 (l0.length : Int) (wrap64 (x18_1 + 1))) else (none))) = some (r1, r2) := by first | (rw [hy145]; with_reducible exact H) | (have H2_ := (Option.bind_some _ _).symm.trans H; rw [hy145]; with_reducible exact H2_) | (have H2_ := (Option.bind_some _ _).symm.trans H; with_reducible exact H2_) | with_reducible exact H | (rw [hy145]; exact H) | exact H
             have Ny145 := Aside0.mk hy145
             clear hy145
             replace H := Option.bind_eq_some_iff.mp H
             obtain ⟨t148, A350, H⟩ := H
             replace H : (if t148.length + t127.length < 140737488355328 then (frame_Batch.l0 kj8 (t148 ++ t127) l0 (l0.length : Int) (wrap64 (x18_1 + 1))) else (none)) = some (r1, r2) := H
             have A35 := Aside0.mk A350
             clear A350
             by_cases c36 : t148.length + t127.length < 140737488355328
             ·rw [if_pos c36] at H
              have LMc36 := Aside0.mk c36
              clear c36
              obtain ⟨y151, hy151⟩ : ∃ y_ : List Int, y_ = (t148 ++ t127) := ⟨_, rfl⟩
              replace H : (frame_Batch.l0 kj8 y151 l0 (l0.length : Int) (wrap64 (x18_1 + 1))) = some (r1, r2) := by first | (rw [hy151]; with_reducible exact H) | (have H2_ := (Option.bind_some _ _).symm.trans H; rw [hy151]; with_reducible exact H2_) | (have H2_ := (Option.bind_some _ _).symm.trans H; with_reducible exact H2_) | with_reducible exact H | (rw [hy151]; exact H) | exact H
              have Ny151 := Aside0.mk hy151
              clear hy151
              have H' := Aside0.mk H
              clear H
              have hcz37_0 : wc.cell? ⟨gb126, 0, none⟩ = some (.slice A125_0 ((rd_T49 l0 x18_1).f0).length c125_0) := (blk_cell BK126.out 0).trans rfl
              have hcz37_1 : wc.cell? ⟨gb126, 1, none⟩ = some (.slice A125_1 ((rd_T49 l0 x18_1).f1).length c125_1) := (blk_cell BK126.out 1).trans rfl
              have hcz37_2 : wc.cell? ⟨gb126, 2, none⟩ = some (.bool ((rd_T49 l0 x18_1).f2)) := (blk_cell BK126.out 2).trans rfl
              have hfz37_0 := blk_frozen BK126.out 0
              have hfz37_1 := blk_frozen BK126.out 1
              have hfz37_2 := blk_frozen BK126.out 2
              go_wp2_with (first | ((with_reducible refine gate_dst (N := 47) rfl ?_); (try (refine gate_guard (by rfl) ?_; dsimp only)); refine Kd.R_lit (Kd.int .u8) _ 5 ?hg (N := 47) ?hd (xs := ([1, ((((rd_T49 l0 x18_1).f0).length : Int)) % 256] : List Int)) (inner := [.int .u8 1, .int .u8 (((((rd_T49 l0 x18_1).f0).length : Int)) % 256)]) (ok := fun _ => True) (okp := fun _ => True) ?hr ?hp (fun _ hk => hk) trivial (Below.refl _ _) (Nat.le_refl _) (by simp) ?_; (case hd => rfl); (case hg => rfl); (case hr => first | (go_simp; done) | (go_simp; rfl)); (case hp => exact (Reps.one (show Kd.M (Kd.int .u8) _ _ _ 1 [.int .u8 1] from rfl) (Reps.one (show Kd.M (Kd.int .u8) _ _ _ (((((rd_T49 l0 x18_1).f0).length : Int)) % 256) [.int .u8 (((((rd_T49 l0 x18_1).f0).length : Int)) % 256)] from rfl) (Reps.none _ _)))); intro v140 w38 ho39 hb hg_ hnew_; clear hg_ hnew_; (first | rw [← Ny139.out] at ho39 | (simp only [Int.reduceToNat] at ho39; rw [← Ny139.out] at ho39)); have n0_ := Aside0.mk (Kd.R_elder' (rowN HO_4.out) (Kd.R_base ho39) hb); have n1_ := Aside0.mk (Kd.V_elder' (by (with_reducible repeat (first | apply Kd.V_alloc | apply Kd.V_drewN | apply Kd.V_drew)); exact HO_7.out) (Kd.R_base ho39) hb); have n2_ := Aside0.mk (Kd.R_lower (Kd.R_new' ho39 (Kd.R_lt (rowN HO_4.out))) (below_size (belS HB.out))); have n3_ := Aside0.mk (bkB BK126.out hb); have n4_ := Aside0.mk (below_step (belS HB.out) hb); clear HO_4; clear HO_7; clear BK126; clear HB; have HO_4 := n0_; have HO_7 := n1_; have HO141 := n2_; have BK126 := n3_; have HB := n4_; clear n0_ n1_ n2_ n3_ n4_; clear hb ho39; obtain ⟨Ao41, co41, eo41⟩ := Kd.R_slice HO141.out; subst eo41) | ((with_reducible refine gate_builtin (b := .append) (xs := #[.tmp 41, .tmp 47]) rfl ?_); (try (refine gate_guard (by rfl) ?_; dsimp only)); at_builtin; refine Kd.R_append_rows (Kd.int .u8) (w0 := w) w.heap.size rfl (.tmp 41) (.tmp 47) 23 5 (.int .u8 0) 1 rfl Try.underlying23 info5 rfl (by decide) (by omega) u4 x4_1 y139 _ _ _ (fun k_ => some k_ ≠ (.slice Ao41 y139.length co41 : Value).ownBlock) (fun _ => False) rfl rfl ?aO ?aR (fun _ _ h => h) (fun _ h => h.elim) ?aF ?aB ?aS ?aL ?_; (case aR => repeat (first | exact (Kd.R_reads' HO141.out).2.2 | (with_reducible refine Kd.C_alloc ?_ _) | (with_reducible refine Kd.C_drewN ?_ _) | (with_reducible refine Kd.C_drew ?_))); (case aB => exact (belS HB.out)); (case aF => exact (fun k_ hk => Kd.fresh' (Kd.R_lt (rowN HO141.out)) k_ hk)); (case aO => exact (by (with_reducible repeat (first | apply Kd.R_alloc | apply Kd.R_drewN | apply Kd.R_drew)); exact Kd.R_mono HO_4.out (fun _ hk => hk.2))); (case aS => exact (below_size (belS HB.out))); (case aL => have := LMc33.out; omega); intro v143 w40 ho hb hg hat; rw [← Ny142.out] at ho; have n0_ := Aside0.mk (Kd.V_afterv (ok := (fun k_ => some k_ ≠ (.slice Ao41 y139.length co41 : Value).ownBlock ∧ k_ ≠ gb126)) (by (with_reducible repeat (first | apply Kd.V_alloc | apply Kd.V_drewN | apply Kd.V_drew)); exact Kd.V_mono HO_7.out (fun _ hk => ⟨⟨hk.2, hk.1.2⟩, hk.1.1⟩)) hg hat); have n1_ := Aside0.mk (blk_grown (g := gb126) (o := .cells #[.slice A125_0 ((rd_T49 l0 x18_1).f0).length c125_0, .slice A125_1 ((rd_T49 l0 x18_1).f1).length c125_1, .bool ((rd_T49 l0 x18_1).f2)] 49 (0, 0)) (blkN BK126.out) hg (Kd.R_ne HO_4.out BK126.out (by decide))); have n2_ := Aside0.mk (Kd.R_after (ok := (fun _ => True)) (rowN HO141.out) hg hat); have n3_ := Aside0.mk (hb); have n4_ := Aside0.mk (ho); clear HO_7; clear BK126; clear HO141; clear HB; clear HO_4; have HO_7 := n0_; have BK126 := n1_; have HO141 := n2_; have HB := n3_; have HO144 := n4_; clear n0_ n1_ n2_ n3_ n4_; clear ho hb hg hat; have hcz42_0 : w40.cell? ⟨gb126, 0, none⟩ = some (.slice A125_0 ((rd_T49 l0 x18_1).f0).length c125_0) := (blk_cell BK126.out 0).trans rfl; have hcz42_1 : w40.cell? ⟨gb126, 1, none⟩ = some (.slice A125_1 ((rd_T49 l0 x18_1).f1).length c125_1) := (blk_cell BK126.out 1).trans rfl; have hcz42_2 : w40.cell? ⟨gb126, 2, none⟩ = some (.bool ((rd_T49 l0 x18_1).f2)) := (blk_cell BK126.out 2).trans rfl; have hfz42_0 := blk_frozen BK126.out 0; have hfz42_1 := blk_frozen BK126.out 1; have hfz42_2 := blk_frozen BK126.out 2) | ((with_reducible refine gate_builtin (b := .append) (xs := #[.tmp 49, .tmp 51]) rfl ?_); (try (refine gate_guard (by rfl) ?_; dsimp only)); at_builtin; refine Kd.R_append_rows (Kd.int .u8) (w0 := w) w.heap.size rfl (.tmp 49) (.tmp 51) 23 5 (.int .u8 0) 1 rfl Try.underlying23 info5 rfl (by decide) (by omega) v143 y142 ((rd_T49 l0 x18_1).f0) _ _ _ (fun k_ => some k_ ≠ (.slice Ao41 y139.length co41 : Value).ownBlock) (fun _ => False) rfl rfl ?aO ?aR (fun _ _ h => h) (fun _ h => h.elim) ?aF ?aB ?aS ?aL ?_; (case aR => repeat (first | exact (Kd.C_below HR125_0.out HB.out) | (with_reducible refine Kd.C_alloc ?_ _) | (with_reducible refine Kd.C_drewN ?_ _) | (with_reducible refine Kd.C_drew ?_))); (case aB => exact (belS HB.out)); (case aF => exact (fun k_ hk => Kd.fresh' (Kd.R_lt (rowN HO141.out)) k_ hk)); (case aO => exact (rowN HO144.out)); (case aS => exact (below_size (belS HB.out))); (case aL => have := LMc34.out; omega); intro v146 w43 ho hb hg hat; rw [← Ny145.out] at ho; have n0_ := Aside0.mk (Kd.V_afterv (ok := (fun k_ => some k_ ≠ (.slice Ao41 y139.length co41 : Value).ownBlock ∧ k_ ≠ gb126)) (by (with_reducible repeat (first | apply Kd.V_alloc | apply Kd.V_drewN | apply Kd.V_drew)); exact HO_7.out) hg hat); have n1_ := Aside0.mk (blk_grown (g := gb126) (o := .cells #[.slice A125_0 ((rd_T49 l0 x18_1).f0).length c125_0, .slice A125_1 ((rd_T49 l0 x18_1).f1).length c125_1, .bool ((rd_T49 l0 x18_1).f2)] 49 (0, 0)) (blkN BK126.out) hg (Kd.R_ne HO144.out BK126.out (by decide))); have n2_ := Aside0.mk (Kd.R_after (ok := (fun _ => True)) (rowN HO141.out) hg hat); have n3_ := Aside0.mk (hb); have n4_ := Aside0.mk (ho); clear HO_7; clear BK126; clear HO141; clear HB; clear HO144; have HO_7 := n0_; have BK126 := n1_; have HO141 := n2_; have HB := n3_; have HO147 := n4_; clear n0_ n1_ n2_ n3_ n4_; clear ho hb hg hat; have hcz44_0 : w43.cell? ⟨gb126, 0, none⟩ = some (.slice A125_0 ((rd_T49 l0 x18_1).f0).length c125_0) := (blk_cell BK126.out 0).trans rfl; have hcz44_1 : w43.cell? ⟨gb126, 1, none⟩ = some (.slice A125_1 ((rd_T49 l0 x18_1).f1).length c125_1) := (blk_cell BK126.out 1).trans rfl; have hcz44_2 : w43.cell? ⟨gb126, 2, none⟩ = some (.bool ((rd_T49 l0 x18_1).f2)) := (blk_cell BK126.out 2).trans rfl; have hfz44_0 := blk_frozen BK126.out 0; have hfz44_1 := blk_frozen BK126.out 1; have hfz44_2 := blk_frozen BK126.out 2; obtain ⟨Ao45, co45, eo45⟩ := Kd.V_slice HO_7.out; subst eo45; obtain ⟨Ao46, co46, eo46⟩ := Kd.R_slice HO147.out; subst eo46) | ((with_reducible refine gate_callee (f := 39) rfl ?_); refine goesL_ (some 60) rfl rfl Try.func39 (by kernel_rfl) rfl #[.slice Ao46 y145.length co46, .int .u64 (IntKind.u64.wrap ((t127.length : Int))), .int .i64 2] rfl argN ?_; (with_reducible refine (octet_Put.calls kj8 _ _ y145 (IntKind.u64.wrap ((t127.length : Int))) 2 t148 _ ?side1 ?side2 A35.out).mono ?_); (case side1 => repeat (first | exact (Kd.R_reads' HO147.out).2.2 | (with_reducible refine Kd.C_alloc ?_ _) | (with_reducible refine Kd.C_drewN ?_ _) | (with_reducible refine Kd.C_drew ?_))); (case side2 => exact (Kd.R_reads' HO147.out).2.1); rintro e w47 ⟨v149, rfl, ho0, hb⟩; refine ⟨_, rfl, ?_⟩; have n0_ := Aside0.mk (Kd.V_elder' (by (with_reducible repeat (first | apply Kd.V_alloc | apply Kd.V_drewN | apply Kd.V_drew)); exact HO_7.out) (Kd.R_base ho0) hb); have n1_ := Aside0.mk (Kd.R_elder' (rowN HO141.out) (Kd.R_base ho0) hb); have n2_ := Aside0.mk (Kd.R_elder' (rowN HO147.out) (Kd.R_base ho0) hb); have n3_ := Aside0.mk (Kd.R_lower (Kd.R_new' (Kd.R_new' ho0 (Kd.R_lt (rowN HO141.out))) (Kd.R_lt (rowN HO147.out))) (below_size (belS HB.out))); have n4_ := Aside0.mk (bkB BK126.out hb); have n5_ := Aside0.mk (below_step (belS HB.out) hb); clear HO_7; clear HO141; clear HO147; clear BK126; clear HB; have HO_7 := n0_; have HO141 := n1_; have HO147 := n2_; have HO150 := n3_; have BK126 := n4_; have HB := n5_; clear n0_ n1_ n2_ n3_ n4_ n5_; (try clear hb); (try clear hk); (try clear ho0)) | ((with_reducible refine gate_builtin (b := .append) (xs := #[.tmp 60, .tmp 61]) rfl ?_); (try (refine gate_guard (by rfl) ?_; dsimp only)); at_builtin; refine Kd.R_append_rows (Kd.int .u8) (w0 := w) w.heap.size rfl (.tmp 60) (.tmp 61) 23 5 (.int .u8 0) 1 rfl Try.underlying23 info5 rfl (by decide) (by omega) v149 t148 t127 _ _ _ (fun k_ => some k_ ≠ (.slice Ao41 y139.length co41 : Value).ownBlock ∧ some k_ ≠ (.slice Ao46 y145.length co46 : Value).ownBlock) (fun _ => False) rfl rfl ?aO ?aR (fun _ _ h => h) (fun _ h => h.elim) ?aF ?aB ?aS ?aL ?_; (case aR => repeat (first | exact (Kd.V_reads' HO_7.out).2.2 | (with_reducible refine Kd.C_alloc ?_ _) | (with_reducible refine Kd.C_drewN ?_ _) | (with_reducible refine Kd.C_drew ?_))); (case aB => exact (belS HB.out)); (case aF => exact (fun k_ hk => ⟨Kd.fresh' (Kd.R_lt (rowN HO141.out)) k_ hk, Kd.fresh' (Kd.R_lt (rowN HO147.out)) k_ hk⟩)); (case aO => exact (by (with_reducible repeat (first | apply Kd.R_alloc | apply Kd.R_drewN | apply Kd.R_drew)); exact Kd.R_mono HO150.out (fun _ hk => ⟨hk.1.2, hk.2⟩))); (case aS => exact (below_size (belS HB.out))); (case aL => have := LMc36.out; omega); intro v152 w48 ho hb hg hat; rw [← Ny151.out] at ho; have n0_ := Aside0.mk (Kd.V_afterv (ok := (fun k_ => some k_ ≠ (.slice Ao41 y139.length co41 : Value).ownBlock ∧ some k_ ≠ (.slice Ao46 y145.length co46 : Value).ownBlock ∧ k_ ≠ gb126)) (by (with_reducible repeat (first | apply Kd.V_alloc | apply Kd.V_drewN | apply Kd.V_drew)); exact Kd.V_mono HO_7.out (fun _ hk => ⟨⟨hk.1.1.1, ⟨hk.1.2, hk.1.1.2⟩⟩, hk.2⟩)) hg hat); have n1_ := Aside0.mk (blk_grown (g := gb126) (o := .cells #[.slice A125_0 ((rd_T49 l0 x18_1).f0).length c125_0, .slice A125_1 ((rd_T49 l0 x18_1).f1).length c125_1, .bool ((rd_T49 l0 x18_1).f2)] 49 (0, 0)) (blkN BK126.out) hg (Kd.R_ne HO150.out BK126.out (by decide))); have n2_ := Aside0.mk (Kd.R_after (ok := (fun k_ => some k_ ≠ (.slice Ao46 y145.length co46 : Value).ownBlock)) (by (with_reducible repeat (first | apply Kd.R_alloc | apply Kd.R_drewN | apply Kd.R_drew)); exact Kd.R_mono HO141.out (fun _ hk => ⟨hk.1.2, hk.2⟩)) hg hat); have n3_ := Aside0.mk (Kd.R_after (ok := (fun k_ => some k_ ≠ (.slice Ao41 y139.length co41 : Value).ownBlock)) (rowN HO147.out) hg hat); have n4_ := Aside0.mk (hb); have n5_ := Aside0.mk (ho); clear HO_7; clear BK126; clear HO141; clear HO147; clear HB; clear HO150; have HO_7 := n0_; have BK126 := n1_; have HO141 := n2_; have HO147 := n3_; have HB := n4_; have HO153 := n5_; clear n0_ n1_ n2_ n3_ n4_ n5_; clear ho hb hg hat))
              go_roundg kj8
              case measure => have := HK1.out; have := HJ8.out; omega
              case rel => exact ⟨(y151), (wrap64 (x18_1 + 1)), (by first | rfl | (simp; done) | (simp [*]; done)), H', ⟨by have := HK1.out; have := HJ8.out; omega⟩, ⟨by (with_reducible repeat (first | apply Kd.R_alloc | apply Kd.R_drewN | apply Kd.R_drew)); exact Kd.R_mono HO153.out (fun _ hk => trivial)⟩, ⟨(belS HB.out)⟩⟩
             ·rw [if_neg c36] at H
              exact absurd H (by simp)
            ·rw [if_neg c34] at H
             exact absurd H (by simp)
           ·rw [if_neg c33] at H
            exact absurd H (by simp)
      ·rw [if_neg c7] at H
       exact absurd H (by simp)
     ·rw [if_neg c6] at H
      exact absurd H (by simp)
    ·rw [if_neg c5] at H
     have c5b0 : decide (x18_1 < (l0.length : Int)) = false := decide_eq_false c5
     clear c5
     simp only [Option.some.injEq, Prod.mk.injEq] at H
     obtain ⟨rfl, rfl⟩ := H
     go_wp2
     go_ret2
     exact ⟨_, by first | rfl | (simp [errW_none, errW_some] <;> rfl) | (simp [*, errW_none, errW_some] <;> rfl), (rowN HO_4.out), (belN HB.out)⟩

/-! ### a constant's bytes -/
theorem constb_lit {P : Program} {ops : Array Oper} {rest : List Oper} {o : Oper} {a : Act} {Q : Exit → Act → World → Prop} {W : World} {n E : Nat} {inner : List Value} (hgd : o.guard = none)
    (hrun : (execOp a.eval o).run P W = .ok (.value (.slice (some ⟨W.heap.size, 0, none⟩) n n)) (W.alloc (.cells inner.toArray E)))
    (h : wpList P ops Q rest (a.put o.dst (.slice (some ⟨W.heap.size, 0, none⟩) n n)) (W.alloc (.cells inner.toArray E))) : wpList P ops Q (o :: rest) a W := Kd.event_run hgd hrun h
theorem constb_conv {P : Program} {ops : Array Oper} {rest : List Oper} {o : Oper} {a : Act} {Q : Exit → Act → World → Prop} {W : World} (T E : TypeId) {N1 N2 : Tmp} {xs : List Int} {C : Array Value} (hgd : o.guard = none) (hd : o.dst = some N2)
    (ho : o.op = .convert T T (.tmp N1)) (hC : C = (xs.map (Value.int .u8)).toArray) (hv : a.eval (.tmp N1) = .slice (some ⟨W.heap.size, 0, none⟩) xs.length xs.length) (ht : P.underlying T = some (.slice E)) (he : P.underlying E = some (.int .u8)) (hm : xs.length ≤ 9223372036854775807)
    (h : ∀ v1 w1, Kd.V (Kd.int .u8) E w1 W.heap.size (fun k_ => W.heap.size ≤ k_) v1 xs → Below W.heap.size W w1 → wpList P ops Q rest (a.put (some N2) v1) w1) : wpList P ops Q (o :: rest) a (W.alloc (.cells C E)) := by
  have hrun : (execOp a.eval o).run P (W.alloc (.cells C E)) = .ok (.value (.slice (some ⟨W.heap.size, 0, none⟩) xs.length xs.length)) (W.alloc (.cells C E (C.size, C.size + 1))) := by
    unfold execOp
    rw [ho]
    simp only [hv, Sem.run_bind, Sem.run_pure, Lib.run_convert_bytes_const W T E C xs.length xs.length ht he, Result.andThen_ok]
  refine Kd.event_run hgd hrun ?_
  rw [hd]
  refine h _ _ ⟨_, _, rfl, Nat.le_refl _, ?_⟩ (below_alloc (Below.refl _ _) _)
  intro W' hW
  have hlt : W.heap.size < (W.alloc (.cells C E (C.size, C.size + 1))).heap.size := by simp
  have hb : W'.heap[W.heap.size]? = some (.cells C E (C.size, C.size + 1)) := by
    rw [hW W.heap.size (Nat.le_refl _) hlt]
    show (W.heap.push _)[W.heap.size]? = _
    simp
  refine ⟨rfl, hm, fun _ => ⟨_, rfl, fun j p hj => ⟨[Value.int .u8 p], rfl, rfl, fun i u hu => ?_⟩⟩⟩
  have hi : i = 0 := by
    rcases i with _ | i
    · rfl
    · simp at hu
  subst hi
  obtain rfl : Value.int .u8 p = u := by simpa using hu
  rw [add_plain]
  have hj2 : C[j]? = some (Value.int .u8 p) := by
    rw [hC]
    simp [hj]
  simp only [World.cell?, hb]
  simpa [Kd.int, Kd.scalar] using hj2

/-! ### marigraphlaw4_known: function 20 -/
def marigraphlaw4_known.f (k : Nat)  : Option (Bool) := (frame_Put.f k ([] : List Int) (([97] : List Int))).bind fun bt157 => ((frame_Batch.f k ([] : List (S49))).bind fun bt161 => (if bt157.2 = 0 then (if (strOfNums bt157.1).toList = ([0, 0, 1, 255, 255, 254, 97] : List UInt8) then (if bt161.2 = 0 then (some ((strOfNums bt161.1).toList == ([0, 0] : List UInt8))) else (some false)) else (some false)) else (some false)))
theorem marigraphlaw4_known.mono : ∀ k, LeO (marigraphlaw4_known.f k ) (marigraphlaw4_known.f (k + 1) ) := by
 intro  k
 unfold marigraphlaw4_known.f
 repeat' first
   | (with_reducible exact frame_Batch.mono _ _)
   | (with_reducible exact frame_Put.mono _ _ _)
   | (with_reducible exact LeO.refl _)
   | (with_reducible exact LeO.none _)
   | (with_reducible refine LeO.ite ?_ ?_)
   | (with_reducible refine LeO.bind ?_ (fun _ => ?_))
   | exact frame_Batch.mono _ _
   | exact frame_Put.mono _ _ _
   | exact LeO.none _
   | refine LeO.ite ?_ ?_
   | refine LeO.bind ?_ (fun _ => ?_)
set_option maxHeartbeats 8000000 in
set_option maxRecDepth 100000 in
theorem marigraphlaw4_known.calls (k : Nat)  (r : Bool) (w : World) (h : marigraphlaw4_known.f k  = some r) :
  Calls Try.prog 20 #[] w fun e w' => e = .returned (.bool r) ∧ Below w.heap.size w w' := by
 have HB := Aside0.mk (Below.refl w.heap.size w)
 have H : ((frame_Put.f k ([] : List Int) (([97] : List Int))).bind fun bt157 => ((frame_Batch.f k ([] : List (S49))).bind fun bt161 => (if bt157.2 = 0 then (if (strOfNums bt157.1).toList = ([0, 0, 1, 255, 255, 254, 97] : List UInt8) then (if bt161.2 = 0 then (some ((strOfNums bt161.1).toList == ([0, 0] : List UInt8))) else (some false)) else (some false)) else (some false)))) = some r := h
 clear h
 obtain ⟨y154, hy154⟩ : ∃ y_ : List Int, y_ = (([97] : List Int)) := ⟨_, rfl⟩
 replace H : ((frame_Put.f k ([] : List Int) y154).bind fun bt157 => ((frame_Batch.f k ([] : List (S49))).bind fun bt161 => (if bt157.2 = 0 then (if (strOfNums bt157.1).toList = ([0, 0, 1, 255, 255, 254, 97] : List UInt8) then (if bt161.2 = 0 then (some ((strOfNums bt161.1).toList == ([0, 0] : List UInt8))) else (some false)) else (some false)) else (some false)))) = some r := by first | (rw [hy154]; with_reducible exact H) | (have H2_ := (Option.bind_some _ _).symm.trans H; rw [hy154]; with_reducible exact H2_) | (have H2_ := (Option.bind_some _ _).symm.trans H; with_reducible exact H2_) | with_reducible exact H | (rw [hy154]; exact H) | exact H
 have Ny154 := Aside0.mk hy154
 clear hy154
 replace H := Option.bind_eq_some_iff.mp H
 obtain ⟨⟨t157, t158⟩, A10, H⟩ := H
 replace H : ((frame_Batch.f k ([] : List (S49))).bind fun bt161 => (if t158 = 0 then (if (strOfNums t157).toList = ([0, 0, 1, 255, 255, 254, 97] : List UInt8) then (if bt161.2 = 0 then (some ((strOfNums bt161.1).toList == ([0, 0] : List UInt8))) else (some false)) else (some false)) else (some false))) = some r := H
 have A1 := Aside0.mk A10
 clear A10
 replace H := Option.bind_eq_some_iff.mp H
 obtain ⟨⟨t161, t162⟩, A20, H⟩ := H
 replace H : (if t158 = 0 then (if (strOfNums t157).toList = ([0, 0, 1, 255, 255, 254, 97] : List UInt8) then (if t162 = 0 then (some ((strOfNums t161).toList == ([0, 0] : List UInt8))) else (some false)) else (some false)) else (some false)) = some r := H
 have A2 := Aside0.mk A20
 clear A20
 by_cases c3 : t158 = 0
 ·rw [if_pos c3] at H
  have c3b0 : (t158 == 0) = true := beq_iff_eq.mpr c3
  have c3b1 : (t158 != 0) = false := bne_eq_false_iff_eq.mpr c3
  clear c3
  by_cases c4 : (strOfNums t157).toList = ([0, 0, 1, 255, 255, 254, 97] : List UInt8)
  ·rw [if_pos c4] at H
   have c4b0 : ((strOfNums t157).toList == ([0, 0, 1, 255, 255, 254, 97] : List UInt8)) = true := beq_iff_eq.mpr c4
   have c4b1 : ((strOfNums t157).toList != ([0, 0, 1, 255, 255, 254, 97] : List UInt8)) = false := bne_eq_false_iff_eq.mpr c4
   clear c4
   by_cases c5 : t162 = 0
   ·rw [if_pos c5] at H
    have c5b0 : (t162 == 0) = true := beq_iff_eq.mpr c5
    have c5b1 : (t162 != 0) = false := bne_eq_false_iff_eq.mpr c5
    clear c5
    obtain rfl := Option.some.inj H
    go_enter Try.func20, Try.ntmps20
    go_wp2_with (first | ((with_reducible refine gate_dst (N := 6) rfl ?_); (try (refine gate_guard (by rfl) ?_; dsimp only)); refine constb_lit (n := 1) (inner := [.int .u8 97]) (E := 5) ?hg ?hr ?_; (case hg => rfl); (case hr => first | (go_simp; done) | (go_simp; rfl)); (with_reducible refine gate_dst (N := 7) rfl ?_); (try (refine gate_guard (by rfl) ?_; dsimp only)); refine constb_conv 23 5 (xs := ([97] : List Int)) rfl rfl rfl rfl (by first | (simp only [Act.put, List.setIfInBounds_toArray, List.set_cons_zero, List.set_cons_succ]; rfl) | rfl | (go_simp; done) | (go_simp; rfl)) Try.underlying23 Try.underlying5 (by simp) ?_; intro v155 w6 ho0 hb; rw [← Ny154.out] at ho0; have n0_ := Aside0.mk (Kd.V_lower (Kd.V_mono (ok' := fun k_ => True) ho0 (fun k_ hk_ => trivial)) (below_size (belN HB.out))); have n1_ := Aside0.mk (below_step (belN HB.out) hb); clear HB; have HO156 := n0_; have HB := n1_; clear n0_ n1_; (try clear hb); (try clear ho0); obtain ⟨Ao7, co7, eo7⟩ := Kd.V_slice HO156.out; subst eo7) | ((with_reducible refine gate_callee (f := 16) rfl ?_); refine goesL_ (some 8) rfl rfl Try.func16 (by kernel_rfl) rfl #[.slice none 0 0, .slice Ao7 y154.length co7] rfl argN ?_; (refine (frame_Put.calls k _ _ ([] : List Int) _ _ y154 t157 t158 _ ?side1 ?side2 ?side3 ?side4 A1.out).mono ?_); (case side1 => exact Kd.C_nil _ _); (case side2 => exact Nat.le_refl _); (case side3 => repeat (first | exact (Kd.V_reads' HO156.out).2.2 | (with_reducible refine Kd.C_alloc ?_ _) | (with_reducible refine Kd.C_drewN ?_ _) | (with_reducible refine Kd.C_drew ?_))); (case side4 => exact (Kd.V_reads' HO156.out).2.1); rintro e w8 ⟨v159, rfl, ho0, hb⟩; refine ⟨_, rfl, ?_⟩; have n0_ := Aside0.mk (Kd.V_elder' (by (with_reducible repeat (first | apply Kd.V_alloc | apply Kd.V_drewN | apply Kd.V_drew)); exact HO156.out) (Kd.R_base ho0) hb); have n1_ := Aside0.mk (Kd.R_lower ho0 (below_size (belN HB.out))); have n2_ := Aside0.mk (below_step (belN HB.out) hb); clear HO156; clear HB; have HO156 := n0_; have HO160 := n1_; have HB := n2_; clear n0_ n1_ n2_; (try clear hb); (try clear ho0)) | ((with_reducible refine gate_callee (f := 22) rfl ?_); refine goesL_ (some 12) rfl rfl Try.func22 (by kernel_rfl) rfl #[.slice none 0 0] rfl argN ?_; (refine (frame_Batch.calls k _ _ ([] : List (S49)) t161 t162 _ ?side1 ?side2 A2.out).mono ?_); (case side1 => exact Kd.C_nil _ _); (case side2 => exact Nat.le_refl _); rintro e w9 ⟨v163, rfl, ho0, hb⟩; refine ⟨_, rfl, ?_⟩; have n0_ := Aside0.mk (Kd.V_elder' (by (with_reducible repeat (first | apply Kd.V_alloc | apply Kd.V_drewN | apply Kd.V_drew)); exact HO156.out) (Kd.R_base ho0) hb); have n1_ := Aside0.mk (Kd.R_elder' (rowN HO160.out) (Kd.R_base ho0) hb); have n2_ := Aside0.mk (Kd.R_lower (Kd.R_new' ho0 (Kd.R_lt (rowN HO160.out))) (below_size (belN HB.out))); have n3_ := Aside0.mk (below_step (belN HB.out) hb); clear HO156; clear HO160; clear HB; have HO156 := n0_; have HO160 := n1_; have HO164 := n2_; have HB := n3_; clear n0_ n1_ n2_ n3_; (try clear hb); (try clear ho0); have hcv10 := own_string (P := Try.prog) Try.underlying23 Try.underlying5 Try.underlying9 (Kd.own_of_R HO160.out); have hcv11 := own_string (P := Try.prog) Try.underlying23 Try.underlying5 Try.underlying9 (Kd.own_of_R HO164.out)))
    go_ret
    exact ⟨by first | rfl | (simp [errW_none, errW_some] <;> rfl) | (simp [*, errW_none, errW_some] <;> rfl), (belN HB.out)⟩
   ·rw [if_neg c5] at H
    have c5b0 : (t162 == 0) = false := beq_eq_false_iff_ne.mpr c5
    have c5b1 : (t162 != 0) = true := bne_iff_ne.mpr c5
    obtain rfl := Option.some.inj H
    go_enter Try.func20, Try.ntmps20
    go_wp2_with (first | ((with_reducible refine gate_dst (N := 6) rfl ?_); (try (refine gate_guard (by rfl) ?_; dsimp only)); refine constb_lit (n := 1) (inner := [.int .u8 97]) (E := 5) ?hg ?hr ?_; (case hg => rfl); (case hr => first | (go_simp; done) | (go_simp; rfl)); (with_reducible refine gate_dst (N := 7) rfl ?_); (try (refine gate_guard (by rfl) ?_; dsimp only)); refine constb_conv 23 5 (xs := ([97] : List Int)) rfl rfl rfl rfl (by first | (simp only [Act.put, List.setIfInBounds_toArray, List.set_cons_zero, List.set_cons_succ]; rfl) | rfl | (go_simp; done) | (go_simp; rfl)) Try.underlying23 Try.underlying5 (by simp) ?_; intro v155 w12 ho0 hb; rw [← Ny154.out] at ho0; have n0_ := Aside0.mk (Kd.V_lower (Kd.V_mono (ok' := fun k_ => True) ho0 (fun k_ hk_ => trivial)) (below_size (belN HB.out))); have n1_ := Aside0.mk (below_step (belN HB.out) hb); clear HB; have HO156 := n0_; have HB := n1_; clear n0_ n1_; (try clear hb); (try clear ho0); obtain ⟨Ao13, co13, eo13⟩ := Kd.V_slice HO156.out; subst eo13) | ((with_reducible refine gate_callee (f := 16) rfl ?_); refine goesL_ (some 8) rfl rfl Try.func16 (by kernel_rfl) rfl #[.slice none 0 0, .slice Ao13 y154.length co13] rfl argN ?_; (refine (frame_Put.calls k _ _ ([] : List Int) _ _ y154 t157 t158 _ ?side1 ?side2 ?side3 ?side4 A1.out).mono ?_); (case side1 => exact Kd.C_nil _ _); (case side2 => exact Nat.le_refl _); (case side3 => repeat (first | exact (Kd.V_reads' HO156.out).2.2 | (with_reducible refine Kd.C_alloc ?_ _) | (with_reducible refine Kd.C_drewN ?_ _) | (with_reducible refine Kd.C_drew ?_))); (case side4 => exact (Kd.V_reads' HO156.out).2.1); rintro e w14 ⟨v159, rfl, ho0, hb⟩; refine ⟨_, rfl, ?_⟩; have n0_ := Aside0.mk (Kd.V_elder' (by (with_reducible repeat (first | apply Kd.V_alloc | apply Kd.V_drewN | apply Kd.V_drew)); exact HO156.out) (Kd.R_base ho0) hb); have n1_ := Aside0.mk (Kd.R_lower ho0 (below_size (belN HB.out))); have n2_ := Aside0.mk (below_step (belN HB.out) hb); clear HO156; clear HB; have HO156 := n0_; have HO160 := n1_; have HB := n2_; clear n0_ n1_ n2_; (try clear hb); (try clear ho0)) | ((with_reducible refine gate_callee (f := 22) rfl ?_); refine goesL_ (some 12) rfl rfl Try.func22 (by kernel_rfl) rfl #[.slice none 0 0] rfl argN ?_; (refine (frame_Batch.calls k _ _ ([] : List (S49)) t161 t162 _ ?side1 ?side2 A2.out).mono ?_); (case side1 => exact Kd.C_nil _ _); (case side2 => exact Nat.le_refl _); rintro e w15 ⟨v163, rfl, ho0, hb⟩; refine ⟨_, rfl, ?_⟩; have n0_ := Aside0.mk (Kd.V_elder' (by (with_reducible repeat (first | apply Kd.V_alloc | apply Kd.V_drewN | apply Kd.V_drew)); exact HO156.out) (Kd.R_base ho0) hb); have n1_ := Aside0.mk (Kd.R_elder' (rowN HO160.out) (Kd.R_base ho0) hb); have n2_ := Aside0.mk (Kd.R_lower (Kd.R_new' ho0 (Kd.R_lt (rowN HO160.out))) (below_size (belN HB.out))); have n3_ := Aside0.mk (below_step (belN HB.out) hb); clear HO156; clear HO160; clear HB; have HO156 := n0_; have HO160 := n1_; have HO164 := n2_; have HB := n3_; clear n0_ n1_ n2_ n3_; (try clear hb); (try clear ho0); have hcv16 := own_string (P := Try.prog) Try.underlying23 Try.underlying5 Try.underlying9 (Kd.own_of_R HO160.out)))
    go_ret
    exact ⟨by first | rfl | (simp [errW_none, errW_some] <;> rfl) | (simp [*, errW_none, errW_some] <;> rfl), (belN HB.out)⟩
  ·rw [if_neg c4] at H
   have c4b0 : ((strOfNums t157).toList == ([0, 0, 1, 255, 255, 254, 97] : List UInt8)) = false := beq_eq_false_iff_ne.mpr c4
   have c4b1 : ((strOfNums t157).toList != ([0, 0, 1, 255, 255, 254, 97] : List UInt8)) = true := bne_iff_ne.mpr c4
   obtain rfl := Option.some.inj H
   go_enter Try.func20, Try.ntmps20
   go_wp2_with (first | ((with_reducible refine gate_dst (N := 6) rfl ?_); (try (refine gate_guard (by rfl) ?_; dsimp only)); refine constb_lit (n := 1) (inner := [.int .u8 97]) (E := 5) ?hg ?hr ?_; (case hg => rfl); (case hr => first | (go_simp; done) | (go_simp; rfl)); (with_reducible refine gate_dst (N := 7) rfl ?_); (try (refine gate_guard (by rfl) ?_; dsimp only)); refine constb_conv 23 5 (xs := ([97] : List Int)) rfl rfl rfl rfl (by first | (simp only [Act.put, List.setIfInBounds_toArray, List.set_cons_zero, List.set_cons_succ]; rfl) | rfl | (go_simp; done) | (go_simp; rfl)) Try.underlying23 Try.underlying5 (by simp) ?_; intro v155 w17 ho0 hb; rw [← Ny154.out] at ho0; have n0_ := Aside0.mk (Kd.V_lower (Kd.V_mono (ok' := fun k_ => True) ho0 (fun k_ hk_ => trivial)) (below_size (belN HB.out))); have n1_ := Aside0.mk (below_step (belN HB.out) hb); clear HB; have HO156 := n0_; have HB := n1_; clear n0_ n1_; (try clear hb); (try clear ho0); obtain ⟨Ao18, co18, eo18⟩ := Kd.V_slice HO156.out; subst eo18) | ((with_reducible refine gate_callee (f := 16) rfl ?_); refine goesL_ (some 8) rfl rfl Try.func16 (by kernel_rfl) rfl #[.slice none 0 0, .slice Ao18 y154.length co18] rfl argN ?_; (refine (frame_Put.calls k _ _ ([] : List Int) _ _ y154 t157 t158 _ ?side1 ?side2 ?side3 ?side4 A1.out).mono ?_); (case side1 => exact Kd.C_nil _ _); (case side2 => exact Nat.le_refl _); (case side3 => repeat (first | exact (Kd.V_reads' HO156.out).2.2 | (with_reducible refine Kd.C_alloc ?_ _) | (with_reducible refine Kd.C_drewN ?_ _) | (with_reducible refine Kd.C_drew ?_))); (case side4 => exact (Kd.V_reads' HO156.out).2.1); rintro e w19 ⟨v159, rfl, ho0, hb⟩; refine ⟨_, rfl, ?_⟩; have n0_ := Aside0.mk (Kd.V_elder' (by (with_reducible repeat (first | apply Kd.V_alloc | apply Kd.V_drewN | apply Kd.V_drew)); exact HO156.out) (Kd.R_base ho0) hb); have n1_ := Aside0.mk (Kd.R_lower ho0 (below_size (belN HB.out))); have n2_ := Aside0.mk (below_step (belN HB.out) hb); clear HO156; clear HB; have HO156 := n0_; have HO160 := n1_; have HB := n2_; clear n0_ n1_ n2_; (try clear hb); (try clear ho0)) | ((with_reducible refine gate_callee (f := 22) rfl ?_); refine goesL_ (some 12) rfl rfl Try.func22 (by kernel_rfl) rfl #[.slice none 0 0] rfl argN ?_; (refine (frame_Batch.calls k _ _ ([] : List (S49)) t161 t162 _ ?side1 ?side2 A2.out).mono ?_); (case side1 => exact Kd.C_nil _ _); (case side2 => exact Nat.le_refl _); rintro e w20 ⟨v163, rfl, ho0, hb⟩; refine ⟨_, rfl, ?_⟩; have n0_ := Aside0.mk (Kd.V_elder' (by (with_reducible repeat (first | apply Kd.V_alloc | apply Kd.V_drewN | apply Kd.V_drew)); exact HO156.out) (Kd.R_base ho0) hb); have n1_ := Aside0.mk (Kd.R_elder' (rowN HO160.out) (Kd.R_base ho0) hb); have n2_ := Aside0.mk (Kd.R_lower (Kd.R_new' ho0 (Kd.R_lt (rowN HO160.out))) (below_size (belN HB.out))); have n3_ := Aside0.mk (below_step (belN HB.out) hb); clear HO156; clear HO160; clear HB; have HO156 := n0_; have HO160 := n1_; have HO164 := n2_; have HB := n3_; clear n0_ n1_ n2_ n3_; (try clear hb); (try clear ho0); have hcv21 := own_string (P := Try.prog) Try.underlying23 Try.underlying5 Try.underlying9 (Kd.own_of_R HO160.out)))
   go_ret
   exact ⟨by first | rfl | (simp [errW_none, errW_some] <;> rfl) | (simp [*, errW_none, errW_some] <;> rfl), (belN HB.out)⟩
 ·rw [if_neg c3] at H
  have c3b0 : (t158 == 0) = false := beq_eq_false_iff_ne.mpr c3
  have c3b1 : (t158 != 0) = true := bne_iff_ne.mpr c3
  obtain rfl := Option.some.inj H
  go_enter Try.func20, Try.ntmps20
  go_wp2_with (first | ((with_reducible refine gate_dst (N := 6) rfl ?_); (try (refine gate_guard (by rfl) ?_; dsimp only)); refine constb_lit (n := 1) (inner := [.int .u8 97]) (E := 5) ?hg ?hr ?_; (case hg => rfl); (case hr => first | (go_simp; done) | (go_simp; rfl)); (with_reducible refine gate_dst (N := 7) rfl ?_); (try (refine gate_guard (by rfl) ?_; dsimp only)); refine constb_conv 23 5 (xs := ([97] : List Int)) rfl rfl rfl rfl (by first | (simp only [Act.put, List.setIfInBounds_toArray, List.set_cons_zero, List.set_cons_succ]; rfl) | rfl | (go_simp; done) | (go_simp; rfl)) Try.underlying23 Try.underlying5 (by simp) ?_; intro v155 w22 ho0 hb; rw [← Ny154.out] at ho0; have n0_ := Aside0.mk (Kd.V_lower (Kd.V_mono (ok' := fun k_ => True) ho0 (fun k_ hk_ => trivial)) (below_size (belN HB.out))); have n1_ := Aside0.mk (below_step (belN HB.out) hb); clear HB; have HO156 := n0_; have HB := n1_; clear n0_ n1_; (try clear hb); (try clear ho0); obtain ⟨Ao23, co23, eo23⟩ := Kd.V_slice HO156.out; subst eo23) | ((with_reducible refine gate_callee (f := 16) rfl ?_); refine goesL_ (some 8) rfl rfl Try.func16 (by kernel_rfl) rfl #[.slice none 0 0, .slice Ao23 y154.length co23] rfl argN ?_; (refine (frame_Put.calls k _ _ ([] : List Int) _ _ y154 t157 t158 _ ?side1 ?side2 ?side3 ?side4 A1.out).mono ?_); (case side1 => exact Kd.C_nil _ _); (case side2 => exact Nat.le_refl _); (case side3 => repeat (first | exact (Kd.V_reads' HO156.out).2.2 | (with_reducible refine Kd.C_alloc ?_ _) | (with_reducible refine Kd.C_drewN ?_ _) | (with_reducible refine Kd.C_drew ?_))); (case side4 => exact (Kd.V_reads' HO156.out).2.1); rintro e w24 ⟨v159, rfl, ho0, hb⟩; refine ⟨_, rfl, ?_⟩; have n0_ := Aside0.mk (Kd.V_elder' (by (with_reducible repeat (first | apply Kd.V_alloc | apply Kd.V_drewN | apply Kd.V_drew)); exact HO156.out) (Kd.R_base ho0) hb); have n1_ := Aside0.mk (Kd.R_lower ho0 (below_size (belN HB.out))); have n2_ := Aside0.mk (below_step (belN HB.out) hb); clear HO156; clear HB; have HO156 := n0_; have HO160 := n1_; have HB := n2_; clear n0_ n1_ n2_; (try clear hb); (try clear ho0)) | ((with_reducible refine gate_callee (f := 22) rfl ?_); refine goesL_ (some 12) rfl rfl Try.func22 (by kernel_rfl) rfl #[.slice none 0 0] rfl argN ?_; (refine (frame_Batch.calls k _ _ ([] : List (S49)) t161 t162 _ ?side1 ?side2 A2.out).mono ?_); (case side1 => exact Kd.C_nil _ _); (case side2 => exact Nat.le_refl _); rintro e w25 ⟨v163, rfl, ho0, hb⟩; refine ⟨_, rfl, ?_⟩; have n0_ := Aside0.mk (Kd.V_elder' (by (with_reducible repeat (first | apply Kd.V_alloc | apply Kd.V_drewN | apply Kd.V_drew)); exact HO156.out) (Kd.R_base ho0) hb); have n1_ := Aside0.mk (Kd.R_elder' (rowN HO160.out) (Kd.R_base ho0) hb); have n2_ := Aside0.mk (Kd.R_lower (Kd.R_new' ho0 (Kd.R_lt (rowN HO160.out))) (below_size (belN HB.out))); have n3_ := Aside0.mk (below_step (belN HB.out) hb); clear HO156; clear HO160; clear HB; have HO156 := n0_; have HO160 := n1_; have HO164 := n2_; have HB := n3_; clear n0_ n1_ n2_ n3_; (try clear hb); (try clear ho0)))
  go_ret
  exact ⟨by first | rfl | (simp [errW_none, errW_some] <;> rfl) | (simp [*, errW_none, errW_some] <;> rfl), (belN HB.out)⟩

end Go.Proofs.Ytmimfnangdabmaa.PFrameBatches

/- The walk of the Go functions that a law reaches, told as plain functions; a program of this session has written it. No condition beyond the statement's own. -/
import Derived.Test.YtlmhgjnlbokceaaPDownTellsx0
import Derived.Test.YtlmhgjnlbokceaaPDownTellsx3
import Derived.Test.YtlmhgjnlbokceaaPDownTellsx5
namespace Go.Proofs.Ytlmhgjnlbokceaa.PDownTells
open Go.RowKit Go.Proofs.YtlmhgjnlbokceaaW.PrintWords Go.Proofs.YtlmhgjnlbokceaaW.PrintLast Go.Proofs.YtlmhgjnlbokceaaW.PrintMore
attribute [local go_sem] max2_int min2_int max_two min_two max_three min_three max_four min_four   -- for this text's walks alone
set_option linter.unusedVariables false
set_option linter.unusedSimpArgs false

/-! ### down_part: function 22 -/
mutual
def down_part.l0 : Nat → Int → Int → Int → List (S53) → Int → List (S31) → Int → Int → Option ((List (S53)))
 | 0, _, _, _, _, _, _, _, _ => none
 | k + 1, x1, x2, x3, x4, x11, x15, x16, x17 => if x17 < x16 then (if 0 ≤ x17 then (if x17 < (x15.length : Int) then (if ((rd_T31 x15 x17).f0) < x1 then (down_part.j1 k x1 x2 x3 x4 x11 x15 x16 x17 true ((rd_T31 x15 x17).f0) ((rd_T31 x15 x17).f1.f0) ((rd_T31 x15 x17).f1.f1)) else (down_part.j1 k x1 x2 x3 x4 x11 x15 x16 x17 (decide (((rd_T31 x15 x17).f0) > x2)) ((rd_T31 x15 x17).f0) ((rd_T31 x15 x17).f1.f0) ((rd_T31 x15 x17).f1.f1))) else (none)) else (none)) else (some x4)
def down_part.j1 : Nat → Int → Int → Int → List (S53) → Int → List (S31) → Int → Int → Bool → Int → Int → Int → Option ((List (S53)))
 | 0, _, _, _, _, _, _, _, _, _, _, _, _ => none
 | k + 1, x1, x2, x3, x4, x11, x15, x16, x17, x30, x141000, x141001, x141002 => if x30 = true then (down_part.l0 k x1 x2 x3 x4 x11 x15 x16 (wrap64 (x17 + 1))) else ((down_Bucket.f x141000 x3).bind fun t141 => (down_part.l1 k x1 x2 x3 x4 x11 t141 x15 x16 x17 x141000 x141001 x141002))
def down_part.l1 : Nat → Int → Int → Int → List (S53) → Int → Int → List (S31) → Int → Int → Int → Int → Int → Option ((List (S53)))
 | 0, _, _, _, _, _, _, _, _, _, _, _, _ => none
 | k + 1, x1, x2, x3, x4, x11, x14, x15, x16, x17, x141000, x141001, x141002 => if x11 < (x4.length : Int) then (if 0 ≤ x11 then (if ((rd_T53 x4 x11).f0) < x14 then (down_part.l1 k x1 x2 x3 x4 (wrap64 (x11 + 1)) x14 x15 x16 x17 x141000 x141001 x141002) else (if x11 = (x4.length : Int) then (if x4.length < 4398046511104 then ((some (x4 ++ [(⟨x14, ([] : List (S29))⟩ : S53)] : List (S53))).bind fun y143 => (if x11 < (y143.length : Int) then (if ((rd_T53 y143 x11).f1).length < 8796093022208 then (down_part.l0 k x1 x2 x3 (y143.set (x11 : Int).toNat (⟨(rd_T53 y143 x11).f0, (((rd_T53 y143 x11).f1) ++ [(⟨x141001, x141002⟩ : S29)])⟩ : S53)) x11 x15 x16 (wrap64 (x17 + 1))) else (none)) else (none))) else (none)) else (if ((rd_T53 x4 x11).f1).length < 8796093022208 then (down_part.l0 k x1 x2 x3 (x4.set (x11 : Int).toNat (⟨(rd_T53 x4 x11).f0, (((rd_T53 x4 x11).f1) ++ [(⟨x141001, x141002⟩ : S29)])⟩ : S53)) x11 x15 x16 (wrap64 (x17 + 1))) else (none)))) else (none)) else (if x11 = (x4.length : Int) then (if x4.length < 4398046511104 then ((some (x4 ++ [(⟨x14, ([] : List (S29))⟩ : S53)] : List (S53))).bind fun y156 => (if 0 ≤ x11 then (if x11 < (y156.length : Int) then (if ((rd_T53 y156 x11).f1).length < 8796093022208 then (down_part.l0 k x1 x2 x3 (y156.set (x11 : Int).toNat (⟨(rd_T53 y156 x11).f0, (((rd_T53 y156 x11).f1) ++ [(⟨x141001, x141002⟩ : S29)])⟩ : S53)) x11 x15 x16 (wrap64 (x17 + 1))) else (none)) else (none)) else (none))) else (none)) else (if 0 ≤ x11 then (none) else (none)))
end
def down_part.f (k : Nat) (l0 : List (S31)) (a1 : Int) (a2 : Int) (a3 : Int) (l4 : List (S53)) : Option ((List (S53))) := down_part.l0 k a1 a2 a3 l4 0 l0 (l0.length : Int) 0
theorem down_part.mono_l : ∀ k, (∀ y0 y1 y2 y3 y4 y5 y6 y7, LeO (down_part.l0 k y0 y1 y2 y3 y4 y5 y6 y7) (down_part.l0 (k + 1) y0 y1 y2 y3 y4 y5 y6 y7)) ∧ (∀ y0 y1 y2 y3 y4 y5 y6 y7 y8 y9 y10 y11, LeO (down_part.j1 k y0 y1 y2 y3 y4 y5 y6 y7 y8 y9 y10 y11) (down_part.j1 (k + 1) y0 y1 y2 y3 y4 y5 y6 y7 y8 y9 y10 y11)) ∧ (∀ y0 y1 y2 y3 y4 y5 y6 y7 y8 y9 y10 y11, LeO (down_part.l1 k y0 y1 y2 y3 y4 y5 y6 y7 y8 y9 y10 y11) (down_part.l1 (k + 1) y0 y1 y2 y3 y4 y5 y6 y7 y8 y9 y10 y11))
 | 0 => ⟨fun _ _ _ _ _ _ _ _ r h => by simp [down_part.l0] at h, fun _ _ _ _ _ _ _ _ _ _ _ _ r h => by simp [down_part.j1] at h, fun _ _ _ _ _ _ _ _ _ _ _ _ r h => by simp [down_part.l1] at h⟩
 | k + 1 => by
  obtain ⟨ih0, ih1, ih2⟩ := down_part.mono_l k
  refine ⟨?_, ?_, ?_⟩
  ·intro y0 y1 y2 y3 y4 y5 y6 y7
   unfold down_part.l0
   repeat' first
   | (with_reducible exact ih0 _ _ _ _ _ _ _ _)
   | (with_reducible exact ih1 _ _ _ _ _ _ _ _ _ _ _ _)
   | (with_reducible exact ih2 _ _ _ _ _ _ _ _ _ _ _ _)
   | (with_reducible exact down_fill.mono _ _ _ _ _)
   | (with_reducible exact LeO.refl _)
   | (with_reducible exact LeO.none _)
   | (with_reducible refine LeO.ite ?_ ?_)
   | (with_reducible refine LeO.bind ?_ (fun _ => ?_))
   | exact ih0 _ _ _ _ _ _ _ _
   | exact ih1 _ _ _ _ _ _ _ _ _ _ _ _
   | exact ih2 _ _ _ _ _ _ _ _ _ _ _ _
   | exact down_fill.mono _ _ _ _ _
   | exact LeO.none _
   | refine LeO.ite ?_ ?_
   | refine LeO.bind ?_ (fun _ => ?_)
  ·intro y0 y1 y2 y3 y4 y5 y6 y7 y8 y9 y10 y11
   unfold down_part.j1
   repeat' first
   | (with_reducible exact ih0 _ _ _ _ _ _ _ _)
   | (with_reducible exact ih1 _ _ _ _ _ _ _ _ _ _ _ _)
   | (with_reducible exact ih2 _ _ _ _ _ _ _ _ _ _ _ _)
   | (with_reducible exact down_fill.mono _ _ _ _ _)
   | (with_reducible exact LeO.refl _)
   | (with_reducible exact LeO.none _)
   | (with_reducible refine LeO.ite ?_ ?_)
   | (with_reducible refine LeO.bind ?_ (fun _ => ?_))
   | exact ih0 _ _ _ _ _ _ _ _
   | exact ih1 _ _ _ _ _ _ _ _ _ _ _ _
   | exact ih2 _ _ _ _ _ _ _ _ _ _ _ _
   | exact down_fill.mono _ _ _ _ _
   | exact LeO.none _
   | refine LeO.ite ?_ ?_
   | refine LeO.bind ?_ (fun _ => ?_)
  ·intro y0 y1 y2 y3 y4 y5 y6 y7 y8 y9 y10 y11
   unfold down_part.l1
   repeat' first
   | (with_reducible exact ih0 _ _ _ _ _ _ _ _)
   | (with_reducible exact ih1 _ _ _ _ _ _ _ _ _ _ _ _)
   | (with_reducible exact ih2 _ _ _ _ _ _ _ _ _ _ _ _)
   | (with_reducible exact down_fill.mono _ _ _ _ _)
   | (with_reducible exact LeO.refl _)
   | (with_reducible exact LeO.none _)
   | (with_reducible refine LeO.ite ?_ ?_)
   | (with_reducible refine LeO.bind ?_ (fun _ => ?_))
   | exact ih0 _ _ _ _ _ _ _ _
   | exact ih1 _ _ _ _ _ _ _ _ _ _ _ _
   | exact ih2 _ _ _ _ _ _ _ _ _ _ _ _
   | exact down_fill.mono _ _ _ _ _
   | exact LeO.none _
   | refine LeO.ite ?_ ?_
   | refine LeO.bind ?_ (fun _ => ?_)
theorem down_part.mono : ∀ a0 a1 a2 a3 a4 k, LeO (down_part.f k a0 a1 a2 a3 a4) (down_part.f (k + 1) a0 a1 a2 a3 a4) := by
 intro a0 a1 a2 a3 a4 k
 obtain ⟨ih0, ih1, ih2⟩ := down_part.mono_l k
 unfold down_part.f
 repeat' first
   | (with_reducible exact ih0 _ _ _ _ _ _ _ _)
   | (with_reducible exact ih1 _ _ _ _ _ _ _ _ _ _ _ _)
   | (with_reducible exact ih2 _ _ _ _ _ _ _ _ _ _ _ _)
   | (with_reducible exact LeO.refl _)
   | (with_reducible exact LeO.none _)
   | (with_reducible refine LeO.ite ?_ ?_)
   | (with_reducible refine LeO.bind ?_ (fun _ => ?_))
   | exact ih0 _ _ _ _ _ _ _ _
   | exact ih1 _ _ _ _ _ _ _ _ _ _ _ _
   | exact ih2 _ _ _ _ _ _ _ _ _ _ _ _
   | exact LeO.none _
   | refine LeO.ite ?_ ?_
   | refine LeO.bind ?_ (fun _ => ?_)
def down_part.T11 : Bool × List (List Nat × List Nat) := (true, [([], []), ([], []), ([], []), ([], []), ([2, 3], [2, 3]), ([4], [4]), ([5], [5]), ([], []), ([7], [7]), ([8], [8]), ([6, 9], [6, 9]), ([0, 1, 0, 1, 2, 3, 4, 5, 6, 7, 8, 9, 10], [0, 1]), ([11, 0, 1, 2, 3, 4, 5, 6, 7, 8, 9, 10], [11]), ([12, 10, 10, 0, 1, 2, 3, 4, 5, 6, 7, 8, 9, 10], [10, 12])])
def down_part.B11 : List Nat := [0, 0, 0, 0, 12, 28, 60, 0, 128, 384, 1020, 2047, 4095, 8191]
theorem down_part.tab11 : rtab .any (opsOf Try.f22 11) = down_part.T11 := by kernel_rfl
theorem down_part.bits11 : waitsOk down_part.T11.2 down_part.B11 = true := by kernel_rfl
set_option maxHeartbeats 8000000 in
set_option maxRecDepth 100000 in
theorem down_part.calls (k : Nat) (A0 : Option Addr) (c0 : Nat) (l0 : List (S31)) (a1 : Int) (a2 : Int) (a3 : Int) (u4_ : Value) (l4 : List (S53)) (r : List (S53)) (w wN : World) (hr0 : Kd.C k31 w A0 l0.length l0) (hc0 : l0.length ≤ c0) (ho4 : Kd.S k53 53 wN w.heap.size (fun _ => True) u4_ l4) (hb4 : Below w.heap.size w wN) (h : down_part.f k l0 a1 a2 a3 l4 = some r) :
  Calls Try.prog 22 #[.slice A0 l0.length c0, .int .i64 a1, .int .i64 a2, .int .i64 a3, u4_] wN fun e w' => ∃ v0_ : Value, e = .returned (v0_) ∧ Kd.S k53 53 w' w.heap.size (fun _ => True) v0_ r ∧ Below w.heap.size w w' := by
 have hu31 := Try.underlying31
 have hu53 := Try.underlying53
 have hu29 := Try.underlying29
 have HR0 := Aside0.mk hr0
 have HC0 := Aside0.mk hc0
 clear hr0 hc0
 have HO4 := Aside0.mk ho4
 clear ho4
 have HB := Aside0.mk hb4
 clear hb4
 have H' := Aside0.mk (show (down_part.l0 k a1 a2 a3 l4 0 l0 (l0.length : Int) 0) = some r from h)
 clear h
 go_enter Try.func22, Try.ntmps22
 go_wp2
 go_loopg [4, 11, 17] k (fun kq v4 v11 v17 w' => ∃ (x4_1 : List (S53)) (x11_1 : Int) (x17_1 : Int), v11 = .int .i64 x11_1 ∧ v17 = .int .i64 x17_1 ∧ Aside0 (down_part.l0 kq a1 a2 a3 x4_1 x11_1 l0 (l0.length : Int) x17_1 = some r) ∧ Aside0 (kq ≤ k) ∧ Aside0 (Kd.S k53 53 w' w.heap.size (fun _ => True) v4 x4_1) ∧ Aside0 (Below w.heap.size w w'))
 case atStart => exact ⟨(l4), (0), (0), (by first | rfl | (simp; done) | (simp [*]; done)), (by first | rfl | (simp; done) | (simp [*]; done)), H', ⟨Nat.le_refl _⟩, ⟨by (with_reducible repeat (first | apply Kd.S_alloc | apply Kd.S_drewN | apply Kd.S_drew)); exact HO4.out⟩, ⟨(belN HB.out)⟩⟩
 case round =>
  clear H'
  try clear c2
  try clear p2
  try clear c4
  obtain ⟨x4_1, x11_1, x17_1, rfl, rfl, HA, HK1, HO_4, HB⟩ := hrel
  cases gk with
  | zero => exact absurd HA.out (by simp [down_part.l0])
  | succ k1 =>
   have H := HA.out
   clear HA
   simp only [down_part.l0] at H
   by_cases c8 : x17_1 < (l0.length : Int)
   ·rw [if_pos c8] at H
    have c8b0 : decide (x17_1 < (l0.length : Int)) = true := decide_eq_true c8
    clear c8
    by_cases c9 : 0 ≤ x17_1
    ·rw [if_pos c9] at H
     have c9b0 : decide (0 ≤ x17_1) = true := decide_eq_true c9
     clear c9
     by_cases c10 : x17_1 < (l0.length : Int)
     ·rw [if_pos c10] at H
      have c10b0 : decide (x17_1 < (l0.length : Int)) = true := decide_eq_true c10
      clear c10
      have HC11 := Aside0.mk H
      clear H
      have p139 : 0 ≤ (x17_1 : Int) := of_decide_eq_true (by first | (with_reducible assumption) | assumption)
      have q139 : x17_1 < (l0.length : Int) := of_decide_eq_true (by first | (with_reducible assumption) | assumption)
      obtain ⟨ad139, e139, hx139_0, hx139_1, hx139_2⟩ := at_T31 HR0.out x17_1 p139 q139
      cases e139
      replace hx139_0 := cellB HB.out hx139_0
      replace hx139_1 := cellB HB.out hx139_1
      replace hx139_2 := cellB HB.out hx139_2
      replace p139 := eq_true p139
      replace q139 := eq_true q139
      go_upto_region 5 with (first | ((with_reducible refine gate_dst (N := 13) rfl ?_); refine box_event ?hg (N := 13) ?hd (cs := #[.int .i64 0, .int .i64 0, .int .i64 0]) (t := 31) ?hr ?_; (case hd => rfl); (case hg => rfl); (case hr => first | (go_simp; done) | (go_simp; rfl)); intro gb140 hg w12 hbox hb; have n0_ := Aside0.mk (Kd.S_below (by (with_reducible repeat (first | apply Kd.S_alloc | apply Kd.S_drewN | apply Kd.S_drew)); exact HO_4.out) hb); have n1_ := Aside0.mk (below_step (belN HB.out) hb); have n2_ := Aside0.mk (hbox); have n3_ := Aside0.mk (szB hg HB.out); have n4_ := Aside0.mk (szB hg HB.out); clear HO_4; clear HB; have HO_4 := n0_; have HB := n1_; have BK140 := n2_; have GW140 := n3_; have GE140 := n4_; clear n0_ n1_ n2_ n3_ n4_; clear hb hbox hg; have hcz13_0 : w12.cell? ⟨gb140, 0, none⟩ = some (.int .i64 0) := (blk_cell BK140.out 0).trans rfl; have hcz13_1 : w12.cell? ⟨gb140, 1, none⟩ = some (.int .i64 0) := (blk_cell BK140.out 1).trans rfl; have hcz13_2 : w12.cell? ⟨gb140, 2, none⟩ = some (.int .i64 0) := (blk_cell BK140.out 2).trans rfl; have hfz13_0 := blk_frozen BK140.out 0; have hfz13_1 := blk_frozen BK140.out 1; have hfz13_2 := blk_frozen BK140.out 2))
      (try simp only [Act.put, List.setIfInBounds_toArray, List.set_cons_zero, List.set_cons_succ])
      go_cut [30] (fun v30 wc => ∃ (kq : Nat) (x30_10 : Bool), v30 = .bool x30_10 ∧ Aside0 (down_part.j1 kq a1 a2 a3 x4_1 x11_1 l0 (l0.length : Int) x17_1 x30_10 ((rd_T31 l0 x17_1).f0) ((rd_T31 l0 x17_1).f1.f0) ((rd_T31 l0 x17_1).f1.f1) = some r) ∧ Aside0 (kq ≤ k1) ∧ Aside0 (Kd.S k53 53 wc w.heap.size (fun _ => True) u4 x4_1) ∧ Aside0 (wc.heap[gb140]? = some (.cells #[.int .i64 ((rd_T31 l0 x17_1).f0), .int .i64 ((rd_T31 l0 x17_1).f1.f0), .int .i64 ((rd_T31 l0 x17_1).f1.f1)] 31 (0, 0))) ∧ Aside0 (Below w.heap.size w wc))
      case first =>
       have H := HC11.out
       clear HC11
       by_cases c14 : ((rd_T31 l0 x17_1).f0) < a1
       ·rw [if_pos c14] at H
        have c14b0 : decide (((rd_T31 l0 x17_1).f0) < a1) = true := decide_eq_true c14
        clear c14
        (first | rw [c14b0] | rw [c14b1] | (simp only [i64_w, i32_w]; rw [c14b0]) | skip)
        have H' := Aside0.mk H
        clear H
        have hcz15_0 : w12.cell? ⟨gb140, 0, none⟩ = some (.int .i64 0) := (blk_cell BK140.out 0).trans rfl
        have hcz15_1 : w12.cell? ⟨gb140, 1, none⟩ = some (.int .i64 0) := (blk_cell BK140.out 1).trans rfl
        have hcz15_2 : w12.cell? ⟨gb140, 2, none⟩ = some (.int .i64 0) := (blk_cell BK140.out 2).trans rfl
        have hfz15_0 := blk_frozen BK140.out 0
        have hfz15_1 := blk_frozen BK140.out 1
        have hfz15_2 := blk_frozen BK140.out 2
        go_wp2
        go_meet
        case rel => exact ⟨_, (true), (by first | rfl | (simp; done) | (simp [*]; done)), H', ⟨by have := HK1.out; first | omega | exact Nat.le_refl _⟩, ⟨by (with_reducible repeat (first | apply Kd.S_alloc | apply Kd.S_drewN | apply Kd.S_drew)); exact Kd.S_mono (Kd.S_far (p := ⟨gb140, 2, none⟩) (Kd.S_far (p := ⟨gb140, 1, none⟩) (Kd.S_far (p := ⟨gb140, 0, none⟩) (Kd.S_types HO_4.out BK140.out (by decide)) (fun _ hk => hk.2) (.int .i64 ((rd_T31 l0 x17_1).f0))) (fun _ hk => hk.2) (.int .i64 ((rd_T31 l0 x17_1).f1.f0))) (fun _ hk => hk.2) (.int .i64 ((rd_T31 l0 x17_1).f1.f1))) (fun _ hk => trivial)⟩, ⟨by (with_reducible repeat (first | refine blk_drewN ?_ _ | refine blk_drew ?_ | refine blk_alloc ?_ _)); refine blk_put (cs := #[.int .i64 ((rd_T31 l0 x17_1).f0), .int .i64 ((rd_T31 l0 x17_1).f1.f0), .int .i64 0]) ?_ 2 _ rfl; (with_reducible repeat (first | refine blk_drewN ?_ _ | refine blk_drew ?_ | refine blk_alloc ?_ _)); refine blk_put (cs := #[.int .i64 ((rd_T31 l0 x17_1).f0), .int .i64 0, .int .i64 0]) ?_ 1 _ rfl; (with_reducible repeat (first | refine blk_drewN ?_ _ | refine blk_drew ?_ | refine blk_alloc ?_ _)); refine blk_put (cs := #[.int .i64 0, .int .i64 0, .int .i64 0]) ?_ 0 _ rfl; (with_reducible repeat (first | refine blk_drewN ?_ _ | refine blk_drew ?_ | refine blk_alloc ?_ _)); exact BK140.out⟩, ⟨(belS HB.out)⟩⟩
       ·rw [if_neg c14] at H
        have c14b0 : decide (((rd_T31 l0 x17_1).f0) < a1) = false := decide_eq_false c14
        clear c14
        (first | rw [c14b0] | rw [c14b1] | (simp only [i64_w, i32_w]; rw [c14b0]) | skip)
        have H' := Aside0.mk H
        clear H
        have hcz16_0 : w12.cell? ⟨gb140, 0, none⟩ = some (.int .i64 0) := (blk_cell BK140.out 0).trans rfl
        have hcz16_1 : w12.cell? ⟨gb140, 1, none⟩ = some (.int .i64 0) := (blk_cell BK140.out 1).trans rfl
        have hcz16_2 : w12.cell? ⟨gb140, 2, none⟩ = some (.int .i64 0) := (blk_cell BK140.out 2).trans rfl
        have hfz16_0 := blk_frozen BK140.out 0
        have hfz16_1 := blk_frozen BK140.out 1
        have hfz16_2 := blk_frozen BK140.out 2
        go_wp2
        go_meet
        case rel => exact ⟨_, (decide (((rd_T31 l0 x17_1).f0) > a2)), (by first | rfl | (simp; done) | (simp [*]; done)), H', ⟨by have := HK1.out; first | omega | exact Nat.le_refl _⟩, ⟨by (with_reducible repeat (first | apply Kd.S_alloc | apply Kd.S_drewN | apply Kd.S_drew)); exact Kd.S_mono (Kd.S_far (p := ⟨gb140, 2, none⟩) (Kd.S_far (p := ⟨gb140, 1, none⟩) (Kd.S_far (p := ⟨gb140, 0, none⟩) (Kd.S_types HO_4.out BK140.out (by decide)) (fun _ hk => hk.2) (.int .i64 ((rd_T31 l0 x17_1).f0))) (fun _ hk => hk.2) (.int .i64 ((rd_T31 l0 x17_1).f1.f0))) (fun _ hk => hk.2) (.int .i64 ((rd_T31 l0 x17_1).f1.f1))) (fun _ hk => trivial)⟩, ⟨by (with_reducible repeat (first | refine blk_drewN ?_ _ | refine blk_drew ?_ | refine blk_alloc ?_ _)); refine blk_put (cs := #[.int .i64 ((rd_T31 l0 x17_1).f0), .int .i64 ((rd_T31 l0 x17_1).f1.f0), .int .i64 0]) ?_ 2 _ rfl; (with_reducible repeat (first | refine blk_drewN ?_ _ | refine blk_drew ?_ | refine blk_alloc ?_ _)); refine blk_put (cs := #[.int .i64 ((rd_T31 l0 x17_1).f0), .int .i64 0, .int .i64 0]) ?_ 1 _ rfl; (with_reducible repeat (first | refine blk_drewN ?_ _ | refine blk_drew ?_ | refine blk_alloc ?_ _)); refine blk_put (cs := #[.int .i64 0, .int .i64 0, .int .i64 0]) ?_ 0 _ rfl; (with_reducible repeat (first | refine blk_drewN ?_ _ | refine blk_drew ?_ | refine blk_alloc ?_ _)); exact BK140.out⟩, ⟨(belS HB.out)⟩⟩
      case rest =>
       clear HC11
       try clear c1
       try clear p1
       try clear q1
       try clear hx1
       try clear c2
       try clear p2
       try clear c4
       try clear c8
       try clear c8b0
       try clear c9
       try clear c9b0
       try clear c10
       try clear c10b0
       try clear p13
       try clear q13
       try clear hx13
       try clear c14
       try clear c14b0
       try clear hcz13_0
       try clear hcz13_1
       try clear hcz13_2
       try clear hcz15_0
       try clear hcz15_1
       try clear hcz15_2
       try clear hcz16_0
       try clear hcz16_1
       try clear hcz16_2
       try clear hfz13_0
       try clear hfz13_1
       try clear hfz13_2
       try clear hfz15_0
       try clear hfz15_1
       try clear hfz15_2
       try clear hfz16_0
       try clear hfz16_1
       try clear hfz16_2
       try clear hx139_0
       try clear hx139_1
       try clear hx139_2
       try clear p139
       try clear p2
       try clear q139
       obtain ⟨kq, x30_10, rfl, HA, HJ10, HO_4, BK140, HB⟩ := hcut
       cases kq with
       | zero => exact absurd HA.out (by simp [down_part.j1])
       | succ kj10 =>
        have H := HA.out
        clear HA
        simp only [down_part.j1] at H
        by_cases c17 : x30_10 = true
        ·subst c17
         have H1 : (down_part.l0 kj10 a1 a2 a3 x4_1 x11_1 l0 (l0.length : Int) (wrap64 (x17_1 + 1))) = some r := by rw [if_pos rfl] at H; exact H
         clear H
         have H := H1
         clear H1
         have H' := Aside0.mk H
         clear H
         go_wp2
         go_roundg kj10
         case measure => have := HK1.out; have := HJ10.out; omega
         case rel => exact ⟨(x4_1), (x11_1), (wrap64 (x17_1 + 1)), (by first | rfl | (simp; done) | (simp [*]; done)), (by first | rfl | (simp; done) | (simp [*]; done)), H', ⟨by have := HK1.out; have := HJ10.out; omega⟩, ⟨by (with_reducible repeat (first | apply Kd.S_alloc | apply Kd.S_drewN | apply Kd.S_drew)); exact HO_4.out⟩, ⟨(belS HB.out)⟩⟩
        ·replace c17 := Bool.eq_false_iff.mpr c17
         subst c17
         have H1 : ((down_Bucket.f ((rd_T31 l0 x17_1).f0) a3).bind fun t141 => (down_part.l1 kj10 a1 a2 a3 x4_1 x11_1 t141 l0 (l0.length : Int) x17_1 ((rd_T31 l0 x17_1).f0) ((rd_T31 l0 x17_1).f1.f0) ((rd_T31 l0 x17_1).f1.f1))) = some r := by rw [if_neg (show ¬ (false = true) by decide)] at H; exact H
         clear H
         have H := H1
         clear H1
         replace H := Option.bind_eq_some_iff.mp H
         obtain ⟨t141, A180, H⟩ := H
         replace H : (down_part.l1 kj10 a1 a2 a3 x4_1 x11_1 t141 l0 (l0.length : Int) x17_1 ((rd_T31 l0 x17_1).f0) ((rd_T31 l0 x17_1).f1.f0) ((rd_T31 l0 x17_1).f1.f1)) = some r := H
         have A18 := Aside0.mk A180
         clear A180
         have H' := Aside0.mk H
         clear H
         have hcz19_0 : wc.cell? ⟨gb140, 0, none⟩ = some (.int .i64 ((rd_T31 l0 x17_1).f0)) := (blk_cell BK140.out 0).trans rfl
         have hcz19_1 : wc.cell? ⟨gb140, 1, none⟩ = some (.int .i64 ((rd_T31 l0 x17_1).f1.f0)) := (blk_cell BK140.out 1).trans rfl
         have hcz19_2 : wc.cell? ⟨gb140, 2, none⟩ = some (.int .i64 ((rd_T31 l0 x17_1).f1.f1)) := (blk_cell BK140.out 2).trans rfl
         have hfz19_0 := blk_frozen BK140.out 0
         have hfz19_1 := blk_frozen BK140.out 1
         have hfz19_2 := blk_frozen BK140.out 2
         go_wp2_with (first | ((with_reducible refine gate_callee (f := 9) rfl ?_); refine goesL_ (some 34) rfl rfl Try.func9 (by kernel_rfl) rfl #[.int .i64 ((rd_T31 l0 x17_1).f0), .int .i64 a3] rfl argN ?_; (with_reducible refine (down_Bucket.calls ((rd_T31 l0 x17_1).f0) a3 t141 _ A18.out).mono ?_); rintro e w' ⟨rfl, ⟨nd, rfl⟩⟩; refine ⟨_, rfl, ?_⟩))
         go_loopg [11] kj10 (fun kq v11 w' => ∃ (x11_3 : Int), v11 = .int .i64 x11_3 ∧ Aside0 (down_part.l1 kq a1 a2 a3 x4_1 x11_3 t141 l0 (l0.length : Int) x17_1 ((rd_T31 l0 x17_1).f0) ((rd_T31 l0 x17_1).f1.f0) ((rd_T31 l0 x17_1).f1.f1) = some r) ∧ Aside0 (kq ≤ kj10) ∧ Aside0 (Kd.S k53 53 w' w.heap.size (fun _ => True) u4 x4_1) ∧ Aside0 (w'.heap[gb140]? = some (.cells #[.int .i64 ((rd_T31 l0 x17_1).f0), .int .i64 ((rd_T31 l0 x17_1).f1.f0), .int .i64 ((rd_T31 l0 x17_1).f1.f1)] 31 (0, 0))) ∧ Aside0 (Below w.heap.size w w'))
         case atStart => exact ⟨(x11_1), (by first | rfl | (simp; done) | (simp [*]; done)), H', ⟨Nat.le_refl _⟩, ⟨by (with_reducible repeat (first | apply Kd.S_alloc | apply Kd.S_drewN | apply Kd.S_drew)); exact HO_4.out⟩, ⟨blkN BK140.out⟩, ⟨(belS HB.out)⟩⟩
         case round =>
          clear H'
          try clear c1
          try clear p1
          try clear q1
          try clear hx1
          try clear c2
          try clear p2
          try clear c4
          try clear p6
          try clear c8
          try clear c8b0
          try clear c9
          try clear c9b0
          try clear c10
          try clear c10b0
          try clear p13
          try clear q13
          try clear hx13
          try clear c14
          try clear c14b0
          try clear c17
          try clear hcz13_0
          try clear hcz13_1
          try clear hcz13_2
          try clear hcz15_0
          try clear hcz15_1
          try clear hcz15_2
          try clear hcz16_0
          try clear hcz16_1
          try clear hcz16_2
          try clear hcz19_0
          try clear hcz19_1
          try clear hcz19_2
          try clear hfz13_0
          try clear hfz13_1
          try clear hfz13_2
          try clear hfz15_0
          try clear hfz15_1
          try clear hfz15_2
          try clear hfz16_0
          try clear hfz16_1
          try clear hfz16_2
          try clear hfz19_0
          try clear hfz19_1
          try clear hfz19_2
          try clear hx139_0
          try clear hx139_1
          try clear hx139_2
          try clear p1
          try clear p13
          try clear p139
          try clear p2
          try clear q1
          try clear q13
          try clear q139
          obtain ⟨x11_3, rfl, HA, HK3, HO_4, BK140, HB⟩ := hrel
          cases gk with
          | zero => exact absurd HA.out (by simp [down_part.l1])
          | succ k3 =>
           have H := HA.out
           clear HA
           simp only [down_part.l1] at H
           by_cases c20 : x11_3 < (x4_1.length : Int)
           ·rw [if_pos c20] at H
            have c20b0 : decide (x11_3 < (x4_1.length : Int)) = true := decide_eq_true c20
            clear c20
            by_cases c21 : 0 ≤ x11_3
            ·rw [if_pos c21] at H
             have c21b0 : decide (0 ≤ x11_3) = true := decide_eq_true c21
             clear c21
             by_cases c22 : ((rd_T53 x4_1 x11_3).f0) < t141
             ·rw [if_pos c22] at H
              have c22b0 : decide (((rd_T53 x4_1 x11_3).f0) < t141) = true := decide_eq_true c22
              clear c22
              have H' := Aside0.mk H
              clear H
              obtain ⟨Ao23, co23, eo23⟩ := Kd.S_slice HO_4.out
              subst eo23
              have p142 : 0 ≤ (x11_3 : Int) := of_decide_eq_true (by first | (with_reducible assumption) | assumption)
              have q142 : x11_3 < (x4_1.length : Int) := of_decide_eq_true (by first | (with_reducible assumption) | assumption)
              obtain ⟨ad142, A142_1, c142_1, e142, hx142_0, hx142_1, hl142_1, hi142_1⟩ := at_T53 (Kd.S_reads' HO_4.out).2.2 x11_3 p142 q142
              cases e142
              obtain ⟨ce142, hce142, hMe142, hcc142⟩ := Kd.S_get HO_4.out z53 x11_3 p142 (by first | exact q142 | exact of_decide_eq_true (by first | (with_reducible assumption) | assumption) | (have e_ := (Kd.S_reads' HO_4.out).1; omega))
              obtain ⟨ve142_1, rfl, ge142_1⟩ := k53_openM hMe142
              have hv142_1 := hcc142 1 _ rfl
              rw [add_field _ _ 1 (by omega)] at hv142_1
              replace hv142_1 := Option.some.inj (hv142_1.symm.trans hx142_1)
              rw [hv142_1] at ge142_1
              have HL142_1 := Aside0.mk (show Kd.R k29 29 _ _ _ _ ((rd_T53 x4_1 x11_3).f1) from ge142_1)
              clear hv142_1 ge142_1
              have HX142_1 := Aside0.mk hx142_1
              clear hcc142 hce142
              have HR142_1 := Aside0.mk hi142_1
              have HC142_1 := Aside0.mk hl142_1
              clear hi142_1 hl142_1
              replace p142 := eq_true p142
              replace q142 := eq_true q142
              go_wp2
              go_roundg k3
              case measure => have := HK1.out; have := HJ10.out; have := HK3.out; omega
              case rel => exact ⟨(wrap64 (x11_3 + 1)), (by first | rfl | (simp; done) | (simp [*]; done)), H', ⟨by have := HK1.out; have := HJ10.out; have := HK3.out; omega⟩, ⟨by (with_reducible repeat (first | apply Kd.S_alloc | apply Kd.S_drewN | apply Kd.S_drew)); exact HO_4.out⟩, ⟨blkN BK140.out⟩, ⟨(belS HB.out)⟩⟩
             ·rw [if_neg c22] at H
              have c22b0 : decide (((rd_T53 x4_1 x11_3).f0) < t141) = false := decide_eq_false c22
              clear c22
              by_cases c24 : x11_3 = (x4_1.length : Int)
              ·rw [if_pos c24] at H
               have c24b0 : (x11_3 == (x4_1.length : Int)) = true := beq_iff_eq.mpr c24
               have c24b1 : (x11_3 != (x4_1.length : Int)) = false := bne_eq_false_iff_eq.mpr c24
               clear c24
               by_cases c25 : x4_1.length < 4398046511104
               ·rw [if_pos c25] at H
                have LMc25 := Aside0.mk c25
                clear c25
                obtain ⟨y143, hy143⟩ : ∃ y_ : List (S53), y_ = (x4_1 ++ [(⟨t141, ([] : List (S29))⟩ : S53)]) := ⟨_, rfl⟩
                replace H : (if x11_3 < (y143.length : Int) then (if ((rd_T53 y143 x11_3).f1).length < 8796093022208 then (down_part.l0 k3 a1 a2 a3 (y143.set (x11_3 : Int).toNat (⟨(rd_T53 y143 x11_3).f0, (((rd_T53 y143 x11_3).f1) ++ [(⟨((rd_T31 l0 x17_1).f1.f0), ((rd_T31 l0 x17_1).f1.f1)⟩ : S29)])⟩ : S53)) x11_3 l0 (l0.length : Int) (wrap64 (x17_1 + 1))) else (none)) else (none)) = some r := by first | (rw [hy143]; with_reducible exact H) | (have H2_ := (Option.bind_some _ _).symm.trans H; rw [hy143]; with_reducible exact H2_) | (have H2_ := (Option.bind_some _ _).symm.trans H; with_reducible exact H2_) | with_reducible exact H | (rw [hy143]; exact H) | exact H
                have Ny143 := Aside0.mk hy143
                clear hy143
                by_cases c26 : x11_3 < (y143.length : Int)
                ·rw [if_pos c26] at H
                 have c26b0 : decide (x11_3 < (y143.length : Int)) = true := decide_eq_true c26
                 clear c26
                 by_cases c27 : ((rd_T53 y143 x11_3).f1).length < 8796093022208
                 ·rw [if_pos c27] at H
                  have LMc27 := Aside0.mk c27
                  clear c27
                  obtain ⟨y147, hy147⟩ : ∃ y_ : List (S29), y_ = (((rd_T53 y143 x11_3).f1) ++ [(⟨((rd_T31 l0 x17_1).f1.f0), ((rd_T31 l0 x17_1).f1.f1)⟩ : S29)]) := ⟨_, rfl⟩
                  replace H : (down_part.l0 k3 a1 a2 a3 (y143.set (x11_3 : Int).toNat (⟨(rd_T53 y143 x11_3).f0, y147⟩ : S53)) x11_3 l0 (l0.length : Int) (wrap64 (x17_1 + 1))) = some r := by first | (rw [hy147]; with_reducible exact H) | (have H2_ := (Option.bind_some _ _).symm.trans H; rw [hy147]; with_reducible exact H2_) | (have H2_ := (Option.bind_some _ _).symm.trans H; with_reducible exact H2_) | with_reducible exact H | (rw [hy147]; exact H) | exact H
                  have Ny147 := Aside0.mk hy147
                  clear hy147
                  obtain ⟨y150, hy150⟩ : ∃ y_ : List (S53), y_ = (y143.set (x11_3 : Int).toNat (⟨(rd_T53 y143 x11_3).f0, y147⟩ : S53)) := ⟨_, rfl⟩
                  replace H : (down_part.l0 k3 a1 a2 a3 y150 x11_3 l0 (l0.length : Int) (wrap64 (x17_1 + 1))) = some r := by first | (rw [hy150]; with_reducible exact H) | (have H2_ := (Option.bind_some _ _).symm.trans H; rw [hy150]; with_reducible exact H2_) | (have H2_ := (Option.bind_some _ _).symm.trans H; with_reducible exact H2_) | with_reducible exact H | (rw [hy150]; exact H) | exact H
                  have Ny150 := Aside0.mk hy150
                  clear hy150
                  have H' := Aside0.mk H
                  clear H
                  obtain ⟨Ao29, co29, eo29⟩ := Kd.S_slice HO_4.out
                  subst eo29
                  have p142 : 0 ≤ (x11_3 : Int) := of_decide_eq_true (by first | (with_reducible assumption) | assumption)
                  have q142 : x11_3 < (x4_1.length : Int) := of_decide_eq_true (by first | (with_reducible assumption) | assumption)
                  obtain ⟨ad142, A142_1, c142_1, e142, hx142_0, hx142_1, hl142_1, hi142_1⟩ := at_T53 (Kd.S_reads' HO_4.out).2.2 x11_3 p142 q142
                  cases e142
                  obtain ⟨ce142, hce142, hMe142, hcc142⟩ := Kd.S_get HO_4.out z53 x11_3 p142 (by first | exact q142 | exact of_decide_eq_true (by first | (with_reducible assumption) | assumption) | (have e_ := (Kd.S_reads' HO_4.out).1; omega))
                  obtain ⟨ve142_1, rfl, ge142_1⟩ := k53_openM hMe142
                  have hv142_1 := hcc142 1 _ rfl
                  rw [add_field _ _ 1 (by omega)] at hv142_1
                  replace hv142_1 := Option.some.inj (hv142_1.symm.trans hx142_1)
                  rw [hv142_1] at ge142_1
                  have HL142_1 := Aside0.mk (show Kd.R k29 29 _ _ _ _ ((rd_T53 x4_1 x11_3).f1) from ge142_1)
                  clear hv142_1 ge142_1
                  have HX142_1 := Aside0.mk hx142_1
                  clear hcc142 hce142
                  have HR142_1 := Aside0.mk hi142_1
                  have HC142_1 := Aside0.mk hl142_1
                  clear hi142_1 hl142_1
                  replace p142 := eq_true p142
                  replace q142 := eq_true q142
                  try go_wp2_with (first | ((with_reducible refine gate_builtin (b := .append) (xs := #[.tmp 54, .tmp 57]) rfl ?_); at_builtin; refine Kd.S_append k53 (w0 := w) w.heap.size rfl (.tmp 54) (.tmp 57) 49 53 (.agg #[(.int .i64 0), (.slice none 0 0)]) 32 rfl Try.underlying49 info53 rfl (by decide) (by omega) (.slice (some ad142) x4_1.length co29) x4_1 (⟨t141, ([] : List (S29))⟩ : S53) [.int .i64 t141, .slice none 0 0] (fun _ => True) (fun _ => False) rfl rfl ?aP (fun k_ hk_ => hk_.elim) ?aF ?aO ?aB ?aS ?aL ?_; (case aP => exact k53_mkM _ _ _ (⟨t141, ([] : List (S29))⟩ : S53) (Kd.R_nil _ _ _ _ _)); (case aB => exact (belS HB.out)); (case aF => exact (fun _ _ => trivial)); (case aO => exact (by (with_reducible repeat (first | apply Kd.S_alloc | apply Kd.S_drewN | apply Kd.S_drew)); exact Kd.S_mono HO_4.out (fun k_ hk => ⟨trivial, fun e_ => e_⟩))); (case aS => exact (below_size (belS HB.out))); (case aL => have := LMc25.out; omega); intro v144 w30 ho hb hg hat; rw [← Ny143.out] at ho; have n0_ := Aside0.mk (blk_grown (g := gb140) (o := .cells #[.int .i64 ((rd_T31 l0 x17_1).f0), .int .i64 ((rd_T31 l0 x17_1).f1.f0), .int .i64 ((rd_T31 l0 x17_1).f1.f1)] 31 (0, 0)) (blkN BK140.out) hg (Kd.S_ne HO_4.out BK140.out (by decide))); have n1_ := Aside0.mk (Kd.R_after (ok := (fun _ => True)) (rowN HL142_1.out) hg hat); have n2_ := Aside0.mk (hb); have n3_ := Aside0.mk (ho); clear BK140; clear HL142_1; clear HB; clear HO_4; have BK140 := n0_; have HL142_1 := n1_; have HB := n2_; have HO145 := n3_; clear n0_ n1_ n2_ n3_; clear ho hb hg hat))
                  have n0_ := Aside0.mk (Kd.R_drew HL142_1.out)
                  have n1_ := Aside0.mk (Kd.S_drew HO145.out)
                  have n2_ := Aside0.mk (blk_drew BK140.out)
                  have n3_ := Aside0.mk (below_drew1 HB.out)
                  clear HL142_1
                  clear HO145
                  clear BK140
                  clear HB
                  have HL142_1 := n0_
                  have HO145 := n1_
                  have BK140 := n2_
                  have HB := n3_
                  clear n0_ n1_ n2_ n3_
                  obtain ⟨Ao32, co32, eo32⟩ := Kd.S_slice HO145.out
                  (first | subst eo32 | (injection eo32 with f1_ f2_ f3_; have f4_ := f1_.symm; have f5_ := f3_.symm; clear f1_ f2_ f3_; subst f4_; subst f5_))
                  have p146 : 0 ≤ (x11_3 : Int) := of_decide_eq_true (by first | (with_reducible assumption) | assumption)
                  have q146 : x11_3 < (y143.length : Int) := of_decide_eq_true (by first | (with_reducible assumption) | assumption)
                  obtain ⟨ad146, A146_1, c146_1, e146, hx146_0, hx146_1, hl146_1, hi146_1⟩ := at_T53 (Kd.S_reads' HO145.out).2.2 x11_3 p146 q146
                  cases e146
                  obtain ⟨ce146, hce146, hMe146, hcc146⟩ := Kd.S_get HO145.out z53 x11_3 p146 (by first | exact q146 | exact of_decide_eq_true (by first | (with_reducible assumption) | assumption) | (have e_ := (Kd.S_reads' HO145.out).1; omega))
                  obtain ⟨ve146_1, rfl, ge146_1⟩ := k53_openM hMe146
                  have hv146_1 := hcc146 1 _ rfl
                  rw [add_field _ _ 1 (by omega)] at hv146_1
                  replace hv146_1 := Option.some.inj (hv146_1.symm.trans hx146_1)
                  rw [hv146_1] at ge146_1
                  have HL146_1 := Aside0.mk (show Kd.R k29 29 _ _ _ _ ((rd_T53 y143 x11_3).f1) from ge146_1)
                  clear hv146_1 ge146_1
                  have HX146_1 := Aside0.mk hx146_1
                  clear hcc146 hce146
                  have HR146_1 := Aside0.mk hi146_1
                  have HC146_1 := Aside0.mk hl146_1
                  clear hi146_1 hl146_1
                  replace p146 := eq_true p146
                  replace q146 := eq_true q146
                  obtain ⟨go33, co33, eo33, gb33, gl33, cl33, HG33⟩ := Kd.S_form HO145.out (by have h_ : (x11_3 : Int) < ((y143.length : Int) : Int) := of_decide_eq_true (by first | (with_reducible assumption) | assumption); have h2_ : 0 ≤ (x11_3 : Int) := (of_decide_eq_true (by first | (with_reducible assumption) | assumption)); omega)
                  (first | cases eo33 | (injection eo33 with ea_ en_ ec_; (first | subst ea_ | (injection ea_ with ea_; subst ea_)); subst ec_; clear en_))
                  have GB33 := Aside0.mk gb33
                  have GG33 := Aside0.mk HG33
                  clear gb33 gl33 HG33
                  (first | simp only [add_plain] at hx146_0 | skip)
                  (first | simp only [add_plain] at hx146_1 | skip)
                  obtain ⟨oki33, ce33, hcl33, hM33, hcc33, _, _, hH33⟩ := Kd.S_elem HO145.out z53 (x11_3 : Int) (of_decide_eq_true (by first | (with_reducible assumption) | assumption)) (by have h_ : (x11_3 : Int) < ((y143.length : Int) : Int) := of_decide_eq_true (by first | (with_reducible assumption) | assumption); first | exact h_ | (have e_ := (Kd.S_reads' HO145.out).1; omega) | simpa using h_)
                  obtain ⟨ve33_1, rfl, ge33_1⟩ := k53_openM hM33
                  have hv33 := hcc33 1 _ rfl
                  have hX33 := HX146_1.out
                  (try simp only [add_plain] at hX33)
                  (try simp only [Nat.add_zero] at hv33)
                  replace hv33 := Option.some.inj (hv33.symm.trans hX33)
                  subst hv33
                  clear hX33 hcc33 hcl33
                  have UU33 := Aside0.mk (show Kd.R k29 29 _ w.heap.size oki33 (.slice A146_1 ((rd_T53 y143 x11_3).f1).length c146_1) ((rd_T53 y143 x11_3).f1) from ge33_1)
                  have HH33 := Aside0.mk hH33
                  have HN33 := Aside0.mk (Kd.S_reads' HO145.out).1
                  clear hH33 ge33_1
                  refine start_ (n := 14) (S := fun w' => w'.cell? ⟨gb140, 0, none⟩ = some (.int .i64 ((rd_T31 l0 x17_1).f0)) ∧ w'.cell? ⟨gb140, 1, none⟩ = some (.int .i64 ((rd_T31 l0 x17_1).f1.f0)) ∧ w'.cell? ⟨gb140, 2, none⟩ = some (.int .i64 ((rd_T31 l0 x17_1).f1.f1)) ∧ w'.cell? ⟨go33, ((x11_3).toNat * 2), none⟩ = some (.int .i64 ((rd_T53 y143 x11_3).f0)) ∧ w'.cell? ⟨go33, ((x11_3).toNat * 2) + 1, none⟩ = some (.slice A146_1 ((rd_T53 y143 x11_3).f1).length c146_1)) (ds := [13]) #[false, false, false, false, false, false, false, false, false, false, false, false, false, false] (by kernel_rfl) rfl rfl ⟨(blk_cell BK140.out 0).trans rfl, (blk_cell BK140.out 1).trans rfl, (blk_cell BK140.out 2).trans rfl, hx146_0, hx146_1⟩ (fun hHeld => ?_); refine with_tabW down_part.tab11 down_part.bits11 (fun HT_ HW_ => ?_)
                  generalize w30.drew = w31 at HL142_1 HO145 BK140 HB GG33 HH33 HL146_1 HR146_1 HX146_1 UU33 hx146_0 hx146_1 hHeld ⊢
                  refine pA 0 (some 59) (bA 14 1) HT_.out ?_
                  refine pA 1 (some 60) (bA 14 3) HT_.out ?_
                  refine pA 2 (some 61) (bA 14 7) HT_.out ?_
                  refine pA 3 (some 62) (bA 14 15) HT_.out ?_
                  refine pA 4 (some 63) (bA 14 31) HT_.out ?_
                  refine pA 5 (some 64) (bA 14 63) HT_.out ?_
                  refine pA 7 (some 66) (bA 14 191) HT_.out ?_
                  refine take_ (i := 6) (N := some 65) (v := ?_) (a' := ?_) (bA 14 255) rfl rfl (take_ofW HT_.out HW_.out (by kernel_rfl)) (fun _ _ _ h => h) (Or.inl ⟨by rfl, ?_⟩) hHeld ?_ ?_
                  rotate_left
                  ·rintro w' ⟨s0, s1, s2, s3, s4⟩
                   go_simp
                   with_reducible rfl
                  rotate_left
                  ·simp only [Act.put, List.setIfInBounds_toArray, List.set_cons_zero, List.set_cons_succ, i64_w, i32_w]
                   rfl
                  refine take_ (i := 8) (N := some 67) (v := ?_) (a' := ?_) (bA 14 511) rfl rfl (take_ofW HT_.out HW_.out (by kernel_rfl)) (fun _ _ _ h => h) (Or.inl ⟨by rfl, ?_⟩) hHeld ?_ ?_
                  rotate_left
                  ·rintro w' ⟨s0, s1, s2, s3, s4⟩
                   go_simp
                   with_reducible rfl
                  rotate_left
                  ·simp only [Act.put, List.setIfInBounds_toArray, List.set_cons_zero, List.set_cons_succ, i64_w, i32_w]
                   rfl
                  refine one_ (i := 9) (N := some 68) (bA 14 1023) rfl rfl (one_of HT_.out (by kernel_rfl)) (by decide) (fun K hK => ?_)
                  refine value_ (w1 := ?_) (v := ?_) (by rfl) rfl ?_ ?_
                  rotate_left 2
                  ·go_simp
                   constructor
                   ·rfl
                   ·rfl
                  refine hK.out _ _ ⟨(blk_cell (blk_alloc BK140.out _) 0).trans rfl, (blk_cell (blk_alloc BK140.out _) 1).trans rfl, (blk_cell (blk_alloc BK140.out _) 2).trans rfl, (World.cell?_alloc_lt _ _ _ (World.block_lt_of_cell? _ _ (hHeld.2.2.2.1))).trans (hHeld.2.2.2.1), (World.cell?_alloc_lt _ _ _ (World.block_lt_of_cell? _ _ (hHeld.2.2.2.2))).trans (hHeld.2.2.2.2)⟩ (fun hHeld => ?_)
                  clear hK K
                  refine norm_ (a' := ?_) ?_ ?_
                  rotate_left
                  ·show Act.put _ (some 68) _ = _
                   simp only [Act.put, List.setIfInBounds_toArray, List.set_cons_zero, List.set_cons_succ, i64_w, i32_w]
                   rfl
                  refine one_ (i := 10) (N := some 69) (bA 14 2047) rfl rfl (one_of HT_.out (by kernel_rfl)) (by decide) (fun K hK => ?_)
                  refine Kd.R_append_step k29 (w0 := w) w.heap.size (by rfl) (.tmp 65) (.tmp 68) 43 29 (.agg #[(.int .i64 0), (.int .i64 0)]) 16 rfl Try.underlying43 info29 rfl (by decide) (by omega) (.slice A146_1 ((rd_T53 y143 x11_3).f1).length c146_1) ((rd_T53 y143 x11_3).f1) (⟨((rd_T31 l0 x17_1).f1.f0), ((rd_T31 l0 x17_1).f1.f1)⟩ : S29) [.int .i64 ((rd_T31 l0 x17_1).f1.f0), .int .i64 ((rd_T31 l0 x17_1).f1.f1)] (fun k_ => oki33 k_ ∨ ((fun _ => True)) k_ ∧ w31.heap.size ≤ k_) (fun _ => False) rfl rfl ?aP (fun _ hk => hk.elim) ?aF ?aO ?aB ?aS ?aL ?_
                  (case aP => exact k29_mkM _ _ _ (⟨((rd_T31 l0 x17_1).f1.f0), ((rd_T31 l0 x17_1).f1.f1)⟩ : S29))
                  (case aB => exact (belS HB.out))
                  (case aF => exact (fun k_ hk => .inr ⟨trivial, hk⟩))
                  (case aO => exact (by (with_reducible repeat (first | apply Kd.R_alloc | apply Kd.R_drewN | apply Kd.R_drew)); exact Kd.R_mono UU33.out (fun _ hk => .inl hk)))
                  (case aS => exact (below_size (belS HB.out)))
                  (case aL => have := LMc27.out; omega)
                  intro v148 w34 ho hb hg hat
                  (first | have HS3_ := cell_grown hg (hHeld.2.2.2.1) (by first | (rw [add_block]; exact (fun e_ => ((HL146_1.out.1 _ e_.symm).2) rfl)) | (show some (Addr.add _ _).block ≠ _; rw [add_block]; exact (fun e_ => ((HL146_1.out.1 _ e_.symm).2) rfl)) | exact (fun e_ => ((HL146_1.out.1 _ e_.symm).2) rfl)) | have HS3_ := cell_grown hg (cell_unalloc (hHeld.2.2.2.1) (by first | (rw [add_block]; exact Kd.S_lt HO145.out _ rfl) | (show (Addr.add _ _).block < _; rw [add_block]; exact Kd.S_lt HO145.out _ rfl) | exact Kd.S_lt HO145.out _ rfl)) (by first | (rw [add_block]; exact (fun e_ => ((HL146_1.out.1 _ e_.symm).2) rfl)) | (show some (Addr.add _ _).block ≠ _; rw [add_block]; exact (fun e_ => ((HL146_1.out.1 _ e_.symm).2) rfl)) | exact (fun e_ => ((HL146_1.out.1 _ e_.symm).2) rfl)))
                  (first | have HS4_ := cell_grown hg (hHeld.2.2.2.2) (by first | (rw [add_block]; exact (fun e_ => ((HL146_1.out.1 _ e_.symm).2) rfl)) | (show some (Addr.add _ _).block ≠ _; rw [add_block]; exact (fun e_ => ((HL146_1.out.1 _ e_.symm).2) rfl)) | exact (fun e_ => ((HL146_1.out.1 _ e_.symm).2) rfl)) | have HS4_ := cell_grown hg (cell_unalloc (hHeld.2.2.2.2) (by first | (rw [add_block]; exact Kd.S_lt HO145.out _ rfl) | (show (Addr.add _ _).block < _; rw [add_block]; exact Kd.S_lt HO145.out _ rfl) | exact Kd.S_lt HO145.out _ rfl)) (by first | (rw [add_block]; exact (fun e_ => ((HL146_1.out.1 _ e_.symm).2) rfl)) | (show some (Addr.add _ _).block ≠ _; rw [add_block]; exact (fun e_ => ((HL146_1.out.1 _ e_.symm).2) rfl)) | exact (fun e_ => ((HL146_1.out.1 _ e_.symm).2) rfl)))
                  rw [← Ny147.out] at ho
                  have n0_ := Aside0.mk (blk_grown (g := gb140) (o := .cells #[.int .i64 ((rd_T31 l0 x17_1).f0), .int .i64 ((rd_T31 l0 x17_1).f1.f0), .int .i64 ((rd_T31 l0 x17_1).f1.f1)] 31 (0, 0)) (blkN BK140.out) hg (Kd.R_ne HL146_1.out BK140.out (by decide)))
                  have n1_ := Aside0.mk (hb)
                  have n2_ := Aside0.mk (Kd.H_grown (Kd.H_widen (by repeat (first | exact HH33.out | refine Kd.H_alloc ?_ _ | refine Kd.H_drewN ?_ _ | refine Kd.H_drew ?_))) hg (fun k_ e_ => .inl (UU33.out.1 k_ e_)))
                  have n3_ := Aside0.mk (ho)
                  clear BK140
                  clear HB
                  clear HH33
                  clear HO145
                  clear UU33
                  clear HL142_1
                  clear HL146_1
                  have BK140 := n0_
                  have HB := n1_
                  have HH33 := n2_
                  have HO149 := n3_
                  clear n0_ n1_ n2_ n3_
                  clear ho hb hg hat
                  have p28 : 0 ≤ (x11_3 : Int) := of_decide_eq_true (by first | (with_reducible assumption) | assumption)
                  have q28 : (x11_3 : Int) < ((y143.length : Int) : Int) := of_decide_eq_true (by first | (with_reducible assumption) | assumption)
                  replace p28 := eq_true p28
                  replace q28 := eq_true q28
                  obtain ⟨Ao37, co37, eo37⟩ := Kd.R_slice HO149.out
                  (first | subst eo37 | (injection eo37 with f1_ f2_ f3_; have f4_ := f1_.symm; have f5_ := f3_.symm; clear f1_ f2_ f3_; subst f4_; subst f5_))
                  obtain ⟨_, _, hraw35, _, _, hcc35, _⟩ := Kd.H_raw HH33.out (of_decide_eq_true (by first | (with_reducible assumption) | assumption)) (by have h_ : (x11_3 : Int) < ((y143.length : Int) : Int) := of_decide_eq_true (by first | (with_reducible assumption) | assumption); first | exact h_ | (have e_ := (HN33.out); omega) | simpa using h_)
                  obtain ⟨_, hfr35⟩ := Kd.H_at HH33.out (of_decide_eq_true (by first | (with_reducible assumption) | assumption)) (by have h_ : (x11_3 : Int) < ((y143.length : Int) : Int) := of_decide_eq_true (by first | (with_reducible assumption) | assumption); first | exact h_ | (have e_ := (HN33.out); omega) | simpa using h_)
                  have hx35_0 := hcc35 1 _ rfl
                  have hf35_0 := hfr35 1
                  (try rw [show (k53).sz = 2 from rfl] at hx35_0)
                  (try rw [show (k53).sz = 2 from rfl] at hf35_0)
                  have HP35 := Kd.S_seg0 HH33.out (of_decide_eq_true (by first | (with_reducible assumption) | assumption)) (by have h_ : (x11_3 : Int) < ((y143.length : Int) : Int) := of_decide_eq_true (by first | (with_reducible assumption) | assumption); first | exact h_ | (have e_ := (HN33.out); omega) | simpa using h_) (seg := [.slice Ao37 y147.length co37]) (j := 1) (show 2 ≤ 2 from by decide) (x' := (⟨(rd_T53 y143 x11_3).f0, y147⟩ : S53)) (k53_mkM _ _ _ (⟨(rd_T53 y143 x11_3).f0, y147⟩ : S53) HO149.out) (fun _ hk => hk)
                  clear hcc35 hfr35
                  have HNB140_go33 := Aside0.mk (show gb140 ≠ go33 from by have h_ := Kd.R_ne hraw35 BK140.out (by decide); intro e_; exact h_ (by rw [e_]; rfl))
                  have HS35 := HP35.1
                  rw [← Ny150.out] at HS35
                  have HQ35 := Aside0.mk HS35
                  obtain ⟨_, hgg35⟩ := Kd.R_typed hraw35 go33 rfl
                  have GG35_ := Aside0.mk hgg35
                  clear HP35 HS35 hgg35
                  refine hK.out _ _ ⟨(blk_cell BK140.out 0).trans rfl, (blk_cell BK140.out 1).trans rfl, (blk_cell BK140.out 2).trans rfl, HS3_, HS4_⟩ (fun hHeld => ?_)
                  clear hK K
                  refine norm_ (a' := ?_) ?_ ?_
                  rotate_left
                  ·show Act.put _ (some 69) _ = _
                   simp only [Act.put, List.setIfInBounds_toArray, List.set_cons_zero, List.set_cons_succ, i64_w, i32_w]
                   rfl
                  refine pA 11 (some 70) (bA 14 4095) HT_.out ?_
                  refine pA 12 (some 71) (bA 14 8191) HT_.out ?_
                  refine last_ (i := 13) (N := none) (bA 14 16383) rfl rfl (one_of HT_.out (by kernel_rfl)) (by decide) (fun K hK => ?_)
                  refine skip_ (w1 := ?_) (by rfl) rfl ?_ ?_
                  rotate_left
                  ·go_simp
                   rfl
                  refine hK.out _ _ ?_
                  clear hK K
                  refine done_ (done_of HT_.out (by kernel_rfl)) ?_
                  try go_wp2
                  go_roundg k3
                  case measure => have := HK1.out; have := HJ10.out; have := HK3.out; omega
                  case rel => exact ⟨(y150), (x11_3), (wrap64 (x17_1 + 1)), (by first | rfl | (simp; done) | (simp [*]; done)), (by first | rfl | (simp; done) | (simp [*]; done)), H', ⟨by have := HK1.out; have := HJ10.out; have := HK3.out; omega⟩, ⟨by (with_reducible repeat (first | apply Kd.S_alloc | apply Kd.S_drewN | apply Kd.S_drew)); exact HQ35.out⟩, ⟨(belS HB.out)⟩⟩
                 ·rw [if_neg c27] at H
                  exact absurd H (by simp)
                ·rw [if_neg c26] at H
                 exact absurd H (by simp)
               ·rw [if_neg c25] at H
                exact absurd H (by simp)
              ·rw [if_neg c24] at H
               have c24b0 : (x11_3 == (x4_1.length : Int)) = false := beq_eq_false_iff_ne.mpr c24
               have c24b1 : (x11_3 != (x4_1.length : Int)) = true := bne_iff_ne.mpr c24
               by_cases c38 : ((rd_T53 x4_1 x11_3).f1).length < 8796093022208
               ·rw [if_pos c38] at H
                have LMc38 := Aside0.mk c38
                clear c38
                obtain ⟨y152, hy152⟩ : ∃ y_ : List (S29), y_ = (((rd_T53 x4_1 x11_3).f1) ++ [(⟨((rd_T31 l0 x17_1).f1.f0), ((rd_T31 l0 x17_1).f1.f1)⟩ : S29)]) := ⟨_, rfl⟩
                replace H : (down_part.l0 k3 a1 a2 a3 (x4_1.set (x11_3 : Int).toNat (⟨(rd_T53 x4_1 x11_3).f0, y152⟩ : S53)) x11_3 l0 (l0.length : Int) (wrap64 (x17_1 + 1))) = some r := by first | (rw [hy152]; with_reducible exact H) | (have H2_ := (Option.bind_some _ _).symm.trans H; rw [hy152]; with_reducible exact H2_) | (have H2_ := (Option.bind_some _ _).symm.trans H; with_reducible exact H2_) | with_reducible exact H | (rw [hy152]; exact H) | exact H
                have Ny152 := Aside0.mk hy152
                clear hy152
                obtain ⟨y155, hy155⟩ : ∃ y_ : List (S53), y_ = (x4_1.set (x11_3 : Int).toNat (⟨(rd_T53 x4_1 x11_3).f0, y152⟩ : S53)) := ⟨_, rfl⟩
                replace H : (down_part.l0 k3 a1 a2 a3 y155 x11_3 l0 (l0.length : Int) (wrap64 (x17_1 + 1))) = some r := by first | (rw [hy155]; with_reducible exact H) | (have H2_ := (Option.bind_some _ _).symm.trans H; rw [hy155]; with_reducible exact H2_) | (have H2_ := (Option.bind_some _ _).symm.trans H; with_reducible exact H2_) | with_reducible exact H | (rw [hy155]; exact H) | exact H
                have Ny155 := Aside0.mk hy155
                clear hy155
                have H' := Aside0.mk H
                clear H
                obtain ⟨Ao40, co40, eo40⟩ := Kd.S_slice HO_4.out
                subst eo40
                have p142 : 0 ≤ (x11_3 : Int) := of_decide_eq_true (by first | (with_reducible assumption) | assumption)
                have q142 : x11_3 < (x4_1.length : Int) := of_decide_eq_true (by first | (with_reducible assumption) | assumption)
                obtain ⟨ad142, A142_1, c142_1, e142, hx142_0, hx142_1, hl142_1, hi142_1⟩ := at_T53 (Kd.S_reads' HO_4.out).2.2 x11_3 p142 q142
                cases e142
                obtain ⟨ce142, hce142, hMe142, hcc142⟩ := Kd.S_get HO_4.out z53 x11_3 p142 (by first | exact q142 | exact of_decide_eq_true (by first | (with_reducible assumption) | assumption) | (have e_ := (Kd.S_reads' HO_4.out).1; omega))
                obtain ⟨ve142_1, rfl, ge142_1⟩ := k53_openM hMe142
                have hv142_1 := hcc142 1 _ rfl
                rw [add_field _ _ 1 (by omega)] at hv142_1
                replace hv142_1 := Option.some.inj (hv142_1.symm.trans hx142_1)
                rw [hv142_1] at ge142_1
                have HL142_1 := Aside0.mk (show Kd.R k29 29 _ _ _ _ ((rd_T53 x4_1 x11_3).f1) from ge142_1)
                clear hv142_1 ge142_1
                have HX142_1 := Aside0.mk hx142_1
                clear hcc142 hce142
                have HR142_1 := Aside0.mk hi142_1
                have HC142_1 := Aside0.mk hl142_1
                clear hi142_1 hl142_1
                replace p142 := eq_true p142
                replace q142 := eq_true q142
                try go_wp2
                have n0_ := Aside0.mk (Kd.S_drew HO_4.out)
                have n1_ := Aside0.mk (Kd.R_drew HL142_1.out)
                have n2_ := Aside0.mk (blk_drew BK140.out)
                have n3_ := Aside0.mk (Kd.C_drew HR142_1.out)
                have n4_ := Aside0.mk (below_drew1 HB.out)
                clear HO_4
                clear HL142_1
                clear BK140
                clear HR142_1
                clear HB
                have HO_4 := n0_
                have HL142_1 := n1_
                have BK140 := n2_
                have HR142_1 := n3_
                have HB := n4_
                clear n0_ n1_ n2_ n3_ n4_
                have p151 : 0 ≤ (x11_3 : Int) := of_decide_eq_true (by first | (with_reducible assumption) | assumption)
                have q151 : x11_3 < (x4_1.length : Int) := of_decide_eq_true (by first | (with_reducible assumption) | assumption)
                obtain ⟨ad151, A151_1, c151_1, e151, hx151_0, hx151_1, hl151_1, hi151_1⟩ := at_T53 (Kd.S_reads' HO_4.out).2.2 x11_3 p151 q151
                obtain rfl : ad142 = ad151 := (by injection e151)
                obtain ⟨ce151, hce151, hMe151, hcc151⟩ := Kd.S_get HO_4.out z53 x11_3 p151 (by first | exact q151 | exact of_decide_eq_true (by first | (with_reducible assumption) | assumption) | (have e_ := (Kd.S_reads' HO_4.out).1; omega))
                obtain ⟨ve151_1, rfl, ge151_1⟩ := k53_openM hMe151
                have hv151_1 := hcc151 1 _ rfl
                rw [add_field _ _ 1 (by omega)] at hv151_1
                replace hv151_1 := Option.some.inj (hv151_1.symm.trans hx151_1)
                rw [hv151_1] at ge151_1
                have HL151_1 := Aside0.mk (show Kd.R k29 29 _ _ _ _ ((rd_T53 x4_1 x11_3).f1) from ge151_1)
                clear hv151_1 ge151_1
                have HX151_1 := Aside0.mk hx151_1
                clear hcc151 hce151
                have HR151_1 := Aside0.mk hi151_1
                have HC151_1 := Aside0.mk hl151_1
                clear hi151_1 hl151_1
                replace p151 := eq_true p151
                replace q151 := eq_true q151
                obtain ⟨go42, co42, eo42, gb42, gl42, cl42, HG42⟩ := Kd.S_form HO_4.out (by have h_ : (x11_3 : Int) < ((x4_1.length : Int) : Int) := of_decide_eq_true (by first | (with_reducible assumption) | assumption); have h2_ : 0 ≤ (x11_3 : Int) := (of_decide_eq_true (by first | (with_reducible assumption) | assumption)); omega)
                (first | cases eo42 | (injection eo42 with ea_ en_ ec_; (first | subst ea_ | (injection ea_ with ea_; subst ea_)); subst ec_; clear en_))
                have GB42 := Aside0.mk gb42
                have GG42 := Aside0.mk HG42
                clear gb42 gl42 HG42
                (first | simp only [add_plain] at hx142_0 | skip)
                (first | simp only [add_plain] at hx142_1 | skip)
                (first | simp only [add_plain] at hx151_0 | skip)
                (first | simp only [add_plain] at hx151_1 | skip)
                obtain ⟨oki42, ce42, hcl42, hM42, hcc42, _, _, hH42⟩ := Kd.S_elem HO_4.out z53 (x11_3 : Int) (of_decide_eq_true (by first | (with_reducible assumption) | assumption)) (by have h_ : (x11_3 : Int) < ((x4_1.length : Int) : Int) := of_decide_eq_true (by first | (with_reducible assumption) | assumption); first | exact h_ | (have e_ := (Kd.S_reads' HO_4.out).1; omega) | simpa using h_)
                obtain ⟨ve42_1, rfl, ge42_1⟩ := k53_openM hM42
                have hv42 := hcc42 1 _ rfl
                have hX42 := HX151_1.out
                (try simp only [add_plain] at hX42)
                (try simp only [Nat.add_zero] at hv42)
                replace hv42 := Option.some.inj (hv42.symm.trans hX42)
                subst hv42
                clear hX42 hcc42 hcl42
                have UU42 := Aside0.mk (show Kd.R k29 29 _ w.heap.size oki42 (.slice A151_1 ((rd_T53 x4_1 x11_3).f1).length c151_1) ((rd_T53 x4_1 x11_3).f1) from ge42_1)
                have HH42 := Aside0.mk hH42
                have HN42 := Aside0.mk (Kd.S_reads' HO_4.out).1
                clear hH42 ge42_1
                refine start_ (n := 14) (S := fun w' => w'.cell? ⟨gb140, 0, none⟩ = some (.int .i64 ((rd_T31 l0 x17_1).f0)) ∧ w'.cell? ⟨gb140, 1, none⟩ = some (.int .i64 ((rd_T31 l0 x17_1).f1.f0)) ∧ w'.cell? ⟨gb140, 2, none⟩ = some (.int .i64 ((rd_T31 l0 x17_1).f1.f1)) ∧ w'.cell? ⟨go42, ((x11_3).toNat * 2), none⟩ = some (.int .i64 ((rd_T53 x4_1 x11_3).f0)) ∧ w'.cell? ⟨go42, ((x11_3).toNat * 2) + 1, none⟩ = some (.slice A151_1 ((rd_T53 x4_1 x11_3).f1).length c151_1)) (ds := [13]) #[false, false, false, false, false, false, false, false, false, false, false, false, false, false] (by kernel_rfl) rfl rfl ⟨(blk_cell BK140.out 0).trans rfl, (blk_cell BK140.out 1).trans rfl, (blk_cell BK140.out 2).trans rfl, hx151_0, hx151_1⟩ (fun hHeld => ?_); refine with_tabW down_part.tab11 down_part.bits11 (fun HT_ HW_ => ?_)
                generalize wr.drew = w41 at HO_4 HL142_1 BK140 HR142_1 HB GG42 HH42 HL151_1 HR151_1 HX151_1 UU42 hx142_0 hx142_1 hx151_0 hx151_1 hHeld ⊢
                refine pA 0 (some 59) (bA 14 1) HT_.out ?_
                refine pA 1 (some 60) (bA 14 3) HT_.out ?_
                refine pA 2 (some 61) (bA 14 7) HT_.out ?_
                refine pA 3 (some 62) (bA 14 15) HT_.out ?_
                refine pA 4 (some 63) (bA 14 31) HT_.out ?_
                refine pA 5 (some 64) (bA 14 63) HT_.out ?_
                refine pA 7 (some 66) (bA 14 191) HT_.out ?_
                refine take_ (i := 6) (N := some 65) (v := ?_) (a' := ?_) (bA 14 255) rfl rfl (take_ofW HT_.out HW_.out (by kernel_rfl)) (fun _ _ _ h => h) (Or.inl ⟨by rfl, ?_⟩) hHeld ?_ ?_
                rotate_left
                ·rintro w' ⟨s0, s1, s2, s3, s4⟩
                 go_simp
                 with_reducible rfl
                rotate_left
                ·simp only [Act.put, List.setIfInBounds_toArray, List.set_cons_zero, List.set_cons_succ, i64_w, i32_w]
                 rfl
                refine take_ (i := 8) (N := some 67) (v := ?_) (a' := ?_) (bA 14 511) rfl rfl (take_ofW HT_.out HW_.out (by kernel_rfl)) (fun _ _ _ h => h) (Or.inl ⟨by rfl, ?_⟩) hHeld ?_ ?_
                rotate_left
                ·rintro w' ⟨s0, s1, s2, s3, s4⟩
                 go_simp
                 with_reducible rfl
                rotate_left
                ·simp only [Act.put, List.setIfInBounds_toArray, List.set_cons_zero, List.set_cons_succ, i64_w, i32_w]
                 rfl
                refine one_ (i := 9) (N := some 68) (bA 14 1023) rfl rfl (one_of HT_.out (by kernel_rfl)) (by decide) (fun K hK => ?_)
                refine value_ (w1 := ?_) (v := ?_) (by rfl) rfl ?_ ?_
                rotate_left 2
                ·go_simp
                 constructor
                 ·rfl
                 ·rfl
                refine hK.out _ _ ⟨(blk_cell (blk_alloc BK140.out _) 0).trans rfl, (blk_cell (blk_alloc BK140.out _) 1).trans rfl, (blk_cell (blk_alloc BK140.out _) 2).trans rfl, (World.cell?_alloc_lt _ _ _ (World.block_lt_of_cell? _ _ (hHeld.2.2.2.1))).trans (hHeld.2.2.2.1), (World.cell?_alloc_lt _ _ _ (World.block_lt_of_cell? _ _ (hHeld.2.2.2.2))).trans (hHeld.2.2.2.2)⟩ (fun hHeld => ?_)
                clear hK K
                refine norm_ (a' := ?_) ?_ ?_
                rotate_left
                ·show Act.put _ (some 68) _ = _
                 simp only [Act.put, List.setIfInBounds_toArray, List.set_cons_zero, List.set_cons_succ, i64_w, i32_w]
                 rfl
                refine one_ (i := 10) (N := some 69) (bA 14 2047) rfl rfl (one_of HT_.out (by kernel_rfl)) (by decide) (fun K hK => ?_)
                refine Kd.R_append_step k29 (w0 := w) w.heap.size (by rfl) (.tmp 65) (.tmp 68) 43 29 (.agg #[(.int .i64 0), (.int .i64 0)]) 16 rfl Try.underlying43 info29 rfl (by decide) (by omega) (.slice A151_1 ((rd_T53 x4_1 x11_3).f1).length c151_1) ((rd_T53 x4_1 x11_3).f1) (⟨((rd_T31 l0 x17_1).f1.f0), ((rd_T31 l0 x17_1).f1.f1)⟩ : S29) [.int .i64 ((rd_T31 l0 x17_1).f1.f0), .int .i64 ((rd_T31 l0 x17_1).f1.f1)] (fun k_ => oki42 k_ ∨ ((fun _ => True)) k_ ∧ w41.heap.size ≤ k_) (fun _ => False) rfl rfl ?aP (fun _ hk => hk.elim) ?aF ?aO ?aB ?aS ?aL ?_
                (case aP => exact k29_mkM _ _ _ (⟨((rd_T31 l0 x17_1).f1.f0), ((rd_T31 l0 x17_1).f1.f1)⟩ : S29))
                (case aB => exact (belS HB.out))
                (case aF => exact (fun k_ hk => .inr ⟨trivial, hk⟩))
                (case aO => exact (by (with_reducible repeat (first | apply Kd.R_alloc | apply Kd.R_drewN | apply Kd.R_drew)); exact Kd.R_mono UU42.out (fun _ hk => .inl hk)))
                (case aS => exact (below_size (belS HB.out)))
                (case aL => have := LMc38.out; omega)
                intro v153 w43 ho hb hg hat
                (first | have HS3_ := cell_grown hg (hHeld.2.2.2.1) (by first | (rw [add_block]; exact (fun e_ => ((HL151_1.out.1 _ e_.symm).2) rfl)) | (show some (Addr.add _ _).block ≠ _; rw [add_block]; exact (fun e_ => ((HL151_1.out.1 _ e_.symm).2) rfl)) | exact (fun e_ => ((HL151_1.out.1 _ e_.symm).2) rfl)) | have HS3_ := cell_grown hg (cell_unalloc (hHeld.2.2.2.1) (by first | (rw [add_block]; exact Kd.S_lt HO_4.out _ rfl) | (show (Addr.add _ _).block < _; rw [add_block]; exact Kd.S_lt HO_4.out _ rfl) | exact Kd.S_lt HO_4.out _ rfl)) (by first | (rw [add_block]; exact (fun e_ => ((HL151_1.out.1 _ e_.symm).2) rfl)) | (show some (Addr.add _ _).block ≠ _; rw [add_block]; exact (fun e_ => ((HL151_1.out.1 _ e_.symm).2) rfl)) | exact (fun e_ => ((HL151_1.out.1 _ e_.symm).2) rfl)))
                (first | have HS4_ := cell_grown hg (hHeld.2.2.2.2) (by first | (rw [add_block]; exact (fun e_ => ((HL151_1.out.1 _ e_.symm).2) rfl)) | (show some (Addr.add _ _).block ≠ _; rw [add_block]; exact (fun e_ => ((HL151_1.out.1 _ e_.symm).2) rfl)) | exact (fun e_ => ((HL151_1.out.1 _ e_.symm).2) rfl)) | have HS4_ := cell_grown hg (cell_unalloc (hHeld.2.2.2.2) (by first | (rw [add_block]; exact Kd.S_lt HO_4.out _ rfl) | (show (Addr.add _ _).block < _; rw [add_block]; exact Kd.S_lt HO_4.out _ rfl) | exact Kd.S_lt HO_4.out _ rfl)) (by first | (rw [add_block]; exact (fun e_ => ((HL151_1.out.1 _ e_.symm).2) rfl)) | (show some (Addr.add _ _).block ≠ _; rw [add_block]; exact (fun e_ => ((HL151_1.out.1 _ e_.symm).2) rfl)) | exact (fun e_ => ((HL151_1.out.1 _ e_.symm).2) rfl)))
                rw [← Ny152.out] at ho
                have n0_ := Aside0.mk (blk_grown (g := gb140) (o := .cells #[.int .i64 ((rd_T31 l0 x17_1).f0), .int .i64 ((rd_T31 l0 x17_1).f1.f0), .int .i64 ((rd_T31 l0 x17_1).f1.f1)] 31 (0, 0)) (blkN BK140.out) hg (Kd.R_ne HL151_1.out BK140.out (by decide)))
                have n1_ := Aside0.mk (hb)
                have n2_ := Aside0.mk (Kd.H_grown (Kd.H_widen (by repeat (first | exact HH42.out | refine Kd.H_alloc ?_ _ | refine Kd.H_drewN ?_ _ | refine Kd.H_drew ?_))) hg (fun k_ e_ => .inl (UU42.out.1 k_ e_)))
                have n3_ := Aside0.mk (ho)
                clear BK140
                clear HB
                clear HH42
                clear HO_4
                clear UU42
                clear HL142_1
                clear HL151_1
                have BK140 := n0_
                have HB := n1_
                have HH42 := n2_
                have HO154 := n3_
                clear n0_ n1_ n2_ n3_
                clear ho hb hg hat
                have p39 : 0 ≤ (x11_3 : Int) := of_decide_eq_true (by first | (with_reducible assumption) | assumption)
                have q39 : (x11_3 : Int) < ((x4_1.length : Int) : Int) := of_decide_eq_true (by first | (with_reducible assumption) | assumption)
                replace p39 := eq_true p39
                replace q39 := eq_true q39
                obtain ⟨Ao46, co46, eo46⟩ := Kd.R_slice HO154.out
                (first | subst eo46 | (injection eo46 with f1_ f2_ f3_; have f4_ := f1_.symm; have f5_ := f3_.symm; clear f1_ f2_ f3_; subst f4_; subst f5_))
                obtain ⟨_, _, hraw44, _, _, hcc44, _⟩ := Kd.H_raw HH42.out (of_decide_eq_true (by first | (with_reducible assumption) | assumption)) (by have h_ : (x11_3 : Int) < ((x4_1.length : Int) : Int) := of_decide_eq_true (by first | (with_reducible assumption) | assumption); first | exact h_ | (have e_ := (HN42.out); omega) | simpa using h_)
                obtain ⟨_, hfr44⟩ := Kd.H_at HH42.out (of_decide_eq_true (by first | (with_reducible assumption) | assumption)) (by have h_ : (x11_3 : Int) < ((x4_1.length : Int) : Int) := of_decide_eq_true (by first | (with_reducible assumption) | assumption); first | exact h_ | (have e_ := (HN42.out); omega) | simpa using h_)
                have hx44_0 := hcc44 1 _ rfl
                have hf44_0 := hfr44 1
                (try rw [show (k53).sz = 2 from rfl] at hx44_0)
                (try rw [show (k53).sz = 2 from rfl] at hf44_0)
                have HP44 := Kd.S_seg0 HH42.out (of_decide_eq_true (by first | (with_reducible assumption) | assumption)) (by have h_ : (x11_3 : Int) < ((x4_1.length : Int) : Int) := of_decide_eq_true (by first | (with_reducible assumption) | assumption); first | exact h_ | (have e_ := (HN42.out); omega) | simpa using h_) (seg := [.slice Ao46 y152.length co46]) (j := 1) (show 2 ≤ 2 from by decide) (x' := (⟨(rd_T53 x4_1 x11_3).f0, y152⟩ : S53)) (k53_mkM _ _ _ (⟨(rd_T53 x4_1 x11_3).f0, y152⟩ : S53) HO154.out) (fun _ hk => hk)
                clear hcc44 hfr44
                have HNB140_go42 := Aside0.mk (show gb140 ≠ go42 from by have h_ := Kd.R_ne hraw44 BK140.out (by decide); intro e_; exact h_ (by rw [e_]; rfl))
                have HS44 := HP44.1
                rw [← Ny155.out] at HS44
                have HQ44 := Aside0.mk HS44
                obtain ⟨_, hgg44⟩ := Kd.R_typed hraw44 go42 rfl
                have GG44_ := Aside0.mk hgg44
                clear HP44 HS44 hgg44
                refine hK.out _ _ ⟨(blk_cell BK140.out 0).trans rfl, (blk_cell BK140.out 1).trans rfl, (blk_cell BK140.out 2).trans rfl, HS3_, HS4_⟩ (fun hHeld => ?_)
                clear hK K
                refine norm_ (a' := ?_) ?_ ?_
                rotate_left
                ·show Act.put _ (some 69) _ = _
                 simp only [Act.put, List.setIfInBounds_toArray, List.set_cons_zero, List.set_cons_succ, i64_w, i32_w]
                 rfl
                refine pA 11 (some 70) (bA 14 4095) HT_.out ?_
                refine pA 12 (some 71) (bA 14 8191) HT_.out ?_
                refine last_ (i := 13) (N := none) (bA 14 16383) rfl rfl (one_of HT_.out (by kernel_rfl)) (by decide) (fun K hK => ?_)
                refine skip_ (w1 := ?_) (by rfl) rfl ?_ ?_
                rotate_left
                ·go_simp
                 rfl
                refine hK.out _ _ ?_
                clear hK K
                refine done_ (done_of HT_.out (by kernel_rfl)) ?_
                try go_wp2
                go_roundg k3
                case measure => have := HK1.out; have := HJ10.out; have := HK3.out; omega
                case rel => exact ⟨(y155), (x11_3), (wrap64 (x17_1 + 1)), (by first | rfl | (simp; done) | (simp [*]; done)), (by first | rfl | (simp; done) | (simp [*]; done)), H', ⟨by have := HK1.out; have := HJ10.out; have := HK3.out; omega⟩, ⟨by (with_reducible repeat (first | apply Kd.S_alloc | apply Kd.S_drewN | apply Kd.S_drew)); exact HQ44.out⟩, ⟨(belS HB.out)⟩⟩
               ·rw [if_neg c38] at H
                exact absurd H (by simp)
            ·rw [if_neg c21] at H
             exact absurd H (by simp)
           ·rw [if_neg c20] at H
            have c20b0 : decide (x11_3 < (x4_1.length : Int)) = false := decide_eq_false c20
            clear c20
            by_cases c47 : x11_3 = (x4_1.length : Int)
            ·rw [if_pos c47] at H
             have c47b0 : (x11_3 == (x4_1.length : Int)) = true := beq_iff_eq.mpr c47
             have c47b1 : (x11_3 != (x4_1.length : Int)) = false := bne_eq_false_iff_eq.mpr c47
             clear c47
             by_cases c48 : x4_1.length < 4398046511104
             ·rw [if_pos c48] at H
              have LMc48 := Aside0.mk c48
              clear c48
              obtain ⟨y156, hy156⟩ : ∃ y_ : List (S53), y_ = (x4_1 ++ [(⟨t141, ([] : List (S29))⟩ : S53)]) := ⟨_, rfl⟩
              replace H : (if 0 ≤ x11_3 then (if x11_3 < (y156.length : Int) then (if ((rd_T53 y156 x11_3).f1).length < 8796093022208 then (down_part.l0 k3 a1 a2 a3 (y156.set (x11_3 : Int).toNat (⟨(rd_T53 y156 x11_3).f0, (((rd_T53 y156 x11_3).f1) ++ [(⟨((rd_T31 l0 x17_1).f1.f0), ((rd_T31 l0 x17_1).f1.f1)⟩ : S29)])⟩ : S53)) x11_3 l0 (l0.length : Int) (wrap64 (x17_1 + 1))) else (none)) else (none)) else (none)) = some r := by first | (rw [hy156]; with_reducible exact H) | (have H2_ := (Option.bind_some _ _).symm.trans H; rw [hy156]; with_reducible exact H2_) | (have H2_ := (Option.bind_some _ _).symm.trans H; with_reducible exact H2_) | with_reducible exact H | (rw [hy156]; exact H) | exact H
              have Ny156 := Aside0.mk hy156
              clear hy156
              by_cases c49 : 0 ≤ x11_3
              ·rw [if_pos c49] at H
               have c49b0 : decide (0 ≤ x11_3) = true := decide_eq_true c49
               clear c49
               by_cases c50 : x11_3 < (y156.length : Int)
               ·rw [if_pos c50] at H
                have c50b0 : decide (x11_3 < (y156.length : Int)) = true := decide_eq_true c50
                clear c50
                by_cases c51 : ((rd_T53 y156 x11_3).f1).length < 8796093022208
                ·rw [if_pos c51] at H
                 have LMc51 := Aside0.mk c51
                 clear c51
                 obtain ⟨y160, hy160⟩ : ∃ y_ : List (S29), y_ = (((rd_T53 y156 x11_3).f1) ++ [(⟨((rd_T31 l0 x17_1).f1.f0), ((rd_T31 l0 x17_1).f1.f1)⟩ : S29)]) := ⟨_, rfl⟩
                 replace H : (down_part.l0 k3 a1 a2 a3 (y156.set (x11_3 : Int).toNat (⟨(rd_T53 y156 x11_3).f0, y160⟩ : S53)) x11_3 l0 (l0.length : Int) (wrap64 (x17_1 + 1))) = some r := by first | (rw [hy160]; with_reducible exact H) | (have H2_ := (Option.bind_some _ _).symm.trans H; rw [hy160]; with_reducible exact H2_) | (have H2_ := (Option.bind_some _ _).symm.trans H; with_reducible exact H2_) | with_reducible exact H | (rw [hy160]; exact H) | exact H
                 have Ny160 := Aside0.mk hy160
                 clear hy160
                 obtain ⟨y163, hy163⟩ : ∃ y_ : List (S53), y_ = (y156.set (x11_3 : Int).toNat (⟨(rd_T53 y156 x11_3).f0, y160⟩ : S53)) := ⟨_, rfl⟩
                 replace H : (down_part.l0 k3 a1 a2 a3 y163 x11_3 l0 (l0.length : Int) (wrap64 (x17_1 + 1))) = some r := by first | (rw [hy163]; with_reducible exact H) | (have H2_ := (Option.bind_some _ _).symm.trans H; rw [hy163]; with_reducible exact H2_) | (have H2_ := (Option.bind_some _ _).symm.trans H; with_reducible exact H2_) | with_reducible exact H | (rw [hy163]; exact H) | exact H
                 have Ny163 := Aside0.mk hy163
                 clear hy163
                 have H' := Aside0.mk H
                 clear H
                 obtain ⟨Ao53, co53, eo53⟩ := Kd.S_slice HO_4.out
                 subst eo53
                 try go_wp2_with (first | ((with_reducible refine gate_builtin (b := .append) (xs := #[.tmp 54, .tmp 57]) rfl ?_); at_builtin; refine Kd.S_append k53 (w0 := w) w.heap.size rfl (.tmp 54) (.tmp 57) 49 53 (.agg #[(.int .i64 0), (.slice none 0 0)]) 32 rfl Try.underlying49 info53 rfl (by decide) (by omega) (.slice Ao53 x4_1.length co53) x4_1 (⟨t141, ([] : List (S29))⟩ : S53) [.int .i64 t141, .slice none 0 0] (fun _ => True) (fun _ => False) rfl rfl ?aP (fun k_ hk_ => hk_.elim) ?aF ?aO ?aB ?aS ?aL ?_; (case aP => exact k53_mkM _ _ _ (⟨t141, ([] : List (S29))⟩ : S53) (Kd.R_nil _ _ _ _ _)); (case aB => exact (belS HB.out)); (case aF => exact (fun _ _ => trivial)); (case aO => exact (by (with_reducible repeat (first | apply Kd.S_alloc | apply Kd.S_drewN | apply Kd.S_drew)); exact Kd.S_mono HO_4.out (fun k_ hk => ⟨trivial, fun e_ => e_⟩))); (case aS => exact (below_size (belS HB.out))); (case aL => have := LMc48.out; omega); intro v157 w54 ho hb hg hat; rw [← Ny156.out] at ho; have n0_ := Aside0.mk (blk_grown (g := gb140) (o := .cells #[.int .i64 ((rd_T31 l0 x17_1).f0), .int .i64 ((rd_T31 l0 x17_1).f1.f0), .int .i64 ((rd_T31 l0 x17_1).f1.f1)] 31 (0, 0)) (blkN BK140.out) hg (Kd.S_ne HO_4.out BK140.out (by decide))); have n1_ := Aside0.mk (hb); have n2_ := Aside0.mk (ho); clear BK140; clear HB; clear HO_4; have BK140 := n0_; have HB := n1_; have HO158 := n2_; clear n0_ n1_ n2_; clear ho hb hg hat))
                 have n0_ := Aside0.mk (Kd.S_drew HO158.out)
                 have n1_ := Aside0.mk (blk_drew BK140.out)
                 have n2_ := Aside0.mk (below_drew1 HB.out)
                 clear HO158
                 clear BK140
                 clear HB
                 have HO158 := n0_
                 have BK140 := n1_
                 have HB := n2_
                 clear n0_ n1_ n2_
                 obtain ⟨Ao56, co56, eo56⟩ := Kd.S_slice HO158.out
                 (first | subst eo56 | (injection eo56 with f1_ f2_ f3_; have f4_ := f1_.symm; have f5_ := f3_.symm; clear f1_ f2_ f3_; subst f4_; subst f5_))
                 have p159 : 0 ≤ (x11_3 : Int) := of_decide_eq_true (by first | (with_reducible assumption) | assumption)
                 have q159 : x11_3 < (y156.length : Int) := of_decide_eq_true (by first | (with_reducible assumption) | assumption)
                 obtain ⟨ad159, A159_1, c159_1, e159, hx159_0, hx159_1, hl159_1, hi159_1⟩ := at_T53 (Kd.S_reads' HO158.out).2.2 x11_3 p159 q159
                 cases e159
                 obtain ⟨ce159, hce159, hMe159, hcc159⟩ := Kd.S_get HO158.out z53 x11_3 p159 (by first | exact q159 | exact of_decide_eq_true (by first | (with_reducible assumption) | assumption) | (have e_ := (Kd.S_reads' HO158.out).1; omega))
                 obtain ⟨ve159_1, rfl, ge159_1⟩ := k53_openM hMe159
                 have hv159_1 := hcc159 1 _ rfl
                 rw [add_field _ _ 1 (by omega)] at hv159_1
                 replace hv159_1 := Option.some.inj (hv159_1.symm.trans hx159_1)
                 rw [hv159_1] at ge159_1
                 have HL159_1 := Aside0.mk (show Kd.R k29 29 _ _ _ _ ((rd_T53 y156 x11_3).f1) from ge159_1)
                 clear hv159_1 ge159_1
                 have HX159_1 := Aside0.mk hx159_1
                 clear hcc159 hce159
                 have HR159_1 := Aside0.mk hi159_1
                 have HC159_1 := Aside0.mk hl159_1
                 clear hi159_1 hl159_1
                 replace p159 := eq_true p159
                 replace q159 := eq_true q159
                 obtain ⟨go57, co57, eo57, gb57, gl57, cl57, HG57⟩ := Kd.S_form HO158.out (by have h_ : (x11_3 : Int) < ((y156.length : Int) : Int) := of_decide_eq_true (by first | (with_reducible assumption) | assumption); have h2_ : 0 ≤ (x11_3 : Int) := (of_decide_eq_true (by first | (with_reducible assumption) | assumption)); omega)
                 (first | cases eo57 | (injection eo57 with ea_ en_ ec_; (first | subst ea_ | (injection ea_ with ea_; subst ea_)); subst ec_; clear en_))
                 have GB57 := Aside0.mk gb57
                 have GG57 := Aside0.mk HG57
                 clear gb57 gl57 HG57
                 (first | simp only [add_plain] at hx159_0 | skip)
                 (first | simp only [add_plain] at hx159_1 | skip)
                 obtain ⟨oki57, ce57, hcl57, hM57, hcc57, _, _, hH57⟩ := Kd.S_elem HO158.out z53 (x11_3 : Int) (of_decide_eq_true (by first | (with_reducible assumption) | assumption)) (by have h_ : (x11_3 : Int) < ((y156.length : Int) : Int) := of_decide_eq_true (by first | (with_reducible assumption) | assumption); first | exact h_ | (have e_ := (Kd.S_reads' HO158.out).1; omega) | simpa using h_)
                 obtain ⟨ve57_1, rfl, ge57_1⟩ := k53_openM hM57
                 have hv57 := hcc57 1 _ rfl
                 have hX57 := HX159_1.out
                 (try simp only [add_plain] at hX57)
                 (try simp only [Nat.add_zero] at hv57)
                 replace hv57 := Option.some.inj (hv57.symm.trans hX57)
                 subst hv57
                 clear hX57 hcc57 hcl57
                 have UU57 := Aside0.mk (show Kd.R k29 29 _ w.heap.size oki57 (.slice A159_1 ((rd_T53 y156 x11_3).f1).length c159_1) ((rd_T53 y156 x11_3).f1) from ge57_1)
                 have HH57 := Aside0.mk hH57
                 have HN57 := Aside0.mk (Kd.S_reads' HO158.out).1
                 clear hH57 ge57_1
                 refine start_ (n := 14) (S := fun w' => w'.cell? ⟨gb140, 0, none⟩ = some (.int .i64 ((rd_T31 l0 x17_1).f0)) ∧ w'.cell? ⟨gb140, 1, none⟩ = some (.int .i64 ((rd_T31 l0 x17_1).f1.f0)) ∧ w'.cell? ⟨gb140, 2, none⟩ = some (.int .i64 ((rd_T31 l0 x17_1).f1.f1)) ∧ w'.cell? ⟨go57, ((x11_3).toNat * 2), none⟩ = some (.int .i64 ((rd_T53 y156 x11_3).f0)) ∧ w'.cell? ⟨go57, ((x11_3).toNat * 2) + 1, none⟩ = some (.slice A159_1 ((rd_T53 y156 x11_3).f1).length c159_1)) (ds := [13]) #[false, false, false, false, false, false, false, false, false, false, false, false, false, false] (by kernel_rfl) rfl rfl ⟨(blk_cell BK140.out 0).trans rfl, (blk_cell BK140.out 1).trans rfl, (blk_cell BK140.out 2).trans rfl, hx159_0, hx159_1⟩ (fun hHeld => ?_); refine with_tabW down_part.tab11 down_part.bits11 (fun HT_ HW_ => ?_)
                 generalize w54.drew = w55 at HO158 BK140 HB GG57 HH57 HL159_1 HR159_1 HX159_1 UU57 hx159_0 hx159_1 hHeld ⊢
                 refine pA 0 (some 59) (bA 14 1) HT_.out ?_
                 refine pA 1 (some 60) (bA 14 3) HT_.out ?_
                 refine pA 2 (some 61) (bA 14 7) HT_.out ?_
                 refine pA 3 (some 62) (bA 14 15) HT_.out ?_
                 refine pA 4 (some 63) (bA 14 31) HT_.out ?_
                 refine pA 5 (some 64) (bA 14 63) HT_.out ?_
                 refine pA 7 (some 66) (bA 14 191) HT_.out ?_
                 refine take_ (i := 6) (N := some 65) (v := ?_) (a' := ?_) (bA 14 255) rfl rfl (take_ofW HT_.out HW_.out (by kernel_rfl)) (fun _ _ _ h => h) (Or.inl ⟨by rfl, ?_⟩) hHeld ?_ ?_
                 rotate_left
                 ·rintro w' ⟨s0, s1, s2, s3, s4⟩
                  go_simp
                  with_reducible rfl
                 rotate_left
                 ·simp only [Act.put, List.setIfInBounds_toArray, List.set_cons_zero, List.set_cons_succ, i64_w, i32_w]
                  rfl
                 refine take_ (i := 8) (N := some 67) (v := ?_) (a' := ?_) (bA 14 511) rfl rfl (take_ofW HT_.out HW_.out (by kernel_rfl)) (fun _ _ _ h => h) (Or.inl ⟨by rfl, ?_⟩) hHeld ?_ ?_
                 rotate_left
                 ·rintro w' ⟨s0, s1, s2, s3, s4⟩
                  go_simp
                  with_reducible rfl
                 rotate_left
                 ·simp only [Act.put, List.setIfInBounds_toArray, List.set_cons_zero, List.set_cons_succ, i64_w, i32_w]
                  rfl
                 refine one_ (i := 9) (N := some 68) (bA 14 1023) rfl rfl (one_of HT_.out (by kernel_rfl)) (by decide) (fun K hK => ?_)
                 refine value_ (w1 := ?_) (v := ?_) (by rfl) rfl ?_ ?_
                 rotate_left 2
                 ·go_simp
                  constructor
                  ·rfl
                  ·rfl
                 refine hK.out _ _ ⟨(blk_cell (blk_alloc BK140.out _) 0).trans rfl, (blk_cell (blk_alloc BK140.out _) 1).trans rfl, (blk_cell (blk_alloc BK140.out _) 2).trans rfl, (World.cell?_alloc_lt _ _ _ (World.block_lt_of_cell? _ _ (hHeld.2.2.2.1))).trans (hHeld.2.2.2.1), (World.cell?_alloc_lt _ _ _ (World.block_lt_of_cell? _ _ (hHeld.2.2.2.2))).trans (hHeld.2.2.2.2)⟩ (fun hHeld => ?_)
                 clear hK K
                 refine norm_ (a' := ?_) ?_ ?_
                 rotate_left
                 ·show Act.put _ (some 68) _ = _
                  simp only [Act.put, List.setIfInBounds_toArray, List.set_cons_zero, List.set_cons_succ, i64_w, i32_w]
                  rfl
                 refine one_ (i := 10) (N := some 69) (bA 14 2047) rfl rfl (one_of HT_.out (by kernel_rfl)) (by decide) (fun K hK => ?_)
                 refine Kd.R_append_step k29 (w0 := w) w.heap.size (by rfl) (.tmp 65) (.tmp 68) 43 29 (.agg #[(.int .i64 0), (.int .i64 0)]) 16 rfl Try.underlying43 info29 rfl (by decide) (by omega) (.slice A159_1 ((rd_T53 y156 x11_3).f1).length c159_1) ((rd_T53 y156 x11_3).f1) (⟨((rd_T31 l0 x17_1).f1.f0), ((rd_T31 l0 x17_1).f1.f1)⟩ : S29) [.int .i64 ((rd_T31 l0 x17_1).f1.f0), .int .i64 ((rd_T31 l0 x17_1).f1.f1)] (fun k_ => oki57 k_ ∨ ((fun _ => True)) k_ ∧ w55.heap.size ≤ k_) (fun _ => False) rfl rfl ?aP (fun _ hk => hk.elim) ?aF ?aO ?aB ?aS ?aL ?_
                 (case aP => exact k29_mkM _ _ _ (⟨((rd_T31 l0 x17_1).f1.f0), ((rd_T31 l0 x17_1).f1.f1)⟩ : S29))
                 (case aB => exact (belS HB.out))
                 (case aF => exact (fun k_ hk => .inr ⟨trivial, hk⟩))
                 (case aO => exact (by (with_reducible repeat (first | apply Kd.R_alloc | apply Kd.R_drewN | apply Kd.R_drew)); exact Kd.R_mono UU57.out (fun _ hk => .inl hk)))
                 (case aS => exact (below_size (belS HB.out)))
                 (case aL => have := LMc51.out; omega)
                 intro v161 w58 ho hb hg hat
                 (first | have HS3_ := cell_grown hg (hHeld.2.2.2.1) (by first | (rw [add_block]; exact (fun e_ => ((HL159_1.out.1 _ e_.symm).2) rfl)) | (show some (Addr.add _ _).block ≠ _; rw [add_block]; exact (fun e_ => ((HL159_1.out.1 _ e_.symm).2) rfl)) | exact (fun e_ => ((HL159_1.out.1 _ e_.symm).2) rfl)) | have HS3_ := cell_grown hg (cell_unalloc (hHeld.2.2.2.1) (by first | (rw [add_block]; exact Kd.S_lt HO158.out _ rfl) | (show (Addr.add _ _).block < _; rw [add_block]; exact Kd.S_lt HO158.out _ rfl) | exact Kd.S_lt HO158.out _ rfl)) (by first | (rw [add_block]; exact (fun e_ => ((HL159_1.out.1 _ e_.symm).2) rfl)) | (show some (Addr.add _ _).block ≠ _; rw [add_block]; exact (fun e_ => ((HL159_1.out.1 _ e_.symm).2) rfl)) | exact (fun e_ => ((HL159_1.out.1 _ e_.symm).2) rfl)))
                 (first | have HS4_ := cell_grown hg (hHeld.2.2.2.2) (by first | (rw [add_block]; exact (fun e_ => ((HL159_1.out.1 _ e_.symm).2) rfl)) | (show some (Addr.add _ _).block ≠ _; rw [add_block]; exact (fun e_ => ((HL159_1.out.1 _ e_.symm).2) rfl)) | exact (fun e_ => ((HL159_1.out.1 _ e_.symm).2) rfl)) | have HS4_ := cell_grown hg (cell_unalloc (hHeld.2.2.2.2) (by first | (rw [add_block]; exact Kd.S_lt HO158.out _ rfl) | (show (Addr.add _ _).block < _; rw [add_block]; exact Kd.S_lt HO158.out _ rfl) | exact Kd.S_lt HO158.out _ rfl)) (by first | (rw [add_block]; exact (fun e_ => ((HL159_1.out.1 _ e_.symm).2) rfl)) | (show some (Addr.add _ _).block ≠ _; rw [add_block]; exact (fun e_ => ((HL159_1.out.1 _ e_.symm).2) rfl)) | exact (fun e_ => ((HL159_1.out.1 _ e_.symm).2) rfl)))
                 rw [← Ny160.out] at ho
                 have n0_ := Aside0.mk (blk_grown (g := gb140) (o := .cells #[.int .i64 ((rd_T31 l0 x17_1).f0), .int .i64 ((rd_T31 l0 x17_1).f1.f0), .int .i64 ((rd_T31 l0 x17_1).f1.f1)] 31 (0, 0)) (blkN BK140.out) hg (Kd.R_ne HL159_1.out BK140.out (by decide)))
                 have n1_ := Aside0.mk (hb)
                 have n2_ := Aside0.mk (Kd.H_grown (Kd.H_widen (by repeat (first | exact HH57.out | refine Kd.H_alloc ?_ _ | refine Kd.H_drewN ?_ _ | refine Kd.H_drew ?_))) hg (fun k_ e_ => .inl (UU57.out.1 k_ e_)))
                 have n3_ := Aside0.mk (ho)
                 clear BK140
                 clear HB
                 clear HH57
                 clear HO158
                 clear UU57
                 clear HL159_1
                 have BK140 := n0_
                 have HB := n1_
                 have HH57 := n2_
                 have HO162 := n3_
                 clear n0_ n1_ n2_ n3_
                 clear ho hb hg hat
                 have p52 : 0 ≤ (x11_3 : Int) := of_decide_eq_true (by first | (with_reducible assumption) | assumption)
                 have q52 : (x11_3 : Int) < ((y156.length : Int) : Int) := of_decide_eq_true (by first | (with_reducible assumption) | assumption)
                 replace p52 := eq_true p52
                 replace q52 := eq_true q52
                 obtain ⟨Ao61, co61, eo61⟩ := Kd.R_slice HO162.out
                 (first | subst eo61 | (injection eo61 with f1_ f2_ f3_; have f4_ := f1_.symm; have f5_ := f3_.symm; clear f1_ f2_ f3_; subst f4_; subst f5_))
                 obtain ⟨_, _, hraw59, _, _, hcc59, _⟩ := Kd.H_raw HH57.out (of_decide_eq_true (by first | (with_reducible assumption) | assumption)) (by have h_ : (x11_3 : Int) < ((y156.length : Int) : Int) := of_decide_eq_true (by first | (with_reducible assumption) | assumption); first | exact h_ | (have e_ := (HN57.out); omega) | simpa using h_)
                 obtain ⟨_, hfr59⟩ := Kd.H_at HH57.out (of_decide_eq_true (by first | (with_reducible assumption) | assumption)) (by have h_ : (x11_3 : Int) < ((y156.length : Int) : Int) := of_decide_eq_true (by first | (with_reducible assumption) | assumption); first | exact h_ | (have e_ := (HN57.out); omega) | simpa using h_)
                 have hx59_0 := hcc59 1 _ rfl
                 have hf59_0 := hfr59 1
                 (try rw [show (k53).sz = 2 from rfl] at hx59_0)
                 (try rw [show (k53).sz = 2 from rfl] at hf59_0)
                 have HP59 := Kd.S_seg0 HH57.out (of_decide_eq_true (by first | (with_reducible assumption) | assumption)) (by have h_ : (x11_3 : Int) < ((y156.length : Int) : Int) := of_decide_eq_true (by first | (with_reducible assumption) | assumption); first | exact h_ | (have e_ := (HN57.out); omega) | simpa using h_) (seg := [.slice Ao61 y160.length co61]) (j := 1) (show 2 ≤ 2 from by decide) (x' := (⟨(rd_T53 y156 x11_3).f0, y160⟩ : S53)) (k53_mkM _ _ _ (⟨(rd_T53 y156 x11_3).f0, y160⟩ : S53) HO162.out) (fun _ hk => hk)
                 clear hcc59 hfr59
                 have HNB140_go57 := Aside0.mk (show gb140 ≠ go57 from by have h_ := Kd.R_ne hraw59 BK140.out (by decide); intro e_; exact h_ (by rw [e_]; rfl))
                 have HS59 := HP59.1
                 rw [← Ny163.out] at HS59
                 have HQ59 := Aside0.mk HS59
                 obtain ⟨_, hgg59⟩ := Kd.R_typed hraw59 go57 rfl
                 have GG59_ := Aside0.mk hgg59
                 clear HP59 HS59 hgg59
                 refine hK.out _ _ ⟨(blk_cell BK140.out 0).trans rfl, (blk_cell BK140.out 1).trans rfl, (blk_cell BK140.out 2).trans rfl, HS3_, HS4_⟩ (fun hHeld => ?_)
                 clear hK K
                 refine norm_ (a' := ?_) ?_ ?_
                 rotate_left
                 ·show Act.put _ (some 69) _ = _
                  simp only [Act.put, List.setIfInBounds_toArray, List.set_cons_zero, List.set_cons_succ, i64_w, i32_w]
                  rfl
                 refine pA 11 (some 70) (bA 14 4095) HT_.out ?_
                 refine pA 12 (some 71) (bA 14 8191) HT_.out ?_
                 refine last_ (i := 13) (N := none) (bA 14 16383) rfl rfl (one_of HT_.out (by kernel_rfl)) (by decide) (fun K hK => ?_)
                 refine skip_ (w1 := ?_) (by rfl) rfl ?_ ?_
                 rotate_left
                 ·go_simp
                  rfl
                 refine hK.out _ _ ?_
                 clear hK K
                 refine done_ (done_of HT_.out (by kernel_rfl)) ?_
                 try go_wp2
                 go_roundg k3
                 case measure => have := HK1.out; have := HJ10.out; have := HK3.out; omega
                 case rel => exact ⟨(y163), (x11_3), (wrap64 (x17_1 + 1)), (by first | rfl | (simp; done) | (simp [*]; done)), (by first | rfl | (simp; done) | (simp [*]; done)), H', ⟨by have := HK1.out; have := HJ10.out; have := HK3.out; omega⟩, ⟨by (with_reducible repeat (first | apply Kd.S_alloc | apply Kd.S_drewN | apply Kd.S_drew)); exact HQ59.out⟩, ⟨(belS HB.out)⟩⟩
                ·rw [if_neg c51] at H
                 exact absurd H (by simp)
               ·rw [if_neg c50] at H
                exact absurd H (by simp)
              ·rw [if_neg c49] at H
               exact absurd H (by simp)
             ·rw [if_neg c48] at H
              exact absurd H (by simp)
            ·rw [if_neg c47] at H
             have c47b0 : (x11_3 == (x4_1.length : Int)) = false := beq_eq_false_iff_ne.mpr c47
             have c47b1 : (x11_3 != (x4_1.length : Int)) = true := bne_iff_ne.mpr c47
             by_cases c62 : 0 ≤ x11_3
             ·rw [if_pos c62] at H
              exact absurd H (by simp)
             ·rw [if_neg c62] at H
              exact absurd H (by simp)
     ·rw [if_neg c10] at H
      exact absurd H (by simp)
    ·rw [if_neg c9] at H
     exact absurd H (by simp)
   ·rw [if_neg c8] at H
    have c8b0 : decide (x17_1 < (l0.length : Int)) = false := decide_eq_false c8
    clear c8
    obtain rfl := Option.some.inj H
    go_wp2
    go_ret
    exact ⟨_, by first | rfl | (simp [errW_none, errW_some] <;> rfl) | (simp [*, errW_none, errW_some] <;> rfl), by (with_reducible repeat (first | apply Kd.S_alloc | apply Kd.S_drewN | apply Kd.S_drew)); exact HO_4.out, (belN HB.out)⟩

end Go.Proofs.Ytlmhgjnlbokceaa.PDownTells

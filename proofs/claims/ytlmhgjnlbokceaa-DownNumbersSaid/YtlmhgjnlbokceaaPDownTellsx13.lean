/- The walk of the Go functions that a law reaches, told as plain functions; a program of this session has written it. No condition beyond the statement's own. -/
import Derived.Test.YtlmhgjnlbokceaaPDownTellsx0
import Derived.Test.YtlmhgjnlbokceaaPDownTellsx3
import Derived.Test.YtlmhgjnlbokceaaPDownTellsx10
import Derived.Test.YtlmhgjnlbokceaaPDownTellsx11
import Derived.Test.YtlmhgjnlbokceaaPDownTellsx12
namespace Go.Proofs.Ytlmhgjnlbokceaa.PDownTells
open Go.RowKit Go.Proofs.YtlmhgjnlbokceaaW.PrintWords Go.Proofs.YtlmhgjnlbokceaaW.PrintLast Go.Proofs.YtlmhgjnlbokceaaW.PrintMore
attribute [local go_sem] max2_int min2_int max_two min_two max_three min_three max_four min_four   -- for this text's walks alone
set_option linter.unusedVariables false
set_option linter.unusedSimpArgs false

/-! ### marigraphref20_Do: function 16 -/
mutual
def marigraphref20_Do.j0 : Nat → Int → List (S29) → Bool → Option (Int × Int × Int)
 | 0, _, _, _ => none
 | k + 1, x0, x1, x19 => if x19 = true then (some (0, 0, 1)) else (marigraphref20_Do.l0 k x0 x1 0)
def marigraphref20_Do.l0 : Nat → Int → List (S29) → Int → Option (Int × Int × Int)
 | 0, _, _, _ => none
 | k + 1, x0, x1, x6 => if x6 < (x1.length : Int) then (if 0 ≤ x6 then ((marigraphref1_Right.f k ((rd_T29 x1 x6).f0) ((rd_T29 x1 x6).f1)).bind fun t283 => (if t283 = true then (marigraphref20_Do.l0 k x0 x1 (wrap64 (x6 + 1))) else (some (0, 0, 1)))) else (none)) else (if 0 < (x1.length : Int) then (if x0 = 5 then ((marigraphref1_New.f k (x1.length : Int) 1).bind fun bt286 => (some (bt286.1, bt286.2.1, bt286.2.2))) else (if x0 = 6 then (some ((rd_T29 x1 0).f0, (rd_T29 x1 0).f1, 0)) else (if x0 = 7 then (if 0 ≤ (wrap64 ((x1.length : Int) - 1)) then (if (wrap64 ((x1.length : Int) - 1)) < (x1.length : Int) then (some ((rd_T29 x1 (wrap64 ((x1.length : Int) - 1))).f0, (rd_T29 x1 (wrap64 ((x1.length : Int) - 1))).f1, 0)) else (none)) else (none)) else (marigraphref20_Do.l1 k x0 x1 1 ((rd_T29 x1 0).f0) ((rd_T29 x1 0).f1))))) else (none))
def marigraphref20_Do.l1 : Nat → Int → List (S29) → Int → Int → Int → Option (Int × Int × Int)
 | 0, _, _, _, _, _ => none
 | k + 1, x0, x1, x8, x286000, x286001 => if x8 < (x1.length : Int) then (if 0 ≤ x8 then ((marigraphref1_Cmp.f k ((rd_T29 x1 x8).f0) ((rd_T29 x1 x8).f1) x286000 x286001).bind fun t294 => (if x0 = 2 then (if t294 < 0 then (marigraphref20_Do.l1 k x0 x1 (wrap64 (x8 + 1)) ((rd_T29 x1 x8).f0) ((rd_T29 x1 x8).f1)) else (marigraphref20_Do.l1 k x0 x1 (wrap64 (x8 + 1)) x286000 x286001)) else (if x0 = 3 then (if t294 > 0 then (marigraphref20_Do.l1 k x0 x1 (wrap64 (x8 + 1)) ((rd_T29 x1 x8).f0) ((rd_T29 x1 x8).f1)) else (marigraphref20_Do.l1 k x0 x1 (wrap64 (x8 + 1)) x286000 x286001)) else ((marigraphref1_Op.f k 43 x286000 x286001 ((rd_T29 x1 x8).f0) ((rd_T29 x1 x8).f1)).bind fun bt298 => (if bt298.2.2 = 0 then (marigraphref20_Do.l1 k x0 x1 (wrap64 (x8 + 1)) bt298.1 bt298.2.1) else (some (0, 0, bt298.2.2))))))) else (none)) else (if x0 = 4 then ((marigraphref1_Op.f k 47 x286000 x286001 (x1.length : Int) 1).bind fun bt290 => (some (bt290.1, bt290.2.1, bt290.2.2))) else (some (x286000, x286001, 0)))
end
def marigraphref20_Do.f (k : Nat) (a0 : Int) (l1 : List (S29)) : Option (Int × Int × Int) := (marigraphref20_Right.f a0).bind fun t281 => (if t281 = true then (marigraphref20_Do.j0 k a0 l1 ((l1.length : Int) == 0)) else (marigraphref20_Do.j0 k a0 l1 true))
theorem marigraphref20_Do.mono_l : ∀ k, (∀ y0 y1 y2, LeO (marigraphref20_Do.j0 k y0 y1 y2) (marigraphref20_Do.j0 (k + 1) y0 y1 y2)) ∧ (∀ y0 y1 y2, LeO (marigraphref20_Do.l0 k y0 y1 y2) (marigraphref20_Do.l0 (k + 1) y0 y1 y2)) ∧ (∀ y0 y1 y2 y3 y4, LeO (marigraphref20_Do.l1 k y0 y1 y2 y3 y4) (marigraphref20_Do.l1 (k + 1) y0 y1 y2 y3 y4))
 | 0 => ⟨fun _ _ _ r h => by simp [marigraphref20_Do.j0] at h, fun _ _ _ r h => by simp [marigraphref20_Do.l0] at h, fun _ _ _ _ _ r h => by simp [marigraphref20_Do.l1] at h⟩
 | k + 1 => by
  obtain ⟨ih0, ih1, ih2⟩ := marigraphref20_Do.mono_l k
  refine ⟨?_, ?_, ?_⟩
  ·intro y0 y1 y2
   unfold marigraphref20_Do.j0
   repeat' first
   | (with_reducible exact ih0 _ _ _)
   | (with_reducible exact ih1 _ _ _)
   | (with_reducible exact ih2 _ _ _ _ _)
   | (with_reducible exact marigraphref1_Cmp.mono _ _ _ _ _)
   | (with_reducible exact marigraphref1_New.mono _ _ _)
   | (with_reducible exact marigraphref1_Op.mono _ _ _ _ _ _)
   | (with_reducible exact marigraphref1_Right.mono _ _ _)
   | (with_reducible exact LeO.refl _)
   | (with_reducible exact LeO.none _)
   | (with_reducible refine LeO.ite ?_ ?_)
   | (with_reducible refine LeO.bind ?_ (fun _ => ?_))
   | exact ih0 _ _ _
   | exact ih1 _ _ _
   | exact ih2 _ _ _ _ _
   | exact marigraphref1_Cmp.mono _ _ _ _ _
   | exact marigraphref1_New.mono _ _ _
   | exact marigraphref1_Op.mono _ _ _ _ _ _
   | exact marigraphref1_Right.mono _ _ _
   | exact LeO.none _
   | refine LeO.ite ?_ ?_
   | refine LeO.bind ?_ (fun _ => ?_)
  ·intro y0 y1 y2
   unfold marigraphref20_Do.l0
   repeat' first
   | (with_reducible exact ih0 _ _ _)
   | (with_reducible exact ih1 _ _ _)
   | (with_reducible exact ih2 _ _ _ _ _)
   | (with_reducible exact marigraphref1_Cmp.mono _ _ _ _ _)
   | (with_reducible exact marigraphref1_New.mono _ _ _)
   | (with_reducible exact marigraphref1_Op.mono _ _ _ _ _ _)
   | (with_reducible exact marigraphref1_Right.mono _ _ _)
   | (with_reducible exact LeO.refl _)
   | (with_reducible exact LeO.none _)
   | (with_reducible refine LeO.ite ?_ ?_)
   | (with_reducible refine LeO.bind ?_ (fun _ => ?_))
   | exact ih0 _ _ _
   | exact ih1 _ _ _
   | exact ih2 _ _ _ _ _
   | exact marigraphref1_Cmp.mono _ _ _ _ _
   | exact marigraphref1_New.mono _ _ _
   | exact marigraphref1_Op.mono _ _ _ _ _ _
   | exact marigraphref1_Right.mono _ _ _
   | exact LeO.none _
   | refine LeO.ite ?_ ?_
   | refine LeO.bind ?_ (fun _ => ?_)
  ·intro y0 y1 y2 y3 y4
   unfold marigraphref20_Do.l1
   repeat' first
   | (with_reducible exact ih0 _ _ _)
   | (with_reducible exact ih1 _ _ _)
   | (with_reducible exact ih2 _ _ _ _ _)
   | (with_reducible exact marigraphref1_Cmp.mono _ _ _ _ _)
   | (with_reducible exact marigraphref1_New.mono _ _ _)
   | (with_reducible exact marigraphref1_Op.mono _ _ _ _ _ _)
   | (with_reducible exact marigraphref1_Right.mono _ _ _)
   | (with_reducible exact LeO.refl _)
   | (with_reducible exact LeO.none _)
   | (with_reducible refine LeO.ite ?_ ?_)
   | (with_reducible refine LeO.bind ?_ (fun _ => ?_))
   | exact ih0 _ _ _
   | exact ih1 _ _ _
   | exact ih2 _ _ _ _ _
   | exact marigraphref1_Cmp.mono _ _ _ _ _
   | exact marigraphref1_New.mono _ _ _
   | exact marigraphref1_Op.mono _ _ _ _ _ _
   | exact marigraphref1_Right.mono _ _ _
   | exact LeO.none _
   | refine LeO.ite ?_ ?_
   | refine LeO.bind ?_ (fun _ => ?_)
theorem marigraphref20_Do.mono : ∀ a0 a1 k, LeO (marigraphref20_Do.f k a0 a1) (marigraphref20_Do.f (k + 1) a0 a1) := by
 intro a0 a1 k
 obtain ⟨ih0, ih1, ih2⟩ := marigraphref20_Do.mono_l k
 unfold marigraphref20_Do.f
 repeat' first
   | (with_reducible exact ih0 _ _ _)
   | (with_reducible exact ih1 _ _ _)
   | (with_reducible exact ih2 _ _ _ _ _)
   | (with_reducible exact marigraphref1_Cmp.mono _ _ _ _ _)
   | (with_reducible exact marigraphref1_New.mono _ _ _)
   | (with_reducible exact marigraphref1_Op.mono _ _ _ _ _ _)
   | (with_reducible exact marigraphref1_Right.mono _ _ _)
   | (with_reducible exact LeO.refl _)
   | (with_reducible exact LeO.none _)
   | (with_reducible refine LeO.ite ?_ ?_)
   | (with_reducible refine LeO.bind ?_ (fun _ => ?_))
   | exact ih0 _ _ _
   | exact ih1 _ _ _
   | exact ih2 _ _ _ _ _
   | exact marigraphref1_Cmp.mono _ _ _ _ _
   | exact marigraphref1_New.mono _ _ _
   | exact marigraphref1_Op.mono _ _ _ _ _ _
   | exact marigraphref1_Right.mono _ _ _
   | exact LeO.none _
   | refine LeO.ite ?_ ?_
   | refine LeO.bind ?_ (fun _ => ?_)
def marigraphref20_Do.T21 : Bool × List (List Nat × List Nat) := (true, [([], []), ([], []), ([], []), ([1, 2], [1, 2]), ([3], [3]), ([0, 4], [0, 4]), ([5], [5]), ([6], [6]), ([6], [6]), ([], []), ([9, 7, 5, 0, 1, 2, 3, 4, 5, 6, 7, 9], [7, 9]), ([8, 10, 0, 1, 2, 3, 4, 5, 6, 7, 8, 9, 10], [8])])
def marigraphref20_Do.B21 : List Nat := [0, 0, 0, 6, 14, 31, 63, 127, 127, 0, 767, 2047]
theorem marigraphref20_Do.tab21 : rtab .any (opsOf Try.f16 21) = marigraphref20_Do.T21 := by kernel_rfl
theorem marigraphref20_Do.bits21 : waitsOk marigraphref20_Do.T21.2 marigraphref20_Do.B21 = true := by kernel_rfl
set_option maxHeartbeats 8000000 in
set_option maxRecDepth 100000 in
theorem marigraphref20_Do.calls (k : Nat) (a0 : Int) (A1 : Option Addr) (c1 : Nat) (l1 : List (S29)) (r1 : Int) (r2 : Int) (r3 : Int) (w : World) (hr1 : Kd.C k29 w A1 l1.length l1) (hc1 : l1.length ≤ c1) (h : marigraphref20_Do.f k a0 l1 = some (r1, r2, r3)) :
  Calls Try.prog 16 #[.int .i64 a0, .slice A1 l1.length c1] w fun e w' => e = .returned (.tuple #[.agg #[.int .i64 r1, .int .i64 r2], .int .i64 r3]) ∧ Below w.heap.size w w' := by
 have hu29 := Try.underlying29
 have HR1 := Aside0.mk hr1
 have HC1 := Aside0.mk hc1
 clear hr1 hc1
 have HB := Aside0.mk (Below.refl w.heap.size w)
 have H : ((marigraphref20_Right.f a0).bind fun t281 => (if t281 = true then (marigraphref20_Do.j0 k a0 l1 ((l1.length : Int) == 0)) else (marigraphref20_Do.j0 k a0 l1 true))) = some (r1, r2, r3) := h
 clear h
 have HC3 := Aside0.mk H
 clear H
 go_enter Try.func16, Try.ntmps16
 go_upto_region 1 with (first | ((with_reducible refine gate_dst (N := 4) rfl ?_); (try (refine gate_guard (by rfl) ?_; dsimp only)); refine box_event ?hg (N := 4) ?hd (cs := #[.int .i64 0, .int .i64 0]) (t := 29) ?hr ?_; (case hd => rfl); (case hg => rfl); (case hr => first | (go_simp; done) | (go_simp; rfl)); intro gb280 hg w4 hbox hb; have n0_ := Aside0.mk (below_step (belN HB.out) hb); have n1_ := Aside0.mk (hbox); have n2_ := Aside0.mk (szB hg HB.out); have n3_ := Aside0.mk (szB hg HB.out); clear HB; have HB := n0_; have BK280 := n1_; have GW280 := n2_; have GE280 := n3_; clear n0_ n1_ n2_ n3_; clear hb hbox hg))
 (try simp only [Act.put, List.setIfInBounds_toArray, List.set_cons_zero, List.set_cons_succ])
 go_cut [19] (fun v19 wc => ∃ (kq : Nat) (x19_2 : Bool), v19 = .bool x19_2 ∧ Aside0 (marigraphref20_Do.j0 kq a0 l1 x19_2 = some (r1, r2, r3)) ∧ Aside0 (kq ≤ k) ∧ Aside0 (wc.heap[gb280]? = some (.cells #[.int .i64 0, .int .i64 0] 29 (0, 0))) ∧ Aside0 (Below w.heap.size w wc))
 case first =>
  have H := HC3.out
  clear HC3
  replace H := Option.bind_eq_some_iff.mp H
  obtain ⟨t281, A50, H⟩ := H
  replace H : (if t281 = true then (marigraphref20_Do.j0 k a0 l1 ((l1.length : Int) == 0)) else (marigraphref20_Do.j0 k a0 l1 true)) = some (r1, r2, r3) := H
  have A5 := Aside0.mk A50
  clear A50
  by_cases c6 : t281 = true
  ·subst c6
   have H1 : (marigraphref20_Do.j0 k a0 l1 ((l1.length : Int) == 0)) = some (r1, r2, r3) := by rw [if_pos rfl] at H; exact H
   clear H
   have H := H1
   clear H1
   have H' := Aside0.mk H
   clear H
   go_wp2_with (first | ((with_reducible refine gate_callee (f := 14) rfl ?_); refine goesL_ (some 13) rfl rfl Try.func14 (by kernel_rfl) rfl #[.int .i64 a0] rfl argN ?_; (with_reducible refine (marigraphref20_Right.calls a0 true _ A5.out).mono ?_); rintro e w' ⟨rfl, ⟨nd, rfl⟩⟩; refine ⟨_, rfl, ?_⟩))
   go_meet
   case rel => exact ⟨_, (((l1.length : Int) == 0)), (by first | rfl | (simp; done) | (simp [*]; done)), H', ⟨by first | omega | exact Nat.le_refl _⟩, ⟨blkN BK280.out⟩, ⟨(belS HB.out)⟩⟩
  ·replace c6 := Bool.eq_false_iff.mpr c6
   subst c6
   have H1 : (marigraphref20_Do.j0 k a0 l1 true) = some (r1, r2, r3) := by rw [if_neg (show ¬ (false = true) by decide)] at H; exact H
   clear H
   have H := H1
   clear H1
   have H' := Aside0.mk H
   clear H
   go_wp2_with (first | ((with_reducible refine gate_callee (f := 14) rfl ?_); refine goesL_ (some 13) rfl rfl Try.func14 (by kernel_rfl) rfl #[.int .i64 a0] rfl argN ?_; (with_reducible refine (marigraphref20_Right.calls a0 false _ A5.out).mono ?_); rintro e w' ⟨rfl, ⟨nd, rfl⟩⟩; refine ⟨_, rfl, ?_⟩))
   go_meet
   case rel => exact ⟨_, (true), (by first | rfl | (simp; done) | (simp [*]; done)), H', ⟨by first | omega | exact Nat.le_refl _⟩, ⟨blkN BK280.out⟩, ⟨(belS HB.out)⟩⟩
 case rest =>
  clear HC3
  try clear c1
  try clear p2
  try clear c6
  obtain ⟨kq, x19_2, rfl, HA, HJ2, BK280, HB⟩ := hcut
  cases kq with
  | zero => exact absurd HA.out (by simp [marigraphref20_Do.j0])
  | succ kj2 =>
   have H := HA.out
   clear HA
   simp only [marigraphref20_Do.j0] at H
   by_cases c7 : x19_2 = true
   ·subst c7
    have H1 : (some (0, 0, 1)) = some (r1, r2, r3) := by rw [if_pos rfl] at H; exact H
    clear H
    have H := H1
    clear H1
    simp only [Option.some.injEq, Prod.mk.injEq] at H
    obtain ⟨rfl, rfl, rfl⟩ := H
    have hcz8_0 : wc.cell? ⟨gb280, 0, none⟩ = some (.int .i64 0) := (blk_cell BK280.out 0).trans rfl
    have hcz8_1 : wc.cell? ⟨gb280, 1, none⟩ = some (.int .i64 0) := (blk_cell BK280.out 1).trans rfl
    have hfz8_0 := blk_frozen BK280.out 0
    have hfz8_1 := blk_frozen BK280.out 1
    go_wp2
    refine bodyPost_ret (results_ct rfl _ _ gb280 29 #[.int .i64 0, .int .i64 0] (0, 0) _ rfl (by (with_reducible repeat (first | refine blk_drewN ?_ _ | refine blk_drew ?_ | refine blk_alloc ?_ _)); refine blk_put (cs := #[.int .i64 0, .int .i64 0]) ?_ 1 _ rfl; (with_reducible repeat (first | refine blk_drewN ?_ _ | refine blk_drew ?_ | refine blk_alloc ?_ _)); refine blk_put (cs := #[.int .i64 0, .int .i64 0]) ?_ 0 _ rfl; (with_reducible repeat (first | refine blk_drewN ?_ _ | refine blk_drew ?_ | refine blk_alloc ?_ _)); exact BK280.out) Try.underlying29 rfl (by kernel_rfl)) rfl ?_
    exact ⟨by first | rfl | (simp [errW_none, errW_some] <;> rfl) | (simp [*, errW_none, errW_some] <;> rfl), (belS HB.out)⟩
   ·replace c7 := Bool.eq_false_iff.mpr c7
    subst c7
    have H1 : (marigraphref20_Do.l0 kj2 a0 l1 0) = some (r1, r2, r3) := by rw [if_neg (show ¬ (false = true) by decide)] at H; exact H
    clear H
    have H := H1
    clear H1
    have H' := Aside0.mk H
    clear H
    go_wp2
    go_loopg [6] kj2 (fun kq v6 w' => ∃ (x6_2 : Int) (x281000_2 : Int) (x281001_2 : Int), v6 = .int .i64 x6_2 ∧ Aside0 (marigraphref20_Do.l0 kq a0 l1 x6_2 = some (r1, r2, r3)) ∧ Aside0 (kq ≤ kj2) ∧ Aside0 (w'.heap[gb280]? = some (.cells #[.int .i64 x281000_2, .int .i64 x281001_2] 29 (0, 0))) ∧ Aside0 (Below w.heap.size w w'))
    case atStart => exact ⟨(0), (0), (0), (by first | rfl | (simp; done) | (simp [*]; done)), H', ⟨Nat.le_refl _⟩, ⟨blkN BK280.out⟩, ⟨(belS HB.out)⟩⟩
    case round =>
     clear H'
     try clear c1
     try clear p2
     try clear c6
     try clear c7
     try clear hcz8_0
     try clear hcz8_1
     try clear hfz8_0
     try clear hfz8_1
     try clear p2
     obtain ⟨x6_2, x281000_2, x281001_2, rfl, HA, HK2, BK280, HB⟩ := hrel
     cases gk with
     | zero => exact absurd HA.out (by simp [marigraphref20_Do.l0])
     | succ k2 =>
      have H := HA.out
      clear HA
      simp only [marigraphref20_Do.l0] at H
      by_cases c9 : x6_2 < (l1.length : Int)
      ·rw [if_pos c9] at H
       have c9b0 : decide (x6_2 < (l1.length : Int)) = true := decide_eq_true c9
       clear c9
       by_cases c10 : 0 ≤ x6_2
       ·rw [if_pos c10] at H
        have c10b0 : decide (0 ≤ x6_2) = true := decide_eq_true c10
        clear c10
        replace H := Option.bind_eq_some_iff.mp H
        obtain ⟨t283, A110, H⟩ := H
        replace H : (if t283 = true then (marigraphref20_Do.l0 k2 a0 l1 (wrap64 (x6_2 + 1))) else (some (0, 0, 1))) = some (r1, r2, r3) := H
        have A11 := Aside0.mk A110
        clear A110
        by_cases c12 : t283 = true
        ·subst c12
         have H1 : (marigraphref20_Do.l0 k2 a0 l1 (wrap64 (x6_2 + 1))) = some (r1, r2, r3) := by rw [if_pos rfl] at H; exact H
         clear H
         have H := H1
         clear H1
         have H' := Aside0.mk H
         clear H
         have p282 : 0 ≤ (x6_2 : Int) := of_decide_eq_true (by first | (with_reducible assumption) | assumption)
         have q282 : x6_2 < (l1.length : Int) := of_decide_eq_true (by first | (with_reducible assumption) | assumption)
         obtain ⟨ad282, e282, hx282_0, hx282_1⟩ := at_T29 HR1.out x6_2 p282 q282
         cases e282
         replace hx282_0 := cellB HB.out hx282_0
         replace hx282_1 := cellB HB.out hx282_1
         replace p282 := eq_true p282
         replace q282 := eq_true q282
         go_wp2_with (first | ((with_reducible refine gate_callee (f := 13) rfl ?_); refine goesL_ (some 31) rfl rfl Try.func13 (by kernel_rfl) rfl #[.agg #[.int .i64 ((rd_T29 l1 x6_2).f0), .int .i64 ((rd_T29 l1 x6_2).f1)]] rfl argN ?_; (with_reducible refine (marigraphref1_Right.calls k2 ((rd_T29 l1 x6_2).f0) ((rd_T29 l1 x6_2).f1) true _ A11.out).mono ?_); rintro e w13 ⟨rfl, hb⟩; refine ⟨_, rfl, ?_⟩; have n0_ := Aside0.mk (bkB BK280.out hb); have n1_ := Aside0.mk (below_step (belS HB.out) hb); clear BK280; clear HB; have BK280 := n0_; have HB := n1_; clear n0_ n1_; (try clear hb)))
         go_roundg k2
         case measure => have := HJ2.out; have := HK2.out; omega
         case rel => exact ⟨(wrap64 (x6_2 + 1)), (x281000_2), (x281001_2), (by first | rfl | (simp; done) | (simp [*]; done)), H', ⟨by have := HJ2.out; have := HK2.out; omega⟩, ⟨blkN BK280.out⟩, ⟨(belS HB.out)⟩⟩
        ·replace c12 := Bool.eq_false_iff.mpr c12
         subst c12
         have H1 : (some (0, 0, 1)) = some (r1, r2, r3) := by rw [if_neg (show ¬ (false = true) by decide)] at H; exact H
         clear H
         have H := H1
         clear H1
         simp only [Option.some.injEq, Prod.mk.injEq] at H
         obtain ⟨rfl, rfl, rfl⟩ := H
         have p282 : 0 ≤ (x6_2 : Int) := of_decide_eq_true (by first | (with_reducible assumption) | assumption)
         have q282 : x6_2 < (l1.length : Int) := of_decide_eq_true (by first | (with_reducible assumption) | assumption)
         obtain ⟨ad282, e282, hx282_0, hx282_1⟩ := at_T29 HR1.out x6_2 p282 q282
         cases e282
         replace hx282_0 := cellB HB.out hx282_0
         replace hx282_1 := cellB HB.out hx282_1
         replace p282 := eq_true p282
         replace q282 := eq_true q282
         go_wp2_with (first | ((with_reducible refine gate_callee (f := 13) rfl ?_); refine goesL_ (some 31) rfl rfl Try.func13 (by kernel_rfl) rfl #[.agg #[.int .i64 ((rd_T29 l1 x6_2).f0), .int .i64 ((rd_T29 l1 x6_2).f1)]] rfl argN ?_; (with_reducible refine (marigraphref1_Right.calls k2 ((rd_T29 l1 x6_2).f0) ((rd_T29 l1 x6_2).f1) false _ A11.out).mono ?_); rintro e w14 ⟨rfl, hb⟩; refine ⟨_, rfl, ?_⟩; have n0_ := Aside0.mk (bkB BK280.out hb); have n1_ := Aside0.mk (below_step (belS HB.out) hb); clear BK280; clear HB; have BK280 := n0_; have HB := n1_; clear n0_ n1_; (try clear hb); have hcz15_0 : w14.cell? ⟨gb280, 0, none⟩ = some (.int .i64 x281000_2) := (blk_cell BK280.out 0).trans rfl; have hcz15_1 : w14.cell? ⟨gb280, 1, none⟩ = some (.int .i64 x281001_2) := (blk_cell BK280.out 1).trans rfl; have hfz15_0 := blk_frozen BK280.out 0; have hfz15_1 := blk_frozen BK280.out 1))
         refine bodyPost_ret (results_ct rfl _ _ gb280 29 #[.int .i64 0, .int .i64 0] (0, 0) _ rfl (by (with_reducible repeat (first | refine blk_drewN ?_ _ | refine blk_drew ?_ | refine blk_alloc ?_ _)); refine blk_put (cs := #[.int .i64 0, .int .i64 x281001_2]) ?_ 1 _ rfl; (with_reducible repeat (first | refine blk_drewN ?_ _ | refine blk_drew ?_ | refine blk_alloc ?_ _)); refine blk_put (cs := #[.int .i64 x281000_2, .int .i64 x281001_2]) ?_ 0 _ rfl; (with_reducible repeat (first | refine blk_drewN ?_ _ | refine blk_drew ?_ | refine blk_alloc ?_ _)); exact BK280.out) Try.underlying29 rfl (by kernel_rfl)) rfl ?_
         exact ⟨by first | rfl | (simp [errW_none, errW_some] <;> rfl) | (simp [*, errW_none, errW_some] <;> rfl), (belS HB.out)⟩
       ·rw [if_neg c10] at H
        exact absurd H (by simp)
      ·rw [if_neg c9] at H
       have c9b0 : decide (x6_2 < (l1.length : Int)) = false := decide_eq_false c9
       clear c9
       by_cases c16 : 0 < (l1.length : Int)
       ·rw [if_pos c16] at H
        have c16b0 : decide (0 < (l1.length : Int)) = true := decide_eq_true c16
        have c16b1 : decide (0 < l1.length) = true := decide_eq_true (by omega)
        clear c16
        by_cases c17 : a0 = 5
        ·rw [if_pos c17] at H
         have c17b0 : (a0 == 5) = true := beq_iff_eq.mpr c17
         have c17b1 : (a0 != 5) = false := bne_eq_false_iff_eq.mpr c17
         clear c17
         replace H := Option.bind_eq_some_iff.mp H
         obtain ⟨⟨t286, t287, t288⟩, A180, H⟩ := H
         replace H : (some (t286, t287, t288)) = some (r1, r2, r3) := H
         have A18 := Aside0.mk A180
         clear A180
         simp only [Option.some.injEq, Prod.mk.injEq] at H
         obtain ⟨rfl, rfl, rfl⟩ := H
         have p284 : 0 ≤ (0 : Int) := (by omega)
         have q284 : 0 < (l1.length : Int) := of_decide_eq_true (by first | (with_reducible assumption) | assumption)
         obtain ⟨ad284, e284, hx284_0, hx284_1⟩ := at_T29 HR1.out 0 p284 q284
         cases e284
         have qi284 : (0 < l1.length) = True := eq_true (by omega)
         (try rw [show ((0 : Int)).toNat = 0 from rfl] at hx284_0)
         (try rw [show 0 * 2 = 0 from rfl] at hx284_0)
         (try rw [Addr.add_zero'] at hx284_0)
         (try rw [show ((0 : Int)).toNat = 0 from rfl] at hx284_1)
         (try rw [show 0 * 2 = 0 from rfl] at hx284_1)
         (try rw [Addr.add_zero'] at hx284_1)
         replace hx284_0 := cellB HB.out hx284_0
         replace hx284_1 := cellB HB.out hx284_1
         replace p284 := eq_true p284
         replace q284 := eq_true q284
         go_wp2_with (first | ((with_reducible refine gate_dst (N := 7) rfl ?_); (try (refine gate_guard (by rfl) ?_; dsimp only)); refine box_event ?hg (N := 7) ?hd (cs := #[.int .i64 0, .int .i64 0]) (t := 29) ?hr ?_; (case hd => rfl); (case hg => rfl); (case hr => first | (go_simp; done) | (go_simp; rfl)); intro gb285 hg w19 hbox hb; have n0_ := Aside0.mk (bkB BK280.out hb); have n1_ := Aside0.mk (below_step (belS HB.out) hb); have n2_ := Aside0.mk (hbox); have n3_ := Aside0.mk (szB hg HB.out); have n4_ := Aside0.mk (szB hg HB.out); have n5_ := Aside0.mk ((bk1 hg BK280.out)); have n6_ := Aside0.mk ((bk2 hg BK280.out)); clear BK280; clear HB; have BK280 := n0_; have HB := n1_; have BK285 := n2_; have GW285 := n3_; have GE285 := n4_; have NB280_285 := n5_; have NB285_280 := n6_; clear n0_ n1_ n2_ n3_ n4_ n5_ n6_; clear hb hbox hg; have hnb20 := NB285_280.out; have hnc20 := NB280_285.out; have hcz21_0 : w19.cell? ⟨gb285, 0, none⟩ = some (.int .i64 0) := (blk_cell BK285.out 0).trans rfl; have hcz21_1 : w19.cell? ⟨gb285, 1, none⟩ = some (.int .i64 0) := (blk_cell BK285.out 1).trans rfl; have hfz21_0 := blk_frozen BK285.out 0; have hfz21_1 := blk_frozen BK285.out 1) | ((with_reducible refine gate_callee (f := 27) rfl ?_); refine goesL_ (some 42) rfl rfl Try.func27 (by kernel_rfl) rfl #[.int .i64 (l1.length : Int), .int .i64 1] rfl argN ?_; (with_reducible refine (marigraphref1_New.calls k2 (l1.length : Int) 1 t286 t287 t288 _ A18.out).mono ?_); rintro e w22 ⟨rfl, hb⟩; refine ⟨_, rfl, ?_⟩; have n0_ := Aside0.mk (bkBF BK280.out hb); have n1_ := Aside0.mk (blk_below (g := gb285) (o := .cells #[.int .i64 ((rd_T29 l1 0).f0), .int .i64 ((rd_T29 l1 0).f1)] 29 (0, 0)) (by (with_reducible repeat (first | refine blk_drewN ?_ _ | refine blk_drew ?_ | refine blk_alloc ?_ _)); refine blk_put (cs := #[.int .i64 ((rd_T29 l1 0).f0), .int .i64 0]) ?_ 1 _ rfl; (with_reducible repeat (first | refine blk_drewN ?_ _ | refine blk_drew ?_ | refine blk_alloc ?_ _)); refine blk_put (cs := #[.int .i64 0, .int .i64 0]) ?_ 0 _ rfl; (with_reducible repeat (first | refine blk_drewN ?_ _ | refine blk_drew ?_ | refine blk_alloc ?_ _)); exact BK285.out) hb); have n2_ := Aside0.mk (below_step (belS HB.out) hb); clear BK280; clear BK285; clear HB; have BK280 := n0_; have BK285 := n1_; have HB := n2_; clear n0_ n1_ n2_; (try clear hb); have hcz23_0 : w22.cell? ⟨gb280, 0, none⟩ = some (.int .i64 x281000_2) := (blk_cell BK280.out 0).trans rfl; have hcz23_1 : w22.cell? ⟨gb280, 1, none⟩ = some (.int .i64 x281001_2) := (blk_cell BK280.out 1).trans rfl; have hfz23_0 := blk_frozen BK280.out 0; have hfz23_1 := blk_frozen BK280.out 1))
         refine bodyPost_ret (results_ct rfl _ _ gb280 29 #[.int .i64 t286, .int .i64 t287] (0, 0) _ rfl (by (with_reducible repeat (first | refine blk_drewN ?_ _ | refine blk_drew ?_ | refine blk_alloc ?_ _)); refine blk_put (cs := #[.int .i64 t286, .int .i64 x281001_2]) ?_ 1 _ rfl; (with_reducible repeat (first | refine blk_drewN ?_ _ | refine blk_drew ?_ | refine blk_alloc ?_ _)); refine blk_put (cs := #[.int .i64 x281000_2, .int .i64 x281001_2]) ?_ 0 _ rfl; (with_reducible repeat (first | refine blk_drewN ?_ _ | refine blk_drew ?_ | refine blk_alloc ?_ _)); exact BK280.out) Try.underlying29 rfl (by kernel_rfl)) rfl ?_
         exact ⟨by first | rfl | (simp [errW_none, errW_some] <;> rfl) | (simp [*, errW_none, errW_some] <;> rfl), (belS HB.out)⟩
        ·rw [if_neg c17] at H
         have c17b0 : (a0 == 5) = false := beq_eq_false_iff_ne.mpr c17
         have c17b1 : (a0 != 5) = true := bne_iff_ne.mpr c17
         by_cases c24 : a0 = 6
         ·rw [if_pos c24] at H
          have c24b0 : (a0 == 6) = true := beq_iff_eq.mpr c24
          have c24b1 : (a0 != 6) = false := bne_eq_false_iff_eq.mpr c24
          clear c24
          simp only [Option.some.injEq, Prod.mk.injEq] at H
          obtain ⟨rfl, rfl, rfl⟩ := H
          have p284 : 0 ≤ (0 : Int) := (by omega)
          have q284 : 0 < (l1.length : Int) := of_decide_eq_true (by first | (with_reducible assumption) | assumption)
          obtain ⟨ad284, e284, hx284_0, hx284_1⟩ := at_T29 HR1.out 0 p284 q284
          cases e284
          have qi284 : (0 < l1.length) = True := eq_true (by omega)
          (try rw [show ((0 : Int)).toNat = 0 from rfl] at hx284_0)
          (try rw [show 0 * 2 = 0 from rfl] at hx284_0)
          (try rw [Addr.add_zero'] at hx284_0)
          (try rw [show ((0 : Int)).toNat = 0 from rfl] at hx284_1)
          (try rw [show 0 * 2 = 0 from rfl] at hx284_1)
          (try rw [Addr.add_zero'] at hx284_1)
          replace hx284_0 := cellB HB.out hx284_0
          replace hx284_1 := cellB HB.out hx284_1
          replace p284 := eq_true p284
          replace q284 := eq_true q284
          go_wp2_with (first | ((with_reducible refine gate_dst (N := 7) rfl ?_); (try (refine gate_guard (by rfl) ?_; dsimp only)); refine box_event ?hg (N := 7) ?hd (cs := #[.int .i64 0, .int .i64 0]) (t := 29) ?hr ?_; (case hd => rfl); (case hg => rfl); (case hr => first | (go_simp; done) | (go_simp; rfl)); intro gb285 hg w25 hbox hb; have n0_ := Aside0.mk (bkB BK280.out hb); have n1_ := Aside0.mk (below_step (belS HB.out) hb); have n2_ := Aside0.mk (hbox); have n3_ := Aside0.mk (szB hg HB.out); have n4_ := Aside0.mk (szB hg HB.out); have n5_ := Aside0.mk ((bk1 hg BK280.out)); have n6_ := Aside0.mk ((bk2 hg BK280.out)); clear BK280; clear HB; have BK280 := n0_; have HB := n1_; have BK285 := n2_; have GW285 := n3_; have GE285 := n4_; have NB280_285 := n5_; have NB285_280 := n6_; clear n0_ n1_ n2_ n3_ n4_ n5_ n6_; clear hb hbox hg; have hnb26 := NB285_280.out; have hnc26 := NB280_285.out; have hcz27_0 : w25.cell? ⟨gb285, 0, none⟩ = some (.int .i64 0) := (blk_cell BK285.out 0).trans rfl; have hcz27_1 : w25.cell? ⟨gb285, 1, none⟩ = some (.int .i64 0) := (blk_cell BK285.out 1).trans rfl; have hfz27_0 := blk_frozen BK285.out 0; have hfz27_1 := blk_frozen BK285.out 1; have hcz28_0 : w25.cell? ⟨gb280, 0, none⟩ = some (.int .i64 x281000_2) := (blk_cell BK280.out 0).trans rfl; have hcz28_1 : w25.cell? ⟨gb280, 1, none⟩ = some (.int .i64 x281001_2) := (blk_cell BK280.out 1).trans rfl; have hfz28_0 := blk_frozen BK280.out 0; have hfz28_1 := blk_frozen BK280.out 1))
          refine bodyPost_ret (results_ct rfl _ _ gb280 29 #[.int .i64 ((rd_T29 l1 0).f0), .int .i64 ((rd_T29 l1 0).f1)] (0, 0) _ rfl (by (with_reducible repeat (first | refine blk_drewN ?_ _ | refine blk_drew ?_ | refine blk_alloc ?_ _)); refine blk_put (cs := #[.int .i64 ((rd_T29 l1 0).f0), .int .i64 x281001_2]) ?_ 1 _ rfl; (with_reducible repeat (first | refine blk_drewN ?_ _ | refine blk_drew ?_ | refine blk_alloc ?_ _)); refine blk_put (cs := #[.int .i64 x281000_2, .int .i64 x281001_2]) ?_ 0 _ rfl; (with_reducible repeat (first | refine blk_drewN ?_ _ | refine blk_drew ?_ | refine blk_alloc ?_ _)); refine blk_far ?_ NB280_285.out _; (with_reducible repeat (first | refine blk_drewN ?_ _ | refine blk_drew ?_ | refine blk_alloc ?_ _)); refine blk_far ?_ NB280_285.out _; (with_reducible repeat (first | refine blk_drewN ?_ _ | refine blk_drew ?_ | refine blk_alloc ?_ _)); exact BK280.out) Try.underlying29 rfl (by kernel_rfl)) rfl ?_
          exact ⟨by first | rfl | (simp [errW_none, errW_some] <;> rfl) | (simp [*, errW_none, errW_some] <;> rfl), (belS HB.out)⟩
         ·rw [if_neg c24] at H
          have c24b0 : (a0 == 6) = false := beq_eq_false_iff_ne.mpr c24
          have c24b1 : (a0 != 6) = true := bne_iff_ne.mpr c24
          by_cases c29 : a0 = 7
          ·rw [if_pos c29] at H
           have c29b0 : (a0 == 7) = true := beq_iff_eq.mpr c29
           have c29b1 : (a0 != 7) = false := bne_eq_false_iff_eq.mpr c29
           clear c29
           obtain ⟨ji30, hji30⟩ : ∃ j_ : Int, (wrap64 ((l1.length : Int) - 1)) = j_ := ⟨_, rfl⟩
           replace H : (if 0 ≤ (ji30) then (if (ji30) < (l1.length : Int) then (some ((rd_T29 l1 (ji30)).f0, (rd_T29 l1 (ji30)).f1, 0)) else (none)) else (none)) = some (r1, r2, r3) := by first | (rw [hji30] at H; exact H) | (simp only [hji30] at H ⊢; exact H)
           have hji30w : (IntKind.i64.wrap ((l1.length : Int) - 1)) = ji30 := (i64_w _).trans hji30
           by_cases c31 : 0 ≤ (ji30)
           ·rw [if_pos c31] at H
            have c31b0 : decide (0 ≤ (ji30)) = true := decide_eq_true c31
            clear c31
            by_cases c32 : (ji30) < (l1.length : Int)
            ·rw [if_pos c32] at H
             have c32b0 : decide ((ji30) < (l1.length : Int)) = true := decide_eq_true c32
             clear c32
             simp only [Option.some.injEq, Prod.mk.injEq] at H
             obtain ⟨rfl, rfl, rfl⟩ := H
             have p284 : 0 ≤ (0 : Int) := (by omega)
             have q284 : 0 < (l1.length : Int) := of_decide_eq_true (by first | (with_reducible assumption) | assumption)
             obtain ⟨ad284, e284, hx284_0, hx284_1⟩ := at_T29 HR1.out 0 p284 q284
             cases e284
             have qi284 : (0 < l1.length) = True := eq_true (by omega)
             (try rw [show ((0 : Int)).toNat = 0 from rfl] at hx284_0)
             (try rw [show 0 * 2 = 0 from rfl] at hx284_0)
             (try rw [Addr.add_zero'] at hx284_0)
             (try rw [show ((0 : Int)).toNat = 0 from rfl] at hx284_1)
             (try rw [show 0 * 2 = 0 from rfl] at hx284_1)
             (try rw [Addr.add_zero'] at hx284_1)
             replace hx284_0 := cellB HB.out hx284_0
             replace hx284_1 := cellB HB.out hx284_1
             replace p284 := eq_true p284
             replace q284 := eq_true q284
             go_wp2_with (first | ((with_reducible refine gate_dst (N := 7) rfl ?_); (try (refine gate_guard (by rfl) ?_; dsimp only)); refine box_event ?hg (N := 7) ?hd (cs := #[.int .i64 0, .int .i64 0]) (t := 29) ?hr ?_; (case hd => rfl); (case hg => rfl); (case hr => first | (go_simp; done) | (go_simp; rfl)); intro gb285 hg w33 hbox hb; have n0_ := Aside0.mk (bkB BK280.out hb); have n1_ := Aside0.mk (below_step (belS HB.out) hb); have n2_ := Aside0.mk (hbox); have n3_ := Aside0.mk (szB hg HB.out); have n4_ := Aside0.mk (szB hg HB.out); have n5_ := Aside0.mk ((bk1 hg BK280.out)); have n6_ := Aside0.mk ((bk2 hg BK280.out)); clear BK280; clear HB; have BK280 := n0_; have HB := n1_; have BK285 := n2_; have GW285 := n3_; have GE285 := n4_; have NB280_285 := n5_; have NB285_280 := n6_; clear n0_ n1_ n2_ n3_ n4_ n5_ n6_; clear hb hbox hg; have hnb34 := NB285_280.out; have hnc34 := NB280_285.out; have hcz35_0 : w33.cell? ⟨gb285, 0, none⟩ = some (.int .i64 0) := (blk_cell BK285.out 0).trans rfl; have hcz35_1 : w33.cell? ⟨gb285, 1, none⟩ = some (.int .i64 0) := (blk_cell BK285.out 1).trans rfl; have hfz35_0 := blk_frozen BK285.out 0; have hfz35_1 := blk_frozen BK285.out 1; have p289 : 0 ≤ ((ji30) : Int) := of_decide_eq_true (by first | (with_reducible assumption) | assumption); have q289 : (ji30) < (l1.length : Int) := of_decide_eq_true (by first | (with_reducible assumption) | assumption); obtain ⟨ad289, e289, hx289_0, hx289_1⟩ := at_T29 HR1.out (ji30) p289 q289; obtain rfl : ad284 = ad289 := (by injection e289); have hn289_0 : ad284.block ≠ gb285 := cellNe hx289_0 GW285.out; have hn289_1 : ad284.block ≠ gb285 := cellNe hx289_0 GW285.out; replace hx289_0 := cellB HB.out hx289_0; replace hx289_1 := cellB HB.out hx289_1; replace hx289_0 := (cell_far (p := ⟨gb285, 0, none⟩) (by first | (rw [add_block]; exact hn289_0) | (show (Addr.add _ _).block ≠ _; rw [add_block]; exact hn289_0) | exact hn289_0) (.int .i64 ((rd_T29 l1 0).f0))).trans hx289_0; replace hx289_1 := (cell_far (p := ⟨gb285, 0, none⟩) (by first | (rw [add_block]; exact hn289_0) | (show (Addr.add _ _).block ≠ _; rw [add_block]; exact hn289_0) | exact hn289_0) (.int .i64 ((rd_T29 l1 0).f0))).trans hx289_1; replace hx289_0 := (cell_far (p := ⟨gb285, 1, none⟩) (by first | (rw [add_block]; exact hn289_1) | (show (Addr.add _ _).block ≠ _; rw [add_block]; exact hn289_1) | exact hn289_1) (.int .i64 ((rd_T29 l1 0).f1))).trans hx289_0; replace hx289_1 := (cell_far (p := ⟨gb285, 1, none⟩) (by first | (rw [add_block]; exact hn289_1) | (show (Addr.add _ _).block ≠ _; rw [add_block]; exact hn289_1) | exact hn289_1) (.int .i64 ((rd_T29 l1 0).f1))).trans hx289_1; clear hn289_0; clear hn289_1; replace p289 := eq_true p289; replace q289 := eq_true q289; have hcz36_0 : w33.cell? ⟨gb280, 0, none⟩ = some (.int .i64 x281000_2) := (blk_cell BK280.out 0).trans rfl; have hcz36_1 : w33.cell? ⟨gb280, 1, none⟩ = some (.int .i64 x281001_2) := (blk_cell BK280.out 1).trans rfl; have hfz36_0 := blk_frozen BK280.out 0; have hfz36_1 := blk_frozen BK280.out 1))
             refine bodyPost_ret (results_ct rfl _ _ gb280 29 #[.int .i64 ((rd_T29 l1 (ji30)).f0), .int .i64 ((rd_T29 l1 (ji30)).f1)] (0, 0) _ rfl (by (with_reducible repeat (first | refine blk_drewN ?_ _ | refine blk_drew ?_ | refine blk_alloc ?_ _)); refine blk_put (cs := #[.int .i64 ((rd_T29 l1 (ji30)).f0), .int .i64 x281001_2]) ?_ 1 _ rfl; (with_reducible repeat (first | refine blk_drewN ?_ _ | refine blk_drew ?_ | refine blk_alloc ?_ _)); refine blk_put (cs := #[.int .i64 x281000_2, .int .i64 x281001_2]) ?_ 0 _ rfl; (with_reducible repeat (first | refine blk_drewN ?_ _ | refine blk_drew ?_ | refine blk_alloc ?_ _)); refine blk_far ?_ NB280_285.out _; (with_reducible repeat (first | refine blk_drewN ?_ _ | refine blk_drew ?_ | refine blk_alloc ?_ _)); refine blk_far ?_ NB280_285.out _; (with_reducible repeat (first | refine blk_drewN ?_ _ | refine blk_drew ?_ | refine blk_alloc ?_ _)); exact BK280.out) Try.underlying29 rfl (by kernel_rfl)) rfl ?_
             exact ⟨by first | rfl | (simp [errW_none, errW_some] <;> rfl) | (simp only [← hji30]; first | rfl | (simp [errW_none, errW_some] <;> rfl)) | (simp [*, errW_none, errW_some] <;> rfl), (belS HB.out)⟩
            ·rw [if_neg c32] at H
             exact absurd H (by simp)
           ·rw [if_neg c31] at H
            exact absurd H (by simp)
          ·rw [if_neg c29] at H
           have c29b0 : (a0 == 7) = false := beq_eq_false_iff_ne.mpr c29
           have c29b1 : (a0 != 7) = true := bne_iff_ne.mpr c29
           have H' := Aside0.mk H
           clear H
           have p284 : 0 ≤ (0 : Int) := (by omega)
           have q284 : 0 < (l1.length : Int) := of_decide_eq_true (by first | (with_reducible assumption) | assumption)
           obtain ⟨ad284, e284, hx284_0, hx284_1⟩ := at_T29 HR1.out 0 p284 q284
           cases e284
           have qi284 : (0 < l1.length) = True := eq_true (by omega)
           (try rw [show ((0 : Int)).toNat = 0 from rfl] at hx284_0)
           (try rw [show 0 * 2 = 0 from rfl] at hx284_0)
           (try rw [Addr.add_zero'] at hx284_0)
           (try rw [show ((0 : Int)).toNat = 0 from rfl] at hx284_1)
           (try rw [show 0 * 2 = 0 from rfl] at hx284_1)
           (try rw [Addr.add_zero'] at hx284_1)
           replace hx284_0 := cellB HB.out hx284_0
           replace hx284_1 := cellB HB.out hx284_1
           replace p284 := eq_true p284
           replace q284 := eq_true q284
           go_wp2_with (first | ((with_reducible refine gate_dst (N := 7) rfl ?_); (try (refine gate_guard (by rfl) ?_; dsimp only)); refine box_event ?hg (N := 7) ?hd (cs := #[.int .i64 0, .int .i64 0]) (t := 29) ?hr ?_; (case hd => rfl); (case hg => rfl); (case hr => first | (go_simp; done) | (go_simp; rfl)); intro gb285 hg w37 hbox hb; have n0_ := Aside0.mk (bkB BK280.out hb); have n1_ := Aside0.mk (below_step (belS HB.out) hb); have n2_ := Aside0.mk (hbox); have n3_ := Aside0.mk (szB hg HB.out); have n4_ := Aside0.mk (szB hg HB.out); have n5_ := Aside0.mk ((bk1 hg BK280.out)); have n6_ := Aside0.mk ((bk2 hg BK280.out)); clear BK280; clear HB; have BK280 := n0_; have HB := n1_; have BK285 := n2_; have GW285 := n3_; have GE285 := n4_; have NB280_285 := n5_; have NB285_280 := n6_; clear n0_ n1_ n2_ n3_ n4_ n5_ n6_; clear hb hbox hg; have hnb38 := NB285_280.out; have hnc38 := NB280_285.out; have hcz39_0 : w37.cell? ⟨gb285, 0, none⟩ = some (.int .i64 0) := (blk_cell BK285.out 0).trans rfl; have hcz39_1 : w37.cell? ⟨gb285, 1, none⟩ = some (.int .i64 0) := (blk_cell BK285.out 1).trans rfl; have hfz39_0 := blk_frozen BK285.out 0; have hfz39_1 := blk_frozen BK285.out 1))
           go_loopg [8] k2 (fun kq v8 w' => ∃ (x8_3 : Int) (x281000_3 : Int) (x281001_3 : Int) (x286000_3 : Int) (x286001_3 : Int), v8 = .int .i64 x8_3 ∧ Aside0 (marigraphref20_Do.l1 kq a0 l1 x8_3 x286000_3 x286001_3 = some (r1, r2, r3)) ∧ Aside0 (kq ≤ k2) ∧ Aside0 (w'.heap[gb280]? = some (.cells #[.int .i64 x281000_3, .int .i64 x281001_3] 29 (0, 0))) ∧ Aside0 (w'.heap[gb285]? = some (.cells #[.int .i64 x286000_3, .int .i64 x286001_3] 29 (0, 0))) ∧ Aside0 (Below w.heap.size w w'))
           case atStart => exact ⟨(1), (x281000_2), (x281001_2), ((rd_T29 l1 0).f0), ((rd_T29 l1 0).f1), (by first | rfl | (simp; done) | (simp [*]; done)), H', ⟨Nat.le_refl _⟩, ⟨blkF BK280.out⟩, ⟨by (with_reducible repeat (first | refine blk_drewN ?_ _ | refine blk_drew ?_ | refine blk_alloc ?_ _)); refine blk_put (cs := #[.int .i64 ((rd_T29 l1 0).f0), .int .i64 0]) ?_ 1 _ rfl; (with_reducible repeat (first | refine blk_drewN ?_ _ | refine blk_drew ?_ | refine blk_alloc ?_ _)); refine blk_put (cs := #[.int .i64 0, .int .i64 0]) ?_ 0 _ rfl; (with_reducible repeat (first | refine blk_drewN ?_ _ | refine blk_drew ?_ | refine blk_alloc ?_ _)); exact BK285.out⟩, ⟨(belS HB.out)⟩⟩
           case round =>
            clear H'
            try clear c1
            try clear c2
            try clear p2
            try clear q2
            try clear hx2
            try clear qi2
            try clear c3
            try clear c6
            try clear p6
            try clear c7
            try clear c9
            try clear c9b0
            try clear c10
            try clear c10b0
            try clear c12
            try clear c13
            try clear c14
            try clear c16
            try clear c16b0
            try clear c16b1
            try clear c17
            try clear c17b0
            try clear c17b1
            try clear c20
            try clear c24
            try clear c24b0
            try clear c24b1
            try clear c26
            try clear c27
            try clear p28
            try clear q28
            try clear hx28
            try clear qi28
            try clear c29
            try clear c29b0
            try clear c29b1
            try clear c31
            try clear c31b0
            try clear c32
            try clear c32b0
            try clear c34
            try clear c38
            try clear hcz15_0
            try clear hcz15_1
            try clear hcz21_0
            try clear hcz21_1
            try clear hcz23_0
            try clear hcz23_1
            try clear hcz27_0
            try clear hcz27_1
            try clear hcz28_0
            try clear hcz28_1
            try clear hcz35_0
            try clear hcz35_1
            try clear hcz36_0
            try clear hcz36_1
            try clear hcz39_0
            try clear hcz39_1
            try clear hcz8_0
            try clear hcz8_1
            try clear hfz15_0
            try clear hfz15_1
            try clear hfz21_0
            try clear hfz21_1
            try clear hfz23_0
            try clear hfz23_1
            try clear hfz27_0
            try clear hfz27_1
            try clear hfz28_0
            try clear hfz28_1
            try clear hfz35_0
            try clear hfz35_1
            try clear hfz36_0
            try clear hfz36_1
            try clear hfz39_0
            try clear hfz39_1
            try clear hfz8_0
            try clear hfz8_1
            try clear hx282_0
            try clear hx282_1
            try clear hx284_0
            try clear hx284_1
            try clear hx289_0
            try clear hx289_1
            try clear p2
            try clear p282
            try clear p284
            try clear p289
            try clear q282
            try clear q284
            try clear q289
            obtain ⟨x8_3, x281000_3, x281001_3, x286000_3, x286001_3, rfl, HA, HK3, BK280, BK285, HB⟩ := hrel
            cases gk with
            | zero => exact absurd HA.out (by simp [marigraphref20_Do.l1])
            | succ k3 =>
             have H := HA.out
             clear HA
             simp only [marigraphref20_Do.l1] at H
             by_cases c40 : x8_3 < (l1.length : Int)
             ·rw [if_pos c40] at H
              have c40b0 : decide (x8_3 < (l1.length : Int)) = true := decide_eq_true c40
              clear c40
              by_cases c41 : 0 ≤ x8_3
              ·rw [if_pos c41] at H
               have c41b0 : decide (0 ≤ x8_3) = true := decide_eq_true c41
               clear c41
               replace H := Option.bind_eq_some_iff.mp H
               obtain ⟨t294, A420, H⟩ := H
               replace H : (if a0 = 2 then (if t294 < 0 then (marigraphref20_Do.l1 k3 a0 l1 (wrap64 (x8_3 + 1)) ((rd_T29 l1 x8_3).f0) ((rd_T29 l1 x8_3).f1)) else (marigraphref20_Do.l1 k3 a0 l1 (wrap64 (x8_3 + 1)) x286000_3 x286001_3)) else (if a0 = 3 then (if t294 > 0 then (marigraphref20_Do.l1 k3 a0 l1 (wrap64 (x8_3 + 1)) ((rd_T29 l1 x8_3).f0) ((rd_T29 l1 x8_3).f1)) else (marigraphref20_Do.l1 k3 a0 l1 (wrap64 (x8_3 + 1)) x286000_3 x286001_3)) else ((marigraphref1_Op.f k3 43 x286000_3 x286001_3 ((rd_T29 l1 x8_3).f0) ((rd_T29 l1 x8_3).f1)).bind fun bt298 => (if bt298.2.2 = 0 then (marigraphref20_Do.l1 k3 a0 l1 (wrap64 (x8_3 + 1)) bt298.1 bt298.2.1) else (some (0, 0, bt298.2.2)))))) = some (r1, r2, r3) := H
               have A42 := Aside0.mk A420
               clear A420
               by_cases c43 : a0 = 2
               ·rw [if_pos c43] at H
                have c43b0 : (a0 == 2) = true := beq_iff_eq.mpr c43
                have c43b1 : (a0 != 2) = false := bne_eq_false_iff_eq.mpr c43
                clear c43
                by_cases c44 : t294 < 0
                ·rw [if_pos c44] at H
                 have c44b0 : decide (t294 < 0) = true := decide_eq_true c44
                 clear c44
                 have H' := Aside0.mk H
                 clear H
                 try go_wp2
                 have n0_ := Aside0.mk (blk_drew BK280.out)
                 have n1_ := Aside0.mk (blk_drew BK285.out)
                 have n2_ := Aside0.mk (below_drew1 HB.out)
                 clear BK280
                 clear BK285
                 clear HB
                 have BK280 := n0_
                 have BK285 := n1_
                 have HB := n2_
                 clear n0_ n1_ n2_
                 have p293 : 0 ≤ (x8_3 : Int) := of_decide_eq_true (by first | (with_reducible assumption) | assumption)
                 have q293 : x8_3 < (l1.length : Int) := of_decide_eq_true (by first | (with_reducible assumption) | assumption)
                 obtain ⟨ad293, e293, hx293_0, hx293_1⟩ := at_T29 HR1.out x8_3 p293 q293
                 have hw293_1 := hx293_1
                 have hw293_0 := hx293_0
                 obtain rfl : ad284 = ad293 := (by injection e293)
                 replace hx293_0 := cellB HB.out hx293_0
                 replace hx293_1 := cellB HB.out hx293_1
                 replace p293 := eq_true p293
                 replace q293 := eq_true q293
                 refine start_ (n := 7) (S := fun w' => w'.cell? ⟨gb285, 0, none⟩ = some (.int .i64 x286000_3) ∧ w'.cell? ⟨gb285, 1, none⟩ = some (.int .i64 x286001_3) ∧ w'.cell? (ad284.add ((x8_3).toNat * 2)) = some (.int .i64 ((rd_T29 l1 x8_3).f0)) ∧ w'.cell? ⟨(ad284.add ((x8_3).toNat * 2)).block, (ad284.add ((x8_3).toNat * 2)).off + 1, none⟩ = some (.int .i64 ((rd_T29 l1 x8_3).f1))) (ds := []) #[false, false, false, false, false, false, false] (by kernel_rfl) rfl rfl ⟨(blk_cell BK285.out 0).trans rfl, (blk_cell BK285.out 1).trans rfl, (cellB HB.out hw293_0), (cellB HB.out hw293_1)⟩ (fun hHeld => ?_)
                 generalize wr.drew = w45 at BK280 BK285 HB hx293_0 hx293_1 hHeld ⊢
                 refine pure_ (i := 0) (N := some 62) (v := ?_) (a' := ?_) (bA 7 1) rfl rfl (by kernel_rfl) (fun _ _ _ h => h) (Or.inl ⟨by rfl, ?_⟩) ?_ ?_
                 rotate_left
                 ·intro w'
                  go_simp
                  with_reducible rfl
                 rotate_left
                 ·simp only [Act.put, List.setIfInBounds_toArray, List.set_cons_zero, List.set_cons_succ, i64_w, i32_w]
                  rfl
                 refine pure_ (i := 1) (N := some 63) (v := ?_) (a' := ?_) (bA 7 3) rfl rfl (by kernel_rfl) (fun _ _ _ h => h) (Or.inl ⟨by rfl, ?_⟩) ?_ ?_
                 rotate_left
                 ·intro w'
                  go_simp
                  with_reducible rfl
                 rotate_left
                 ·simp only [Act.put, List.setIfInBounds_toArray, List.set_cons_zero, List.set_cons_succ, i64_w, i32_w]
                  rfl
                 refine pure_ (i := 2) (N := some 64) (v := ?_) (a' := ?_) (bA 7 7) rfl rfl (by kernel_rfl) (fun _ _ _ h => h) (Or.inl ⟨by rfl, ?_⟩) ?_ ?_
                 rotate_left
                 ·intro w'
                  go_simp
                  with_reducible rfl
                 rotate_left
                 ·simp only [Act.put, List.setIfInBounds_toArray, List.set_cons_zero, List.set_cons_succ, i64_w, i32_w]
                  rfl
                 refine take_ (i := 3) (N := some 65) (v := ?_) (a' := ?_) (bA 7 15) rfl rfl (by kernel_rfl) (fun _ _ _ h => h) (Or.inl ⟨by rfl, ?_⟩) hHeld ?_ ?_
                 rotate_left
                 ·rintro w' ⟨s0, s1, s2, s3⟩
                  go_simp
                  with_reducible rfl
                 rotate_left
                 ·simp only [Act.put, List.setIfInBounds_toArray, List.set_cons_zero, List.set_cons_succ, i64_w, i32_w]
                  rfl
                 refine take_ (i := 4) (N := some 66) (v := ?_) (a' := ?_) (bA 7 31) rfl rfl (by kernel_rfl) (fun _ _ _ h => h) (Or.inl ⟨by rfl, ?_⟩) hHeld ?_ ?_
                 rotate_left
                 ·rintro w' ⟨s0, s1, s2, s3⟩
                  go_simp
                  with_reducible rfl
                 rotate_left
                 ·simp only [Act.put, List.setIfInBounds_toArray, List.set_cons_zero, List.set_cons_succ, i64_w, i32_w]
                  rfl
                 refine one_ (i := 5) (N := some 67) (bA 7 63) rfl rfl (by kernel_rfl) (by decide) (fun K hK => ?_)
                 refine goes_ Try.func28 (by kernel_rfl) rfl #[.agg #[.int .i64 ((rd_T29 l1 x8_3).f0), .int .i64 ((rd_T29 l1 x8_3).f1)], .agg #[.int .i64 x286000_3, .int .i64 x286001_3]] (by rfl) rfl rfl argN ?_
                 with_reducible refine (marigraphref1_Cmp.calls k3 ((rd_T29 l1 x8_3).f0) ((rd_T29 l1 x8_3).f1) x286000_3 x286001_3 t294 _ A42.out).mono ?_
                 rintro e w46 ⟨rfl, hb⟩
                 refine ⟨_, rfl, ?_⟩
                 have n0_ := Aside0.mk (bkB BK280.out hb)
                 have n1_ := Aside0.mk (bkB BK285.out hb)
                 have n2_ := Aside0.mk (below_step (belS HB.out) hb)
                 clear BK280
                 clear BK285
                 clear HB
                 have BK280 := n0_
                 have BK285 := n1_
                 have HB := n2_
                 clear n0_ n1_ n2_
                 (try clear hb)
                 refine hK.out _ _ ⟨(blk_cell BK285.out 0).trans rfl, (blk_cell BK285.out 1).trans rfl, (cellB HB.out hw293_0), (cellB HB.out hw293_1)⟩ (fun hHeld => ?_)
                 clear hK K
                 refine norm_ (a' := ?_) ?_ ?_
                 rotate_left
                 ·show Act.put _ (some 67) _ = _
                  simp only [Act.put, List.setIfInBounds_toArray, List.set_cons_zero, List.set_cons_succ, i64_w, i32_w]
                  rfl
                 refine pure_ (i := 6) (N := some 9) (v := ?_) (a' := ?_) (bA 7 127) rfl rfl (by kernel_rfl) (fun _ _ _ h => h) (Or.inl ⟨by rfl, ?_⟩) ?_ ?_
                 rotate_left
                 ·intro w'
                  go_simp
                  with_reducible rfl
                 rotate_left
                 ·simp only [Act.put, List.setIfInBounds_toArray, List.set_cons_zero, List.set_cons_succ, i64_w, i32_w]
                  rfl
                 refine done_ (by kernel_rfl) ?_
                 have p295 : 0 ≤ (x8_3 : Int) := of_decide_eq_true (by first | (with_reducible assumption) | assumption)
                 have q295 : x8_3 < (l1.length : Int) := of_decide_eq_true (by first | (with_reducible assumption) | assumption)
                 obtain ⟨ad295, e295, hx295_0, hx295_1⟩ := at_T29 HR1.out x8_3 p295 q295
                 obtain rfl : ad284 = ad295 := (by injection e295)
                 replace hx295_0 := cellB HB.out hx295_0
                 replace hx295_1 := cellB HB.out hx295_1
                 replace p295 := eq_true p295
                 replace q295 := eq_true q295
                 have hnb47 := NB285_280.out
                 have hnc47 := NB280_285.out
                 have hcz48_0 : w46.cell? ⟨gb285, 0, none⟩ = some (.int .i64 x286000_3) := (blk_cell BK285.out 0).trans rfl
                 have hcz48_1 : w46.cell? ⟨gb285, 1, none⟩ = some (.int .i64 x286001_3) := (blk_cell BK285.out 1).trans rfl
                 have hfz48_0 := blk_frozen BK285.out 0
                 have hfz48_1 := blk_frozen BK285.out 1
                 try go_wp2
                 go_roundg k3
                 case measure => have := HJ2.out; have := HK2.out; have := HK3.out; omega
                 case rel => exact ⟨(wrap64 (x8_3 + 1)), (x281000_3), (x281001_3), ((rd_T29 l1 x8_3).f0), ((rd_T29 l1 x8_3).f1), (by first | rfl | (simp; done) | (simp [*]; done)), H', ⟨by have := HJ2.out; have := HK2.out; have := HK3.out; omega⟩, ⟨blkF BK280.out⟩, ⟨by (with_reducible repeat (first | refine blk_drewN ?_ _ | refine blk_drew ?_ | refine blk_alloc ?_ _)); refine blk_put (cs := #[.int .i64 ((rd_T29 l1 x8_3).f0), .int .i64 x286001_3]) ?_ 1 _ rfl; (with_reducible repeat (first | refine blk_drewN ?_ _ | refine blk_drew ?_ | refine blk_alloc ?_ _)); refine blk_put (cs := #[.int .i64 x286000_3, .int .i64 x286001_3]) ?_ 0 _ rfl; (with_reducible repeat (first | refine blk_drewN ?_ _ | refine blk_drew ?_ | refine blk_alloc ?_ _)); exact BK285.out⟩, ⟨(belS HB.out)⟩⟩
                ·rw [if_neg c44] at H
                 have c44b0 : decide (t294 < 0) = false := decide_eq_false c44
                 clear c44
                 have H' := Aside0.mk H
                 clear H
                 try go_wp2
                 have n0_ := Aside0.mk (blk_drew BK280.out)
                 have n1_ := Aside0.mk (blk_drew BK285.out)
                 have n2_ := Aside0.mk (below_drew1 HB.out)
                 clear BK280
                 clear BK285
                 clear HB
                 have BK280 := n0_
                 have BK285 := n1_
                 have HB := n2_
                 clear n0_ n1_ n2_
                 have p293 : 0 ≤ (x8_3 : Int) := of_decide_eq_true (by first | (with_reducible assumption) | assumption)
                 have q293 : x8_3 < (l1.length : Int) := of_decide_eq_true (by first | (with_reducible assumption) | assumption)
                 obtain ⟨ad293, e293, hx293_0, hx293_1⟩ := at_T29 HR1.out x8_3 p293 q293
                 have hw293_1 := hx293_1
                 have hw293_0 := hx293_0
                 obtain rfl : ad284 = ad293 := (by injection e293)
                 replace hx293_0 := cellB HB.out hx293_0
                 replace hx293_1 := cellB HB.out hx293_1
                 replace p293 := eq_true p293
                 replace q293 := eq_true q293
                 refine start_ (n := 7) (S := fun w' => w'.cell? ⟨gb285, 0, none⟩ = some (.int .i64 x286000_3) ∧ w'.cell? ⟨gb285, 1, none⟩ = some (.int .i64 x286001_3) ∧ w'.cell? (ad284.add ((x8_3).toNat * 2)) = some (.int .i64 ((rd_T29 l1 x8_3).f0)) ∧ w'.cell? ⟨(ad284.add ((x8_3).toNat * 2)).block, (ad284.add ((x8_3).toNat * 2)).off + 1, none⟩ = some (.int .i64 ((rd_T29 l1 x8_3).f1))) (ds := []) #[false, false, false, false, false, false, false] (by kernel_rfl) rfl rfl ⟨(blk_cell BK285.out 0).trans rfl, (blk_cell BK285.out 1).trans rfl, (cellB HB.out hw293_0), (cellB HB.out hw293_1)⟩ (fun hHeld => ?_)
                 generalize wr.drew = w49 at BK280 BK285 HB hx293_0 hx293_1 hHeld ⊢
                 refine pure_ (i := 0) (N := some 62) (v := ?_) (a' := ?_) (bA 7 1) rfl rfl (by kernel_rfl) (fun _ _ _ h => h) (Or.inl ⟨by rfl, ?_⟩) ?_ ?_
                 rotate_left
                 ·intro w'
                  go_simp
                  with_reducible rfl
                 rotate_left
                 ·simp only [Act.put, List.setIfInBounds_toArray, List.set_cons_zero, List.set_cons_succ, i64_w, i32_w]
                  rfl
                 refine pure_ (i := 1) (N := some 63) (v := ?_) (a' := ?_) (bA 7 3) rfl rfl (by kernel_rfl) (fun _ _ _ h => h) (Or.inl ⟨by rfl, ?_⟩) ?_ ?_
                 rotate_left
                 ·intro w'
                  go_simp
                  with_reducible rfl
                 rotate_left
                 ·simp only [Act.put, List.setIfInBounds_toArray, List.set_cons_zero, List.set_cons_succ, i64_w, i32_w]
                  rfl
                 refine pure_ (i := 2) (N := some 64) (v := ?_) (a' := ?_) (bA 7 7) rfl rfl (by kernel_rfl) (fun _ _ _ h => h) (Or.inl ⟨by rfl, ?_⟩) ?_ ?_
                 rotate_left
                 ·intro w'
                  go_simp
                  with_reducible rfl
                 rotate_left
                 ·simp only [Act.put, List.setIfInBounds_toArray, List.set_cons_zero, List.set_cons_succ, i64_w, i32_w]
                  rfl
                 refine take_ (i := 3) (N := some 65) (v := ?_) (a' := ?_) (bA 7 15) rfl rfl (by kernel_rfl) (fun _ _ _ h => h) (Or.inl ⟨by rfl, ?_⟩) hHeld ?_ ?_
                 rotate_left
                 ·rintro w' ⟨s0, s1, s2, s3⟩
                  go_simp
                  with_reducible rfl
                 rotate_left
                 ·simp only [Act.put, List.setIfInBounds_toArray, List.set_cons_zero, List.set_cons_succ, i64_w, i32_w]
                  rfl
                 refine take_ (i := 4) (N := some 66) (v := ?_) (a' := ?_) (bA 7 31) rfl rfl (by kernel_rfl) (fun _ _ _ h => h) (Or.inl ⟨by rfl, ?_⟩) hHeld ?_ ?_
                 rotate_left
                 ·rintro w' ⟨s0, s1, s2, s3⟩
                  go_simp
                  with_reducible rfl
                 rotate_left
                 ·simp only [Act.put, List.setIfInBounds_toArray, List.set_cons_zero, List.set_cons_succ, i64_w, i32_w]
                  rfl
                 refine one_ (i := 5) (N := some 67) (bA 7 63) rfl rfl (by kernel_rfl) (by decide) (fun K hK => ?_)
                 refine goes_ Try.func28 (by kernel_rfl) rfl #[.agg #[.int .i64 ((rd_T29 l1 x8_3).f0), .int .i64 ((rd_T29 l1 x8_3).f1)], .agg #[.int .i64 x286000_3, .int .i64 x286001_3]] (by rfl) rfl rfl argN ?_
                 with_reducible refine (marigraphref1_Cmp.calls k3 ((rd_T29 l1 x8_3).f0) ((rd_T29 l1 x8_3).f1) x286000_3 x286001_3 t294 _ A42.out).mono ?_
                 rintro e w50 ⟨rfl, hb⟩
                 refine ⟨_, rfl, ?_⟩
                 have n0_ := Aside0.mk (bkB BK280.out hb)
                 have n1_ := Aside0.mk (bkB BK285.out hb)
                 have n2_ := Aside0.mk (below_step (belS HB.out) hb)
                 clear BK280
                 clear BK285
                 clear HB
                 have BK280 := n0_
                 have BK285 := n1_
                 have HB := n2_
                 clear n0_ n1_ n2_
                 (try clear hb)
                 refine hK.out _ _ ⟨(blk_cell BK285.out 0).trans rfl, (blk_cell BK285.out 1).trans rfl, (cellB HB.out hw293_0), (cellB HB.out hw293_1)⟩ (fun hHeld => ?_)
                 clear hK K
                 refine norm_ (a' := ?_) ?_ ?_
                 rotate_left
                 ·show Act.put _ (some 67) _ = _
                  simp only [Act.put, List.setIfInBounds_toArray, List.set_cons_zero, List.set_cons_succ, i64_w, i32_w]
                  rfl
                 refine pure_ (i := 6) (N := some 9) (v := ?_) (a' := ?_) (bA 7 127) rfl rfl (by kernel_rfl) (fun _ _ _ h => h) (Or.inl ⟨by rfl, ?_⟩) ?_ ?_
                 rotate_left
                 ·intro w'
                  go_simp
                  with_reducible rfl
                 rotate_left
                 ·simp only [Act.put, List.setIfInBounds_toArray, List.set_cons_zero, List.set_cons_succ, i64_w, i32_w]
                  rfl
                 refine done_ (by kernel_rfl) ?_
                 try go_wp2
                 go_roundg k3
                 case measure => have := HJ2.out; have := HK2.out; have := HK3.out; omega
                 case rel => exact ⟨(wrap64 (x8_3 + 1)), (x281000_3), (x281001_3), (x286000_3), (x286001_3), (by first | rfl | (simp; done) | (simp [*]; done)), H', ⟨by have := HJ2.out; have := HK2.out; have := HK3.out; omega⟩, ⟨blkN BK280.out⟩, ⟨blkN BK285.out⟩, ⟨(belS HB.out)⟩⟩
               ·rw [if_neg c43] at H
                have c43b0 : (a0 == 2) = false := beq_eq_false_iff_ne.mpr c43
                have c43b1 : (a0 != 2) = true := bne_iff_ne.mpr c43
                by_cases c51 : a0 = 3
                ·rw [if_pos c51] at H
                 have c51b0 : (a0 == 3) = true := beq_iff_eq.mpr c51
                 have c51b1 : (a0 != 3) = false := bne_eq_false_iff_eq.mpr c51
                 clear c51
                 by_cases c52 : t294 > 0
                 ·rw [if_pos c52] at H
                  have c52b0 : decide (0 < t294) = true := decide_eq_true c52
                  clear c52
                  have H' := Aside0.mk H
                  clear H
                  try go_wp2
                  have n0_ := Aside0.mk (blk_drew BK280.out)
                  have n1_ := Aside0.mk (blk_drew BK285.out)
                  have n2_ := Aside0.mk (below_drew1 HB.out)
                  clear BK280
                  clear BK285
                  clear HB
                  have BK280 := n0_
                  have BK285 := n1_
                  have HB := n2_
                  clear n0_ n1_ n2_
                  have p293 : 0 ≤ (x8_3 : Int) := of_decide_eq_true (by first | (with_reducible assumption) | assumption)
                  have q293 : x8_3 < (l1.length : Int) := of_decide_eq_true (by first | (with_reducible assumption) | assumption)
                  obtain ⟨ad293, e293, hx293_0, hx293_1⟩ := at_T29 HR1.out x8_3 p293 q293
                  have hw293_1 := hx293_1
                  have hw293_0 := hx293_0
                  obtain rfl : ad284 = ad293 := (by injection e293)
                  replace hx293_0 := cellB HB.out hx293_0
                  replace hx293_1 := cellB HB.out hx293_1
                  replace p293 := eq_true p293
                  replace q293 := eq_true q293
                  refine start_ (n := 7) (S := fun w' => w'.cell? ⟨gb285, 0, none⟩ = some (.int .i64 x286000_3) ∧ w'.cell? ⟨gb285, 1, none⟩ = some (.int .i64 x286001_3) ∧ w'.cell? (ad284.add ((x8_3).toNat * 2)) = some (.int .i64 ((rd_T29 l1 x8_3).f0)) ∧ w'.cell? ⟨(ad284.add ((x8_3).toNat * 2)).block, (ad284.add ((x8_3).toNat * 2)).off + 1, none⟩ = some (.int .i64 ((rd_T29 l1 x8_3).f1))) (ds := []) #[false, false, false, false, false, false, false] (by kernel_rfl) rfl rfl ⟨(blk_cell BK285.out 0).trans rfl, (blk_cell BK285.out 1).trans rfl, (cellB HB.out hw293_0), (cellB HB.out hw293_1)⟩ (fun hHeld => ?_)
                  generalize wr.drew = w53 at BK280 BK285 HB hx293_0 hx293_1 hHeld ⊢
                  refine pure_ (i := 0) (N := some 62) (v := ?_) (a' := ?_) (bA 7 1) rfl rfl (by kernel_rfl) (fun _ _ _ h => h) (Or.inl ⟨by rfl, ?_⟩) ?_ ?_
                  rotate_left
                  ·intro w'
                   go_simp
                   with_reducible rfl
                  rotate_left
                  ·simp only [Act.put, List.setIfInBounds_toArray, List.set_cons_zero, List.set_cons_succ, i64_w, i32_w]
                   rfl
                  refine pure_ (i := 1) (N := some 63) (v := ?_) (a' := ?_) (bA 7 3) rfl rfl (by kernel_rfl) (fun _ _ _ h => h) (Or.inl ⟨by rfl, ?_⟩) ?_ ?_
                  rotate_left
                  ·intro w'
                   go_simp
                   with_reducible rfl
                  rotate_left
                  ·simp only [Act.put, List.setIfInBounds_toArray, List.set_cons_zero, List.set_cons_succ, i64_w, i32_w]
                   rfl
                  refine pure_ (i := 2) (N := some 64) (v := ?_) (a' := ?_) (bA 7 7) rfl rfl (by kernel_rfl) (fun _ _ _ h => h) (Or.inl ⟨by rfl, ?_⟩) ?_ ?_
                  rotate_left
                  ·intro w'
                   go_simp
                   with_reducible rfl
                  rotate_left
                  ·simp only [Act.put, List.setIfInBounds_toArray, List.set_cons_zero, List.set_cons_succ, i64_w, i32_w]
                   rfl
                  refine take_ (i := 3) (N := some 65) (v := ?_) (a' := ?_) (bA 7 15) rfl rfl (by kernel_rfl) (fun _ _ _ h => h) (Or.inl ⟨by rfl, ?_⟩) hHeld ?_ ?_
                  rotate_left
                  ·rintro w' ⟨s0, s1, s2, s3⟩
                   go_simp
                   with_reducible rfl
                  rotate_left
                  ·simp only [Act.put, List.setIfInBounds_toArray, List.set_cons_zero, List.set_cons_succ, i64_w, i32_w]
                   rfl
                  refine take_ (i := 4) (N := some 66) (v := ?_) (a' := ?_) (bA 7 31) rfl rfl (by kernel_rfl) (fun _ _ _ h => h) (Or.inl ⟨by rfl, ?_⟩) hHeld ?_ ?_
                  rotate_left
                  ·rintro w' ⟨s0, s1, s2, s3⟩
                   go_simp
                   with_reducible rfl
                  rotate_left
                  ·simp only [Act.put, List.setIfInBounds_toArray, List.set_cons_zero, List.set_cons_succ, i64_w, i32_w]
                   rfl
                  refine one_ (i := 5) (N := some 67) (bA 7 63) rfl rfl (by kernel_rfl) (by decide) (fun K hK => ?_)
                  refine goes_ Try.func28 (by kernel_rfl) rfl #[.agg #[.int .i64 ((rd_T29 l1 x8_3).f0), .int .i64 ((rd_T29 l1 x8_3).f1)], .agg #[.int .i64 x286000_3, .int .i64 x286001_3]] (by rfl) rfl rfl argN ?_
                  with_reducible refine (marigraphref1_Cmp.calls k3 ((rd_T29 l1 x8_3).f0) ((rd_T29 l1 x8_3).f1) x286000_3 x286001_3 t294 _ A42.out).mono ?_
                  rintro e w54 ⟨rfl, hb⟩
                  refine ⟨_, rfl, ?_⟩
                  have n0_ := Aside0.mk (bkB BK280.out hb)
                  have n1_ := Aside0.mk (bkB BK285.out hb)
                  have n2_ := Aside0.mk (below_step (belS HB.out) hb)
                  clear BK280
                  clear BK285
                  clear HB
                  have BK280 := n0_
                  have BK285 := n1_
                  have HB := n2_
                  clear n0_ n1_ n2_
                  (try clear hb)
                  refine hK.out _ _ ⟨(blk_cell BK285.out 0).trans rfl, (blk_cell BK285.out 1).trans rfl, (cellB HB.out hw293_0), (cellB HB.out hw293_1)⟩ (fun hHeld => ?_)
                  clear hK K
                  refine norm_ (a' := ?_) ?_ ?_
                  rotate_left
                  ·show Act.put _ (some 67) _ = _
                   simp only [Act.put, List.setIfInBounds_toArray, List.set_cons_zero, List.set_cons_succ, i64_w, i32_w]
                   rfl
                  refine pure_ (i := 6) (N := some 9) (v := ?_) (a' := ?_) (bA 7 127) rfl rfl (by kernel_rfl) (fun _ _ _ h => h) (Or.inl ⟨by rfl, ?_⟩) ?_ ?_
                  rotate_left
                  ·intro w'
                   go_simp
                   with_reducible rfl
                  rotate_left
                  ·simp only [Act.put, List.setIfInBounds_toArray, List.set_cons_zero, List.set_cons_succ, i64_w, i32_w]
                   rfl
                  refine done_ (by kernel_rfl) ?_
                  have p296 : 0 ≤ (x8_3 : Int) := of_decide_eq_true (by first | (with_reducible assumption) | assumption)
                  have q296 : x8_3 < (l1.length : Int) := of_decide_eq_true (by first | (with_reducible assumption) | assumption)
                  obtain ⟨ad296, e296, hx296_0, hx296_1⟩ := at_T29 HR1.out x8_3 p296 q296
                  obtain rfl : ad284 = ad296 := (by injection e296)
                  replace hx296_0 := cellB HB.out hx296_0
                  replace hx296_1 := cellB HB.out hx296_1
                  replace p296 := eq_true p296
                  replace q296 := eq_true q296
                  have hnb55 := NB285_280.out
                  have hnc55 := NB280_285.out
                  have hcz56_0 : w54.cell? ⟨gb285, 0, none⟩ = some (.int .i64 x286000_3) := (blk_cell BK285.out 0).trans rfl
                  have hcz56_1 : w54.cell? ⟨gb285, 1, none⟩ = some (.int .i64 x286001_3) := (blk_cell BK285.out 1).trans rfl
                  have hfz56_0 := blk_frozen BK285.out 0
                  have hfz56_1 := blk_frozen BK285.out 1
                  try go_wp2
                  go_roundg k3
                  case measure => have := HJ2.out; have := HK2.out; have := HK3.out; omega
                  case rel => exact ⟨(wrap64 (x8_3 + 1)), (x281000_3), (x281001_3), ((rd_T29 l1 x8_3).f0), ((rd_T29 l1 x8_3).f1), (by first | rfl | (simp; done) | (simp [*]; done)), H', ⟨by have := HJ2.out; have := HK2.out; have := HK3.out; omega⟩, ⟨blkF BK280.out⟩, ⟨by (with_reducible repeat (first | refine blk_drewN ?_ _ | refine blk_drew ?_ | refine blk_alloc ?_ _)); refine blk_put (cs := #[.int .i64 ((rd_T29 l1 x8_3).f0), .int .i64 x286001_3]) ?_ 1 _ rfl; (with_reducible repeat (first | refine blk_drewN ?_ _ | refine blk_drew ?_ | refine blk_alloc ?_ _)); refine blk_put (cs := #[.int .i64 x286000_3, .int .i64 x286001_3]) ?_ 0 _ rfl; (with_reducible repeat (first | refine blk_drewN ?_ _ | refine blk_drew ?_ | refine blk_alloc ?_ _)); exact BK285.out⟩, ⟨(belS HB.out)⟩⟩
                 ·rw [if_neg c52] at H
                  have c52b0 : decide (0 < t294) = false := decide_eq_false c52
                  clear c52
                  have H' := Aside0.mk H
                  clear H
                  try go_wp2
                  have n0_ := Aside0.mk (blk_drew BK280.out)
                  have n1_ := Aside0.mk (blk_drew BK285.out)
                  have n2_ := Aside0.mk (below_drew1 HB.out)
                  clear BK280
                  clear BK285
                  clear HB
                  have BK280 := n0_
                  have BK285 := n1_
                  have HB := n2_
                  clear n0_ n1_ n2_
                  have p293 : 0 ≤ (x8_3 : Int) := of_decide_eq_true (by first | (with_reducible assumption) | assumption)
                  have q293 : x8_3 < (l1.length : Int) := of_decide_eq_true (by first | (with_reducible assumption) | assumption)
                  obtain ⟨ad293, e293, hx293_0, hx293_1⟩ := at_T29 HR1.out x8_3 p293 q293
                  have hw293_1 := hx293_1
                  have hw293_0 := hx293_0
                  obtain rfl : ad284 = ad293 := (by injection e293)
                  replace hx293_0 := cellB HB.out hx293_0
                  replace hx293_1 := cellB HB.out hx293_1
                  replace p293 := eq_true p293
                  replace q293 := eq_true q293
                  refine start_ (n := 7) (S := fun w' => w'.cell? ⟨gb285, 0, none⟩ = some (.int .i64 x286000_3) ∧ w'.cell? ⟨gb285, 1, none⟩ = some (.int .i64 x286001_3) ∧ w'.cell? (ad284.add ((x8_3).toNat * 2)) = some (.int .i64 ((rd_T29 l1 x8_3).f0)) ∧ w'.cell? ⟨(ad284.add ((x8_3).toNat * 2)).block, (ad284.add ((x8_3).toNat * 2)).off + 1, none⟩ = some (.int .i64 ((rd_T29 l1 x8_3).f1))) (ds := []) #[false, false, false, false, false, false, false] (by kernel_rfl) rfl rfl ⟨(blk_cell BK285.out 0).trans rfl, (blk_cell BK285.out 1).trans rfl, (cellB HB.out hw293_0), (cellB HB.out hw293_1)⟩ (fun hHeld => ?_)
                  generalize wr.drew = w57 at BK280 BK285 HB hx293_0 hx293_1 hHeld ⊢
                  refine pure_ (i := 0) (N := some 62) (v := ?_) (a' := ?_) (bA 7 1) rfl rfl (by kernel_rfl) (fun _ _ _ h => h) (Or.inl ⟨by rfl, ?_⟩) ?_ ?_
                  rotate_left
                  ·intro w'
                   go_simp
                   with_reducible rfl
                  rotate_left
                  ·simp only [Act.put, List.setIfInBounds_toArray, List.set_cons_zero, List.set_cons_succ, i64_w, i32_w]
                   rfl
                  refine pure_ (i := 1) (N := some 63) (v := ?_) (a' := ?_) (bA 7 3) rfl rfl (by kernel_rfl) (fun _ _ _ h => h) (Or.inl ⟨by rfl, ?_⟩) ?_ ?_
                  rotate_left
                  ·intro w'
                   go_simp
                   with_reducible rfl
                  rotate_left
                  ·simp only [Act.put, List.setIfInBounds_toArray, List.set_cons_zero, List.set_cons_succ, i64_w, i32_w]
                   rfl
                  refine pure_ (i := 2) (N := some 64) (v := ?_) (a' := ?_) (bA 7 7) rfl rfl (by kernel_rfl) (fun _ _ _ h => h) (Or.inl ⟨by rfl, ?_⟩) ?_ ?_
                  rotate_left
                  ·intro w'
                   go_simp
                   with_reducible rfl
                  rotate_left
                  ·simp only [Act.put, List.setIfInBounds_toArray, List.set_cons_zero, List.set_cons_succ, i64_w, i32_w]
                   rfl
                  refine take_ (i := 3) (N := some 65) (v := ?_) (a' := ?_) (bA 7 15) rfl rfl (by kernel_rfl) (fun _ _ _ h => h) (Or.inl ⟨by rfl, ?_⟩) hHeld ?_ ?_
                  rotate_left
                  ·rintro w' ⟨s0, s1, s2, s3⟩
                   go_simp
                   with_reducible rfl
                  rotate_left
                  ·simp only [Act.put, List.setIfInBounds_toArray, List.set_cons_zero, List.set_cons_succ, i64_w, i32_w]
                   rfl
                  refine take_ (i := 4) (N := some 66) (v := ?_) (a' := ?_) (bA 7 31) rfl rfl (by kernel_rfl) (fun _ _ _ h => h) (Or.inl ⟨by rfl, ?_⟩) hHeld ?_ ?_
                  rotate_left
                  ·rintro w' ⟨s0, s1, s2, s3⟩
                   go_simp
                   with_reducible rfl
                  rotate_left
                  ·simp only [Act.put, List.setIfInBounds_toArray, List.set_cons_zero, List.set_cons_succ, i64_w, i32_w]
                   rfl
                  refine one_ (i := 5) (N := some 67) (bA 7 63) rfl rfl (by kernel_rfl) (by decide) (fun K hK => ?_)
                  refine goes_ Try.func28 (by kernel_rfl) rfl #[.agg #[.int .i64 ((rd_T29 l1 x8_3).f0), .int .i64 ((rd_T29 l1 x8_3).f1)], .agg #[.int .i64 x286000_3, .int .i64 x286001_3]] (by rfl) rfl rfl argN ?_
                  with_reducible refine (marigraphref1_Cmp.calls k3 ((rd_T29 l1 x8_3).f0) ((rd_T29 l1 x8_3).f1) x286000_3 x286001_3 t294 _ A42.out).mono ?_
                  rintro e w58 ⟨rfl, hb⟩
                  refine ⟨_, rfl, ?_⟩
                  have n0_ := Aside0.mk (bkB BK280.out hb)
                  have n1_ := Aside0.mk (bkB BK285.out hb)
                  have n2_ := Aside0.mk (below_step (belS HB.out) hb)
                  clear BK280
                  clear BK285
                  clear HB
                  have BK280 := n0_
                  have BK285 := n1_
                  have HB := n2_
                  clear n0_ n1_ n2_
                  (try clear hb)
                  refine hK.out _ _ ⟨(blk_cell BK285.out 0).trans rfl, (blk_cell BK285.out 1).trans rfl, (cellB HB.out hw293_0), (cellB HB.out hw293_1)⟩ (fun hHeld => ?_)
                  clear hK K
                  refine norm_ (a' := ?_) ?_ ?_
                  rotate_left
                  ·show Act.put _ (some 67) _ = _
                   simp only [Act.put, List.setIfInBounds_toArray, List.set_cons_zero, List.set_cons_succ, i64_w, i32_w]
                   rfl
                  refine pure_ (i := 6) (N := some 9) (v := ?_) (a' := ?_) (bA 7 127) rfl rfl (by kernel_rfl) (fun _ _ _ h => h) (Or.inl ⟨by rfl, ?_⟩) ?_ ?_
                  rotate_left
                  ·intro w'
                   go_simp
                   with_reducible rfl
                  rotate_left
                  ·simp only [Act.put, List.setIfInBounds_toArray, List.set_cons_zero, List.set_cons_succ, i64_w, i32_w]
                   rfl
                  refine done_ (by kernel_rfl) ?_
                  try go_wp2
                  go_roundg k3
                  case measure => have := HJ2.out; have := HK2.out; have := HK3.out; omega
                  case rel => exact ⟨(wrap64 (x8_3 + 1)), (x281000_3), (x281001_3), (x286000_3), (x286001_3), (by first | rfl | (simp; done) | (simp [*]; done)), H', ⟨by have := HJ2.out; have := HK2.out; have := HK3.out; omega⟩, ⟨blkN BK280.out⟩, ⟨blkN BK285.out⟩, ⟨(belS HB.out)⟩⟩
                ·rw [if_neg c51] at H
                 have c51b0 : (a0 == 3) = false := beq_eq_false_iff_ne.mpr c51
                 have c51b1 : (a0 != 3) = true := bne_iff_ne.mpr c51
                 replace H := Option.bind_eq_some_iff.mp H
                 obtain ⟨⟨t298, t299, t300⟩, A590, H⟩ := H
                 replace H : (if t300 = 0 then (marigraphref20_Do.l1 k3 a0 l1 (wrap64 (x8_3 + 1)) t298 t299) else (some (0, 0, t300))) = some (r1, r2, r3) := H
                 have A59 := Aside0.mk A590
                 clear A590
                 by_cases c60 : t300 = 0
                 ·rw [if_pos c60] at H
                  have c60b0 : (t300 == 0) = true := beq_iff_eq.mpr c60
                  have c60b1 : (t300 != 0) = false := bne_eq_false_iff_eq.mpr c60
                  clear c60
                  have H' := Aside0.mk H
                  clear H
                  try go_wp2
                  have n0_ := Aside0.mk (blk_drew BK280.out)
                  have n1_ := Aside0.mk (blk_drew BK285.out)
                  have n2_ := Aside0.mk (below_drew1 HB.out)
                  clear BK280
                  clear BK285
                  clear HB
                  have BK280 := n0_
                  have BK285 := n1_
                  have HB := n2_
                  clear n0_ n1_ n2_
                  have p293 : 0 ≤ (x8_3 : Int) := of_decide_eq_true (by first | (with_reducible assumption) | assumption)
                  have q293 : x8_3 < (l1.length : Int) := of_decide_eq_true (by first | (with_reducible assumption) | assumption)
                  obtain ⟨ad293, e293, hx293_0, hx293_1⟩ := at_T29 HR1.out x8_3 p293 q293
                  have hw293_1 := hx293_1
                  have hw293_0 := hx293_0
                  obtain rfl : ad284 = ad293 := (by injection e293)
                  replace hx293_0 := cellB HB.out hx293_0
                  replace hx293_1 := cellB HB.out hx293_1
                  replace p293 := eq_true p293
                  replace q293 := eq_true q293
                  refine start_ (n := 7) (S := fun w' => w'.cell? ⟨gb285, 0, none⟩ = some (.int .i64 x286000_3) ∧ w'.cell? ⟨gb285, 1, none⟩ = some (.int .i64 x286001_3) ∧ w'.cell? (ad284.add ((x8_3).toNat * 2)) = some (.int .i64 ((rd_T29 l1 x8_3).f0)) ∧ w'.cell? ⟨(ad284.add ((x8_3).toNat * 2)).block, (ad284.add ((x8_3).toNat * 2)).off + 1, none⟩ = some (.int .i64 ((rd_T29 l1 x8_3).f1))) (ds := []) #[false, false, false, false, false, false, false] (by kernel_rfl) rfl rfl ⟨(blk_cell BK285.out 0).trans rfl, (blk_cell BK285.out 1).trans rfl, (cellB HB.out hw293_0), (cellB HB.out hw293_1)⟩ (fun hHeld => ?_)
                  generalize wr.drew = w61 at BK280 BK285 HB hx293_0 hx293_1 hHeld ⊢
                  refine pure_ (i := 0) (N := some 62) (v := ?_) (a' := ?_) (bA 7 1) rfl rfl (by kernel_rfl) (fun _ _ _ h => h) (Or.inl ⟨by rfl, ?_⟩) ?_ ?_
                  rotate_left
                  ·intro w'
                   go_simp
                   with_reducible rfl
                  rotate_left
                  ·simp only [Act.put, List.setIfInBounds_toArray, List.set_cons_zero, List.set_cons_succ, i64_w, i32_w]
                   rfl
                  refine pure_ (i := 1) (N := some 63) (v := ?_) (a' := ?_) (bA 7 3) rfl rfl (by kernel_rfl) (fun _ _ _ h => h) (Or.inl ⟨by rfl, ?_⟩) ?_ ?_
                  rotate_left
                  ·intro w'
                   go_simp
                   with_reducible rfl
                  rotate_left
                  ·simp only [Act.put, List.setIfInBounds_toArray, List.set_cons_zero, List.set_cons_succ, i64_w, i32_w]
                   rfl
                  refine pure_ (i := 2) (N := some 64) (v := ?_) (a' := ?_) (bA 7 7) rfl rfl (by kernel_rfl) (fun _ _ _ h => h) (Or.inl ⟨by rfl, ?_⟩) ?_ ?_
                  rotate_left
                  ·intro w'
                   go_simp
                   with_reducible rfl
                  rotate_left
                  ·simp only [Act.put, List.setIfInBounds_toArray, List.set_cons_zero, List.set_cons_succ, i64_w, i32_w]
                   rfl
                  refine take_ (i := 3) (N := some 65) (v := ?_) (a' := ?_) (bA 7 15) rfl rfl (by kernel_rfl) (fun _ _ _ h => h) (Or.inl ⟨by rfl, ?_⟩) hHeld ?_ ?_
                  rotate_left
                  ·rintro w' ⟨s0, s1, s2, s3⟩
                   go_simp
                   with_reducible rfl
                  rotate_left
                  ·simp only [Act.put, List.setIfInBounds_toArray, List.set_cons_zero, List.set_cons_succ, i64_w, i32_w]
                   rfl
                  refine take_ (i := 4) (N := some 66) (v := ?_) (a' := ?_) (bA 7 31) rfl rfl (by kernel_rfl) (fun _ _ _ h => h) (Or.inl ⟨by rfl, ?_⟩) hHeld ?_ ?_
                  rotate_left
                  ·rintro w' ⟨s0, s1, s2, s3⟩
                   go_simp
                   with_reducible rfl
                  rotate_left
                  ·simp only [Act.put, List.setIfInBounds_toArray, List.set_cons_zero, List.set_cons_succ, i64_w, i32_w]
                   rfl
                  refine one_ (i := 5) (N := some 67) (bA 7 63) rfl rfl (by kernel_rfl) (by decide) (fun K hK => ?_)
                  refine goes_ Try.func28 (by kernel_rfl) rfl #[.agg #[.int .i64 ((rd_T29 l1 x8_3).f0), .int .i64 ((rd_T29 l1 x8_3).f1)], .agg #[.int .i64 x286000_3, .int .i64 x286001_3]] (by rfl) rfl rfl argN ?_
                  with_reducible refine (marigraphref1_Cmp.calls k3 ((rd_T29 l1 x8_3).f0) ((rd_T29 l1 x8_3).f1) x286000_3 x286001_3 t294 _ A42.out).mono ?_
                  rintro e w62 ⟨rfl, hb⟩
                  refine ⟨_, rfl, ?_⟩
                  have n0_ := Aside0.mk (bkB BK280.out hb)
                  have n1_ := Aside0.mk (bkB BK285.out hb)
                  have n2_ := Aside0.mk (below_step (belS HB.out) hb)
                  clear BK280
                  clear BK285
                  clear HB
                  have BK280 := n0_
                  have BK285 := n1_
                  have HB := n2_
                  clear n0_ n1_ n2_
                  (try clear hb)
                  refine hK.out _ _ ⟨(blk_cell BK285.out 0).trans rfl, (blk_cell BK285.out 1).trans rfl, (cellB HB.out hw293_0), (cellB HB.out hw293_1)⟩ (fun hHeld => ?_)
                  clear hK K
                  refine norm_ (a' := ?_) ?_ ?_
                  rotate_left
                  ·show Act.put _ (some 67) _ = _
                   simp only [Act.put, List.setIfInBounds_toArray, List.set_cons_zero, List.set_cons_succ, i64_w, i32_w]
                   rfl
                  refine pure_ (i := 6) (N := some 9) (v := ?_) (a' := ?_) (bA 7 127) rfl rfl (by kernel_rfl) (fun _ _ _ h => h) (Or.inl ⟨by rfl, ?_⟩) ?_ ?_
                  rotate_left
                  ·intro w'
                   go_simp
                   with_reducible rfl
                  rotate_left
                  ·simp only [Act.put, List.setIfInBounds_toArray, List.set_cons_zero, List.set_cons_succ, i64_w, i32_w]
                   rfl
                  refine done_ (by kernel_rfl) ?_
                  try go_wp2
                  have n0_ := Aside0.mk (blk_drew BK280.out)
                  have n1_ := Aside0.mk (blk_drew BK285.out)
                  have n2_ := Aside0.mk (below_drew1 HB.out)
                  clear BK280
                  clear BK285
                  clear HB
                  have BK280 := n0_
                  have BK285 := n1_
                  have HB := n2_
                  clear n0_ n1_ n2_
                  have p297 : 0 ≤ (x8_3 : Int) := of_decide_eq_true (by first | (with_reducible assumption) | assumption)
                  have q297 : x8_3 < (l1.length : Int) := of_decide_eq_true (by first | (with_reducible assumption) | assumption)
                  obtain ⟨ad297, e297, hx297_0, hx297_1⟩ := at_T29 HR1.out x8_3 p297 q297
                  have hw297_1 := hx297_1
                  have hw297_0 := hx297_0
                  obtain rfl : ad284 = ad297 := (by injection e297)
                  replace hx297_0 := cellB HB.out hx297_0
                  replace hx297_1 := cellB HB.out hx297_1
                  replace p297 := eq_true p297
                  replace q297 := eq_true q297
                  refine start_ (n := 12) (S := fun w' => w'.cell? ⟨gb285, 0, none⟩ = some (.int .i64 x286000_3) ∧ w'.cell? ⟨gb285, 1, none⟩ = some (.int .i64 x286001_3) ∧ w'.cell? (ad284.add ((x8_3).toNat * 2)) = some (.int .i64 ((rd_T29 l1 x8_3).f0)) ∧ w'.cell? ⟨(ad284.add ((x8_3).toNat * 2)).block, (ad284.add ((x8_3).toNat * 2)).off + 1, none⟩ = some (.int .i64 ((rd_T29 l1 x8_3).f1))) (ds := []) #[false, false, false, false, false, false, false, false, false, false, false, false] (by kernel_rfl) rfl rfl ⟨(blk_cell BK285.out 0).trans rfl, (blk_cell BK285.out 1).trans rfl, (cellB HB.out hw297_0), (cellB HB.out hw297_1)⟩ (fun hHeld => ?_); refine with_tabW marigraphref20_Do.tab21 marigraphref20_Do.bits21 (fun HT_ HW_ => ?_)
                  generalize w62.drew = w63 at BK280 BK285 HB hx297_0 hx297_1 hHeld ⊢
                  refine pA 1 (some 71) (bA 12 2) HT_.out ?_
                  refine pA 2 (some 72) (bA 12 6) HT_.out ?_
                  refine pA 3 (some 73) (bA 12 14) HT_.out ?_
                  refine take_ (i := 0) (N := some 70) (v := ?_) (a' := ?_) (bA 12 15) rfl rfl (take_ofW HT_.out HW_.out (by kernel_rfl)) (fun _ _ _ h => h) (Or.inl ⟨by rfl, ?_⟩) hHeld ?_ ?_
                  rotate_left
                  ·rintro w' ⟨s0, s1, s2, s3⟩
                   go_simp
                   with_reducible rfl
                  rotate_left
                  ·simp only [Act.put, List.setIfInBounds_toArray, List.set_cons_zero, List.set_cons_succ, i64_w, i32_w]
                   rfl
                  refine take_ (i := 4) (N := some 74) (v := ?_) (a' := ?_) (bA 12 31) rfl rfl (take_ofW HT_.out HW_.out (by kernel_rfl)) (fun _ _ _ h => h) (Or.inl ⟨by rfl, ?_⟩) hHeld ?_ ?_
                  rotate_left
                  ·rintro w' ⟨s0, s1, s2, s3⟩
                   go_simp
                   with_reducible rfl
                  rotate_left
                  ·simp only [Act.put, List.setIfInBounds_toArray, List.set_cons_zero, List.set_cons_succ, i64_w, i32_w]
                   rfl
                  refine join_ (σ := Nat) 2 (bA 12 1023) (fun s_ => [(75, .tuple #[.agg #[.int .i64 t298, .int .i64 t299], .int .i64 t300]), (10, .pointer (some ⟨s_, 0, none⟩)), (69, .tuple #[.agg #[.int .i64 t298, .int .i64 t299], .int .i64 t300]), (76, .agg #[.int .i64 t298, .int .i64 t299]), (77, .int .i64 t300)]) (fun s_ w' => (w'.cell? ⟨gb285, 0, none⟩ = some (.int .i64 x286000_3) ∧ w'.cell? ⟨gb285, 1, none⟩ = some (.int .i64 x286001_3) ∧ w'.cell? (ad284.add ((x8_3).toNat * 2)) = some (.int .i64 ((rd_T29 l1 x8_3).f0)) ∧ w'.cell? ⟨(ad284.add ((x8_3).toNat * 2)).block, (ad284.add ((x8_3).toNat * 2)).off + 1, none⟩ = some (.int .i64 ((rd_T29 l1 x8_3).f1))) ∧ (w'.heap[gb280]? = some (.cells #[.int .i64 x281000_3, .int .i64 x281001_3] 29 (0, 0))) ∧ (w'.heap[gb285]? = some (.cells #[.int .i64 x286000_3, .int .i64 x286001_3] 29 (0, 0))) ∧ (w'.heap[s_]? = some (.cells #[.int .i64 0, .int .i64 0] 29 (0, 0))) ∧ (w.heap.size ≤ s_) ∧ (w.heap.size ≤ s_) ∧ (gb280 ≠ s_) ∧ (s_ ≠ gb280) ∧ (gb285 ≠ s_) ∧ (s_ ≠ gb285) ∧ (Below w.heap.size w w')) ?_ ?_
                  rotate_left
                  ·intro hCont
                   refine two_ (i := 5) (j := 9) (Ni := some 75) (Nj := some 10) (bA 12 63) (bA 12 543) rfl rfl rfl rfl (two_of HT_.out (by kernel_rfl)) (by decide) (by decide) (fun K hK => ?_) (fun K hK => ?_)
                   ·skip
                    refine goes_ Try.func29 (by kernel_rfl) rfl #[.int .u8 43, .agg #[.int .i64 x286000_3, .int .i64 x286001_3], .agg #[.int .i64 ((rd_T29 l1 x8_3).f0), .int .i64 ((rd_T29 l1 x8_3).f1)]] (by rfl) rfl rfl argN ?_
                    with_reducible refine (marigraphref1_Op.calls k3 43 x286000_3 x286001_3 ((rd_T29 l1 x8_3).f0) ((rd_T29 l1 x8_3).f1) t298 t299 t300 _ A59.out).mono ?_
                    rintro e w64 ⟨rfl, hb⟩
                    refine ⟨_, rfl, ?_⟩
                    have n0_ := Aside0.mk (bkB BK280.out hb)
                    have n1_ := Aside0.mk (bkB BK285.out hb)
                    have n2_ := Aside0.mk (below_step (belS HB.out) hb)
                    clear BK280
                    clear BK285
                    clear HB
                    have BK280 := n0_
                    have BK285 := n1_
                    have HB := n2_
                    clear n0_ n1_ n2_
                    (try clear hb)
                    refine hK.out _ _ ⟨(blk_cell BK285.out 0).trans rfl, (blk_cell BK285.out 1).trans rfl, (cellB HB.out hw297_0), (cellB HB.out hw297_1)⟩ (fun hHeld => ?_)
                    clear hK K
                    refine norm_ (a' := ?_) ?_ ?_
                    rotate_left
                    ·show Act.put _ (some 75) _ = _
                     simp only [Act.put, List.setIfInBounds_toArray, List.set_cons_zero, List.set_cons_succ, i64_w, i32_w]
                     rfl
                    refine pA 6 (some 69) (bA 12 127) HT_.out ?_
                    refine pA 7 (some 76) (bA 12 255) HT_.out ?_
                    refine pA 8 (some 77) (bA 12 511) HT_.out ?_
                    refine one_ (i := 9) (N := some 10) (bA 12 1023) rfl rfl (one_of HT_.out (by kernel_rfl)) (by decide) (fun K hK => ?_)
                    refine box_step ?hg (N := 10) ?hd (cs := #[.int .i64 0, .int .i64 0]) (t := 29) ?hr ?_; (case hd => rfl); (case hg => rfl); (case hr => first | (go_simp; done) | (go_simp; rfl))
                    intro gb301 hg w65 hbox hb
                    have n0_ := Aside0.mk (bkB BK280.out hb)
                    have n1_ := Aside0.mk (bkB BK285.out hb)
                    have n2_ := Aside0.mk (below_step (belS HB.out) hb)
                    have n3_ := Aside0.mk (hbox)
                    have n4_ := Aside0.mk (szB hg HB.out)
                    have n5_ := Aside0.mk (szB hg HB.out)
                    have n6_ := Aside0.mk ((bk1 hg BK280.out))
                    have n7_ := Aside0.mk ((bk2 hg BK280.out))
                    have n8_ := Aside0.mk ((bk1 hg BK285.out))
                    have n9_ := Aside0.mk ((bk2 hg BK285.out))
                    clear BK280
                    clear BK285
                    clear HB
                    have BK280 := n0_
                    have BK285 := n1_
                    have HB := n2_
                    have BK301 := n3_
                    have GW301 := n4_
                    have GE301 := n5_
                    have NB280_301 := n6_
                    have NB301_280 := n7_
                    have NB285_301 := n8_
                    have NB301_285 := n9_
                    clear n0_ n1_ n2_ n3_ n4_ n5_ n6_ n7_ n8_ n9_
                    clear hb hbox hg
                    refine hK.out _ _ ⟨(blk_cell BK285.out 0).trans rfl, (blk_cell BK285.out 1).trans rfl, (cellB HB.out hw297_0), (cellB HB.out hw297_1)⟩ (fun hHeld => ?_)
                    clear hK K
                    refine norm_ (a' := ?_) ?_ ?_
                    rotate_left
                    ·show Act.put _ (some 10) _ = _
                     simp only [Act.put, List.setIfInBounds_toArray, List.set_cons_zero, List.set_cons_succ, i64_w, i32_w]
                     rfl
                    exact norm_ (by simp only [putAll, Act.put, List.setIfInBounds_toArray, List.set_cons_zero, List.set_cons_succ]) (hCont (gb301) _ ⟨hHeld, (blkN BK280.out), (blkN BK285.out), (blkN BK301.out), GW301.out, GE301.out, NB280_301.out, NB301_280.out, NB285_301.out, NB301_285.out, (belS HB.out)⟩)
                   ·skip
                    refine box_step ?hg (N := 10) ?hd (cs := #[.int .i64 0, .int .i64 0]) (t := 29) ?hr ?_; (case hd => rfl); (case hg => rfl); (case hr => first | (go_simp; done) | (go_simp; rfl))
                    intro gb301 hg w64 hbox hb
                    have n0_ := Aside0.mk (bkB BK280.out hb)
                    have n1_ := Aside0.mk (bkB BK285.out hb)
                    have n2_ := Aside0.mk (below_step (belS HB.out) hb)
                    have n3_ := Aside0.mk (hbox)
                    have n4_ := Aside0.mk (szB hg HB.out)
                    have n5_ := Aside0.mk (szB hg HB.out)
                    have n6_ := Aside0.mk ((bk1 hg BK280.out))
                    have n7_ := Aside0.mk ((bk2 hg BK280.out))
                    have n8_ := Aside0.mk ((bk1 hg BK285.out))
                    have n9_ := Aside0.mk ((bk2 hg BK285.out))
                    clear BK280
                    clear BK285
                    clear HB
                    have BK280 := n0_
                    have BK285 := n1_
                    have HB := n2_
                    have BK301 := n3_
                    have GW301 := n4_
                    have GE301 := n5_
                    have NB280_301 := n6_
                    have NB301_280 := n7_
                    have NB285_301 := n8_
                    have NB301_285 := n9_
                    clear n0_ n1_ n2_ n3_ n4_ n5_ n6_ n7_ n8_ n9_
                    clear hb hbox hg
                    refine hK.out _ _ ⟨(blk_cell BK285.out 0).trans rfl, (blk_cell BK285.out 1).trans rfl, (cellB HB.out hw297_0), (cellB HB.out hw297_1)⟩ (fun hHeld => ?_)
                    clear hK K
                    refine norm_ (a' := ?_) ?_ ?_
                    rotate_left
                    ·show Act.put _ (some 10) _ = _
                     simp only [Act.put, List.setIfInBounds_toArray, List.set_cons_zero, List.set_cons_succ, i64_w, i32_w]
                     rfl
                    refine one_ (i := 5) (N := some 75) (bA 12 575) rfl rfl (one_of HT_.out (by kernel_rfl)) (by decide) (fun K hK => ?_)
                    refine goes_ Try.func29 (by kernel_rfl) rfl #[.int .u8 43, .agg #[.int .i64 x286000_3, .int .i64 x286001_3], .agg #[.int .i64 ((rd_T29 l1 x8_3).f0), .int .i64 ((rd_T29 l1 x8_3).f1)]] (by rfl) rfl rfl argN ?_
                    with_reducible refine (marigraphref1_Op.calls k3 43 x286000_3 x286001_3 ((rd_T29 l1 x8_3).f0) ((rd_T29 l1 x8_3).f1) t298 t299 t300 _ A59.out).mono ?_
                    rintro e w65 ⟨rfl, hb⟩
                    refine ⟨_, rfl, ?_⟩
                    have n0_ := Aside0.mk (bkB BK280.out hb)
                    have n1_ := Aside0.mk (bkB BK285.out hb)
                    have n2_ := Aside0.mk (bkB BK301.out hb)
                    have n3_ := Aside0.mk (below_step (belS HB.out) hb)
                    clear BK280
                    clear BK285
                    clear BK301
                    clear HB
                    have BK280 := n0_
                    have BK285 := n1_
                    have BK301 := n2_
                    have HB := n3_
                    clear n0_ n1_ n2_ n3_
                    (try clear hb)
                    refine hK.out _ _ ⟨(blk_cell BK285.out 0).trans rfl, (blk_cell BK285.out 1).trans rfl, (cellB HB.out hw297_0), (cellB HB.out hw297_1)⟩ (fun hHeld => ?_)
                    clear hK K
                    refine norm_ (a' := ?_) ?_ ?_
                    rotate_left
                    ·show Act.put _ (some 75) _ = _
                     simp only [Act.put, List.setIfInBounds_toArray, List.set_cons_zero, List.set_cons_succ, i64_w, i32_w]
                     rfl
                    refine pA 6 (some 69) (bA 12 639) HT_.out ?_
                    refine pA 7 (some 76) (bA 12 767) HT_.out ?_
                    refine pA 8 (some 77) (bA 12 1023) HT_.out ?_
                    exact norm_ (by simp only [putAll, Act.put, List.setIfInBounds_toArray, List.set_cons_zero, List.set_cons_succ]) (hCont (gb301) _ ⟨hHeld, (blkN BK280.out), (blkN BK285.out), (blkN BK301.out), GW301.out, GE301.out, NB280_301.out, NB301_280.out, NB285_301.out, NB301_285.out, (belS HB.out)⟩)
                  rintro gb301 w66 ⟨hS_, h0_, h1_, h2_, h3_, h4_, h5_, h6_, h7_, h8_, h9_⟩
                  have n0_ : Aside0 (w66.heap[gb280]? = some (.cells #[.int .i64 x281000_3, .int .i64 x281001_3] 29 (0, 0))) := ⟨h0_⟩
                  have n1_ : Aside0 (w66.heap[gb285]? = some (.cells #[.int .i64 x286000_3, .int .i64 x286001_3] 29 (0, 0))) := ⟨h1_⟩
                  have n2_ : Aside0 (w66.heap[gb301]? = some (.cells #[.int .i64 0, .int .i64 0] 29 (0, 0))) := ⟨h2_⟩
                  have n3_ : Aside0 (w.heap.size ≤ gb301) := ⟨h3_⟩
                  have n4_ : Aside0 (w.heap.size ≤ gb301) := ⟨h4_⟩
                  have n5_ : Aside0 (gb280 ≠ gb301) := ⟨h5_⟩
                  have n6_ : Aside0 (gb301 ≠ gb280) := ⟨h6_⟩
                  have n7_ : Aside0 (gb285 ≠ gb301) := ⟨h7_⟩
                  have n8_ : Aside0 (gb301 ≠ gb285) := ⟨h8_⟩
                  have n9_ : Aside0 (Below w.heap.size w w66) := ⟨h9_⟩
                  clear BK280
                  clear BK285
                  clear HB
                  clear h0_ h1_ h2_ h3_ h4_ h5_ h6_ h7_ h8_ h9_
                  have BK280 := n0_
                  have BK285 := n1_
                  have BK301 := n2_
                  have GW301 := n3_
                  have GE301 := n4_
                  have NB280_301 := n5_
                  have NB301_280 := n6_
                  have NB285_301 := n7_
                  have NB301_285 := n8_
                  have HB := n9_
                  clear n0_ n1_ n2_ n3_ n4_ n5_ n6_ n7_ n8_ n9_
                  have hHeld : w66.cell? ⟨gb285, 0, none⟩ = some (.int .i64 x286000_3) ∧ w66.cell? ⟨gb285, 1, none⟩ = some (.int .i64 x286001_3) ∧ w66.cell? (ad284.add ((x8_3).toNat * 2)) = some (.int .i64 ((rd_T29 l1 x8_3).f0)) ∧ w66.cell? ⟨(ad284.add ((x8_3).toNat * 2)).block, (ad284.add ((x8_3).toNat * 2)).off + 1, none⟩ = some (.int .i64 ((rd_T29 l1 x8_3).f1)) := hS_
                  refine norm_ (a' := ?_) ?_ ?_
                  rotate_left
                  ·simp only [putAll, Act.put, List.setIfInBounds_toArray, List.set_cons_zero, List.set_cons_succ]
                   rfl
                  refine one_ (i := 10) (N := none) (bA 12 2047) rfl rfl (one_of HT_.out (by kernel_rfl)) (by decide) (fun K hK => ?_)
                  have hs67 : w66.cell? ⟨gb301, 0, none⟩ = some (.int .i64 0) := (blk_cell BK301.out 0).trans rfl
                  have hfs67 := blk_frozen BK301.out 0
                  have hns67_0 := NB280_301.out
                  have hns67_1 := NB285_301.out
                  have hms67_0 := NB301_280.out
                  have hms67_1 := NB301_285.out
                  have hs68 : w66.cell? ⟨gb301, 1, none⟩ = some (.int .i64 0) := (blk_cell BK301.out 1).trans rfl
                  have hfs68 := blk_frozen BK301.out 1
                  have hns68_0 := NB280_301.out
                  have hns68_1 := NB285_301.out
                  have hms68_0 := NB301_280.out
                  have hms68_1 := NB301_285.out
                  refine skip_ (w1 := ?_) (by rfl) rfl ?_ ?_
                  rotate_left
                  ·go_simp
                   rfl
                  refine hK.out _ _ ⟨((cell_far (p := ⟨gb301, _, none⟩) NB285_301.out _).trans (((cell_far (p := ⟨gb301, _, none⟩) NB285_301.out _).trans (hHeld.1)))), ((cell_far (p := ⟨gb301, _, none⟩) NB285_301.out _).trans (((cell_far (p := ⟨gb301, _, none⟩) NB285_301.out _).trans (hHeld.2.1)))), ((cell_far (p := ⟨gb301, _, none⟩) (by first | exact cellNe hw297_0 GW301.out | (rw [add_block]; exact cellNe hw297_0 GW301.out) | (show (Addr.add _ _).block ≠ _; rw [add_block]; exact cellNe hw297_0 GW301.out) | (dsimp only; exact cellNe hw297_0 GW301.out)) _).trans (((cell_far (p := ⟨gb301, _, none⟩) (by first | exact cellNe hw297_0 GW301.out | (rw [add_block]; exact cellNe hw297_0 GW301.out) | (show (Addr.add _ _).block ≠ _; rw [add_block]; exact cellNe hw297_0 GW301.out) | (dsimp only; exact cellNe hw297_0 GW301.out)) _).trans (hHeld.2.2.1)))), ((cell_far (p := ⟨gb301, _, none⟩) (by first | exact cellNe hw297_1 GW301.out | (rw [add_block]; exact cellNe hw297_1 GW301.out) | (show (Addr.add _ _).block ≠ _; rw [add_block]; exact cellNe hw297_1 GW301.out) | (dsimp only; exact cellNe hw297_1 GW301.out)) _).trans (((cell_far (p := ⟨gb301, _, none⟩) (by first | exact cellNe hw297_1 GW301.out | (rw [add_block]; exact cellNe hw297_1 GW301.out) | (show (Addr.add _ _).block ≠ _; rw [add_block]; exact cellNe hw297_1 GW301.out) | (dsimp only; exact cellNe hw297_1 GW301.out)) _).trans (hHeld.2.2.2))))⟩ (fun hHeld => ?_)
                  clear hK K
                  refine pA 11 (some 11) (bA 12 4095) HT_.out ?_
                  refine done_ (done_of HT_.out (by kernel_rfl)) ?_
                  have hnb69 := NB301_280.out
                  have hnc69 := NB280_301.out
                  have hnb70 := NB301_285.out
                  have hnc70 := NB285_301.out
                  have hcz71_0 : w66.cell? ⟨gb301, 0, none⟩ = some (.int .i64 0) := (blk_cell BK301.out 0).trans rfl
                  have hcz71_1 : w66.cell? ⟨gb301, 1, none⟩ = some (.int .i64 0) := (blk_cell BK301.out 1).trans rfl
                  have hfz71_0 := blk_frozen BK301.out 0
                  have hfz71_1 := blk_frozen BK301.out 1
                  have hnb72 := NB285_280.out
                  have hnc72 := NB280_285.out
                  have hcz73_0 : w66.cell? ⟨gb285, 0, none⟩ = some (.int .i64 x286000_3) := (blk_cell BK285.out 0).trans rfl
                  have hcz73_1 : w66.cell? ⟨gb285, 1, none⟩ = some (.int .i64 x286001_3) := (blk_cell BK285.out 1).trans rfl
                  have hfz73_0 := blk_frozen BK285.out 0
                  have hfz73_1 := blk_frozen BK285.out 1
                  try go_wp2
                  go_roundg k3
                  case measure => have := HJ2.out; have := HK2.out; have := HK3.out; omega
                  case rel => exact ⟨(wrap64 (x8_3 + 1)), (x281000_3), (x281001_3), (t298), (t299), (by first | rfl | (simp; done) | (simp [*]; done)), H', ⟨by have := HJ2.out; have := HK2.out; have := HK3.out; omega⟩, ⟨blkF BK280.out⟩, ⟨by (with_reducible repeat (first | refine blk_drewN ?_ _ | refine blk_drew ?_ | refine blk_alloc ?_ _)); refine blk_put (cs := #[.int .i64 t298, .int .i64 x286001_3]) ?_ 1 _ rfl; (with_reducible repeat (first | refine blk_drewN ?_ _ | refine blk_drew ?_ | refine blk_alloc ?_ _)); refine blk_put (cs := #[.int .i64 x286000_3, .int .i64 x286001_3]) ?_ 0 _ rfl; (with_reducible repeat (first | refine blk_drewN ?_ _ | refine blk_drew ?_ | refine blk_alloc ?_ _)); refine blk_far ?_ NB285_301.out _; (with_reducible repeat (first | refine blk_drewN ?_ _ | refine blk_drew ?_ | refine blk_alloc ?_ _)); refine blk_far ?_ NB285_301.out _; (with_reducible repeat (first | refine blk_drewN ?_ _ | refine blk_drew ?_ | refine blk_alloc ?_ _)); exact BK285.out⟩, ⟨(belS HB.out)⟩⟩
                 ·rw [if_neg c60] at H
                  have c60b0 : (t300 == 0) = false := beq_eq_false_iff_ne.mpr c60
                  have c60b1 : (t300 != 0) = true := bne_iff_ne.mpr c60
                  simp only [Option.some.injEq, Prod.mk.injEq] at H
                  obtain ⟨rfl, rfl, rfl⟩ := H
                  try go_wp2
                  have n0_ := Aside0.mk (blk_drew BK280.out)
                  have n1_ := Aside0.mk (blk_drew BK285.out)
                  have n2_ := Aside0.mk (below_drew1 HB.out)
                  clear BK280
                  clear BK285
                  clear HB
                  have BK280 := n0_
                  have BK285 := n1_
                  have HB := n2_
                  clear n0_ n1_ n2_
                  have p293 : 0 ≤ (x8_3 : Int) := of_decide_eq_true (by first | (with_reducible assumption) | assumption)
                  have q293 : x8_3 < (l1.length : Int) := of_decide_eq_true (by first | (with_reducible assumption) | assumption)
                  obtain ⟨ad293, e293, hx293_0, hx293_1⟩ := at_T29 HR1.out x8_3 p293 q293
                  have hw293_1 := hx293_1
                  have hw293_0 := hx293_0
                  obtain rfl : ad284 = ad293 := (by injection e293)
                  replace hx293_0 := cellB HB.out hx293_0
                  replace hx293_1 := cellB HB.out hx293_1
                  replace p293 := eq_true p293
                  replace q293 := eq_true q293
                  refine start_ (n := 7) (S := fun w' => w'.cell? ⟨gb285, 0, none⟩ = some (.int .i64 x286000_3) ∧ w'.cell? ⟨gb285, 1, none⟩ = some (.int .i64 x286001_3) ∧ w'.cell? (ad284.add ((x8_3).toNat * 2)) = some (.int .i64 ((rd_T29 l1 x8_3).f0)) ∧ w'.cell? ⟨(ad284.add ((x8_3).toNat * 2)).block, (ad284.add ((x8_3).toNat * 2)).off + 1, none⟩ = some (.int .i64 ((rd_T29 l1 x8_3).f1))) (ds := []) #[false, false, false, false, false, false, false] (by kernel_rfl) rfl rfl ⟨(blk_cell BK285.out 0).trans rfl, (blk_cell BK285.out 1).trans rfl, (cellB HB.out hw293_0), (cellB HB.out hw293_1)⟩ (fun hHeld => ?_)
                  generalize wr.drew = w74 at BK280 BK285 HB hx293_0 hx293_1 hHeld ⊢
                  refine pure_ (i := 0) (N := some 62) (v := ?_) (a' := ?_) (bA 7 1) rfl rfl (by kernel_rfl) (fun _ _ _ h => h) (Or.inl ⟨by rfl, ?_⟩) ?_ ?_
                  rotate_left
                  ·intro w'
                   go_simp
                   with_reducible rfl
                  rotate_left
                  ·simp only [Act.put, List.setIfInBounds_toArray, List.set_cons_zero, List.set_cons_succ, i64_w, i32_w]
                   rfl
                  refine pure_ (i := 1) (N := some 63) (v := ?_) (a' := ?_) (bA 7 3) rfl rfl (by kernel_rfl) (fun _ _ _ h => h) (Or.inl ⟨by rfl, ?_⟩) ?_ ?_
                  rotate_left
                  ·intro w'
                   go_simp
                   with_reducible rfl
                  rotate_left
                  ·simp only [Act.put, List.setIfInBounds_toArray, List.set_cons_zero, List.set_cons_succ, i64_w, i32_w]
                   rfl
                  refine pure_ (i := 2) (N := some 64) (v := ?_) (a' := ?_) (bA 7 7) rfl rfl (by kernel_rfl) (fun _ _ _ h => h) (Or.inl ⟨by rfl, ?_⟩) ?_ ?_
                  rotate_left
                  ·intro w'
                   go_simp
                   with_reducible rfl
                  rotate_left
                  ·simp only [Act.put, List.setIfInBounds_toArray, List.set_cons_zero, List.set_cons_succ, i64_w, i32_w]
                   rfl
                  refine take_ (i := 3) (N := some 65) (v := ?_) (a' := ?_) (bA 7 15) rfl rfl (by kernel_rfl) (fun _ _ _ h => h) (Or.inl ⟨by rfl, ?_⟩) hHeld ?_ ?_
                  rotate_left
                  ·rintro w' ⟨s0, s1, s2, s3⟩
                   go_simp
                   with_reducible rfl
                  rotate_left
                  ·simp only [Act.put, List.setIfInBounds_toArray, List.set_cons_zero, List.set_cons_succ, i64_w, i32_w]
                   rfl
                  refine take_ (i := 4) (N := some 66) (v := ?_) (a' := ?_) (bA 7 31) rfl rfl (by kernel_rfl) (fun _ _ _ h => h) (Or.inl ⟨by rfl, ?_⟩) hHeld ?_ ?_
                  rotate_left
                  ·rintro w' ⟨s0, s1, s2, s3⟩
                   go_simp
                   with_reducible rfl
                  rotate_left
                  ·simp only [Act.put, List.setIfInBounds_toArray, List.set_cons_zero, List.set_cons_succ, i64_w, i32_w]
                   rfl
                  refine one_ (i := 5) (N := some 67) (bA 7 63) rfl rfl (by kernel_rfl) (by decide) (fun K hK => ?_)
                  refine goes_ Try.func28 (by kernel_rfl) rfl #[.agg #[.int .i64 ((rd_T29 l1 x8_3).f0), .int .i64 ((rd_T29 l1 x8_3).f1)], .agg #[.int .i64 x286000_3, .int .i64 x286001_3]] (by rfl) rfl rfl argN ?_
                  with_reducible refine (marigraphref1_Cmp.calls k3 ((rd_T29 l1 x8_3).f0) ((rd_T29 l1 x8_3).f1) x286000_3 x286001_3 t294 _ A42.out).mono ?_
                  rintro e w75 ⟨rfl, hb⟩
                  refine ⟨_, rfl, ?_⟩
                  have n0_ := Aside0.mk (bkB BK280.out hb)
                  have n1_ := Aside0.mk (bkB BK285.out hb)
                  have n2_ := Aside0.mk (below_step (belS HB.out) hb)
                  clear BK280
                  clear BK285
                  clear HB
                  have BK280 := n0_
                  have BK285 := n1_
                  have HB := n2_
                  clear n0_ n1_ n2_
                  (try clear hb)
                  refine hK.out _ _ ⟨(blk_cell BK285.out 0).trans rfl, (blk_cell BK285.out 1).trans rfl, (cellB HB.out hw293_0), (cellB HB.out hw293_1)⟩ (fun hHeld => ?_)
                  clear hK K
                  refine norm_ (a' := ?_) ?_ ?_
                  rotate_left
                  ·show Act.put _ (some 67) _ = _
                   simp only [Act.put, List.setIfInBounds_toArray, List.set_cons_zero, List.set_cons_succ, i64_w, i32_w]
                   rfl
                  refine pure_ (i := 6) (N := some 9) (v := ?_) (a' := ?_) (bA 7 127) rfl rfl (by kernel_rfl) (fun _ _ _ h => h) (Or.inl ⟨by rfl, ?_⟩) ?_ ?_
                  rotate_left
                  ·intro w'
                   go_simp
                   with_reducible rfl
                  rotate_left
                  ·simp only [Act.put, List.setIfInBounds_toArray, List.set_cons_zero, List.set_cons_succ, i64_w, i32_w]
                   rfl
                  refine done_ (by kernel_rfl) ?_
                  try go_wp2
                  have n0_ := Aside0.mk (blk_drew BK280.out)
                  have n1_ := Aside0.mk (blk_drew BK285.out)
                  have n2_ := Aside0.mk (below_drew1 HB.out)
                  clear BK280
                  clear BK285
                  clear HB
                  have BK280 := n0_
                  have BK285 := n1_
                  have HB := n2_
                  clear n0_ n1_ n2_
                  have p297 : 0 ≤ (x8_3 : Int) := of_decide_eq_true (by first | (with_reducible assumption) | assumption)
                  have q297 : x8_3 < (l1.length : Int) := of_decide_eq_true (by first | (with_reducible assumption) | assumption)
                  obtain ⟨ad297, e297, hx297_0, hx297_1⟩ := at_T29 HR1.out x8_3 p297 q297
                  have hw297_1 := hx297_1
                  have hw297_0 := hx297_0
                  obtain rfl : ad284 = ad297 := (by injection e297)
                  replace hx297_0 := cellB HB.out hx297_0
                  replace hx297_1 := cellB HB.out hx297_1
                  replace p297 := eq_true p297
                  replace q297 := eq_true q297
                  refine start_ (n := 12) (S := fun w' => w'.cell? ⟨gb285, 0, none⟩ = some (.int .i64 x286000_3) ∧ w'.cell? ⟨gb285, 1, none⟩ = some (.int .i64 x286001_3) ∧ w'.cell? (ad284.add ((x8_3).toNat * 2)) = some (.int .i64 ((rd_T29 l1 x8_3).f0)) ∧ w'.cell? ⟨(ad284.add ((x8_3).toNat * 2)).block, (ad284.add ((x8_3).toNat * 2)).off + 1, none⟩ = some (.int .i64 ((rd_T29 l1 x8_3).f1))) (ds := []) #[false, false, false, false, false, false, false, false, false, false, false, false] (by kernel_rfl) rfl rfl ⟨(blk_cell BK285.out 0).trans rfl, (blk_cell BK285.out 1).trans rfl, (cellB HB.out hw297_0), (cellB HB.out hw297_1)⟩ (fun hHeld => ?_); refine with_tabW marigraphref20_Do.tab21 marigraphref20_Do.bits21 (fun HT_ HW_ => ?_)
                  generalize w75.drew = w76 at BK280 BK285 HB hx297_0 hx297_1 hHeld ⊢
                  refine pA 1 (some 71) (bA 12 2) HT_.out ?_
                  refine pA 2 (some 72) (bA 12 6) HT_.out ?_
                  refine pA 3 (some 73) (bA 12 14) HT_.out ?_
                  refine take_ (i := 0) (N := some 70) (v := ?_) (a' := ?_) (bA 12 15) rfl rfl (take_ofW HT_.out HW_.out (by kernel_rfl)) (fun _ _ _ h => h) (Or.inl ⟨by rfl, ?_⟩) hHeld ?_ ?_
                  rotate_left
                  ·rintro w' ⟨s0, s1, s2, s3⟩
                   go_simp
                   with_reducible rfl
                  rotate_left
                  ·simp only [Act.put, List.setIfInBounds_toArray, List.set_cons_zero, List.set_cons_succ, i64_w, i32_w]
                   rfl
                  refine take_ (i := 4) (N := some 74) (v := ?_) (a' := ?_) (bA 12 31) rfl rfl (take_ofW HT_.out HW_.out (by kernel_rfl)) (fun _ _ _ h => h) (Or.inl ⟨by rfl, ?_⟩) hHeld ?_ ?_
                  rotate_left
                  ·rintro w' ⟨s0, s1, s2, s3⟩
                   go_simp
                   with_reducible rfl
                  rotate_left
                  ·simp only [Act.put, List.setIfInBounds_toArray, List.set_cons_zero, List.set_cons_succ, i64_w, i32_w]
                   rfl
                  refine join_ (σ := Nat) 2 (bA 12 1023) (fun s_ => [(75, .tuple #[.agg #[.int .i64 t298, .int .i64 t299], .int .i64 t300]), (10, .pointer (some ⟨s_, 0, none⟩)), (69, .tuple #[.agg #[.int .i64 t298, .int .i64 t299], .int .i64 t300]), (76, .agg #[.int .i64 t298, .int .i64 t299]), (77, .int .i64 t300)]) (fun s_ w' => (w'.cell? ⟨gb285, 0, none⟩ = some (.int .i64 x286000_3) ∧ w'.cell? ⟨gb285, 1, none⟩ = some (.int .i64 x286001_3) ∧ w'.cell? (ad284.add ((x8_3).toNat * 2)) = some (.int .i64 ((rd_T29 l1 x8_3).f0)) ∧ w'.cell? ⟨(ad284.add ((x8_3).toNat * 2)).block, (ad284.add ((x8_3).toNat * 2)).off + 1, none⟩ = some (.int .i64 ((rd_T29 l1 x8_3).f1))) ∧ (w'.heap[gb280]? = some (.cells #[.int .i64 x281000_3, .int .i64 x281001_3] 29 (0, 0))) ∧ (w'.heap[gb285]? = some (.cells #[.int .i64 x286000_3, .int .i64 x286001_3] 29 (0, 0))) ∧ (w'.heap[s_]? = some (.cells #[.int .i64 0, .int .i64 0] 29 (0, 0))) ∧ (w.heap.size ≤ s_) ∧ (w.heap.size ≤ s_) ∧ (gb280 ≠ s_) ∧ (s_ ≠ gb280) ∧ (gb285 ≠ s_) ∧ (s_ ≠ gb285) ∧ (Below w.heap.size w w')) ?_ ?_
                  rotate_left
                  ·intro hCont
                   refine two_ (i := 5) (j := 9) (Ni := some 75) (Nj := some 10) (bA 12 63) (bA 12 543) rfl rfl rfl rfl (two_of HT_.out (by kernel_rfl)) (by decide) (by decide) (fun K hK => ?_) (fun K hK => ?_)
                   ·skip
                    refine goes_ Try.func29 (by kernel_rfl) rfl #[.int .u8 43, .agg #[.int .i64 x286000_3, .int .i64 x286001_3], .agg #[.int .i64 ((rd_T29 l1 x8_3).f0), .int .i64 ((rd_T29 l1 x8_3).f1)]] (by rfl) rfl rfl argN ?_
                    with_reducible refine (marigraphref1_Op.calls k3 43 x286000_3 x286001_3 ((rd_T29 l1 x8_3).f0) ((rd_T29 l1 x8_3).f1) t298 t299 t300 _ A59.out).mono ?_
                    rintro e w77 ⟨rfl, hb⟩
                    refine ⟨_, rfl, ?_⟩
                    have n0_ := Aside0.mk (bkB BK280.out hb)
                    have n1_ := Aside0.mk (bkB BK285.out hb)
                    have n2_ := Aside0.mk (below_step (belS HB.out) hb)
                    clear BK280
                    clear BK285
                    clear HB
                    have BK280 := n0_
                    have BK285 := n1_
                    have HB := n2_
                    clear n0_ n1_ n2_
                    (try clear hb)
                    refine hK.out _ _ ⟨(blk_cell BK285.out 0).trans rfl, (blk_cell BK285.out 1).trans rfl, (cellB HB.out hw297_0), (cellB HB.out hw297_1)⟩ (fun hHeld => ?_)
                    clear hK K
                    refine norm_ (a' := ?_) ?_ ?_
                    rotate_left
                    ·show Act.put _ (some 75) _ = _
                     simp only [Act.put, List.setIfInBounds_toArray, List.set_cons_zero, List.set_cons_succ, i64_w, i32_w]
                     rfl
                    refine pA 6 (some 69) (bA 12 127) HT_.out ?_
                    refine pA 7 (some 76) (bA 12 255) HT_.out ?_
                    refine pA 8 (some 77) (bA 12 511) HT_.out ?_
                    refine one_ (i := 9) (N := some 10) (bA 12 1023) rfl rfl (one_of HT_.out (by kernel_rfl)) (by decide) (fun K hK => ?_)
                    refine box_step ?hg (N := 10) ?hd (cs := #[.int .i64 0, .int .i64 0]) (t := 29) ?hr ?_; (case hd => rfl); (case hg => rfl); (case hr => first | (go_simp; done) | (go_simp; rfl))
                    intro gb301 hg w78 hbox hb
                    have n0_ := Aside0.mk (bkB BK280.out hb)
                    have n1_ := Aside0.mk (bkB BK285.out hb)
                    have n2_ := Aside0.mk (below_step (belS HB.out) hb)
                    have n3_ := Aside0.mk (hbox)
                    have n4_ := Aside0.mk (szB hg HB.out)
                    have n5_ := Aside0.mk (szB hg HB.out)
                    have n6_ := Aside0.mk ((bk1 hg BK280.out))
                    have n7_ := Aside0.mk ((bk2 hg BK280.out))
                    have n8_ := Aside0.mk ((bk1 hg BK285.out))
                    have n9_ := Aside0.mk ((bk2 hg BK285.out))
                    clear BK280
                    clear BK285
                    clear HB
                    have BK280 := n0_
                    have BK285 := n1_
                    have HB := n2_
                    have BK301 := n3_
                    have GW301 := n4_
                    have GE301 := n5_
                    have NB280_301 := n6_
                    have NB301_280 := n7_
                    have NB285_301 := n8_
                    have NB301_285 := n9_
                    clear n0_ n1_ n2_ n3_ n4_ n5_ n6_ n7_ n8_ n9_
                    clear hb hbox hg
                    refine hK.out _ _ ⟨(blk_cell BK285.out 0).trans rfl, (blk_cell BK285.out 1).trans rfl, (cellB HB.out hw297_0), (cellB HB.out hw297_1)⟩ (fun hHeld => ?_)
                    clear hK K
                    refine norm_ (a' := ?_) ?_ ?_
                    rotate_left
                    ·show Act.put _ (some 10) _ = _
                     simp only [Act.put, List.setIfInBounds_toArray, List.set_cons_zero, List.set_cons_succ, i64_w, i32_w]
                     rfl
                    exact norm_ (by simp only [putAll, Act.put, List.setIfInBounds_toArray, List.set_cons_zero, List.set_cons_succ]) (hCont (gb301) _ ⟨hHeld, (blkN BK280.out), (blkN BK285.out), (blkN BK301.out), GW301.out, GE301.out, NB280_301.out, NB301_280.out, NB285_301.out, NB301_285.out, (belS HB.out)⟩)
                   ·skip
                    refine box_step ?hg (N := 10) ?hd (cs := #[.int .i64 0, .int .i64 0]) (t := 29) ?hr ?_; (case hd => rfl); (case hg => rfl); (case hr => first | (go_simp; done) | (go_simp; rfl))
                    intro gb301 hg w77 hbox hb
                    have n0_ := Aside0.mk (bkB BK280.out hb)
                    have n1_ := Aside0.mk (bkB BK285.out hb)
                    have n2_ := Aside0.mk (below_step (belS HB.out) hb)
                    have n3_ := Aside0.mk (hbox)
                    have n4_ := Aside0.mk (szB hg HB.out)
                    have n5_ := Aside0.mk (szB hg HB.out)
                    have n6_ := Aside0.mk ((bk1 hg BK280.out))
                    have n7_ := Aside0.mk ((bk2 hg BK280.out))
                    have n8_ := Aside0.mk ((bk1 hg BK285.out))
                    have n9_ := Aside0.mk ((bk2 hg BK285.out))
                    clear BK280
                    clear BK285
                    clear HB
                    have BK280 := n0_
                    have BK285 := n1_
                    have HB := n2_
                    have BK301 := n3_
                    have GW301 := n4_
                    have GE301 := n5_
                    have NB280_301 := n6_
                    have NB301_280 := n7_
                    have NB285_301 := n8_
                    have NB301_285 := n9_
                    clear n0_ n1_ n2_ n3_ n4_ n5_ n6_ n7_ n8_ n9_
                    clear hb hbox hg
                    refine hK.out _ _ ⟨(blk_cell BK285.out 0).trans rfl, (blk_cell BK285.out 1).trans rfl, (cellB HB.out hw297_0), (cellB HB.out hw297_1)⟩ (fun hHeld => ?_)
                    clear hK K
                    refine norm_ (a' := ?_) ?_ ?_
                    rotate_left
                    ·show Act.put _ (some 10) _ = _
                     simp only [Act.put, List.setIfInBounds_toArray, List.set_cons_zero, List.set_cons_succ, i64_w, i32_w]
                     rfl
                    refine one_ (i := 5) (N := some 75) (bA 12 575) rfl rfl (one_of HT_.out (by kernel_rfl)) (by decide) (fun K hK => ?_)
                    refine goes_ Try.func29 (by kernel_rfl) rfl #[.int .u8 43, .agg #[.int .i64 x286000_3, .int .i64 x286001_3], .agg #[.int .i64 ((rd_T29 l1 x8_3).f0), .int .i64 ((rd_T29 l1 x8_3).f1)]] (by rfl) rfl rfl argN ?_
                    with_reducible refine (marigraphref1_Op.calls k3 43 x286000_3 x286001_3 ((rd_T29 l1 x8_3).f0) ((rd_T29 l1 x8_3).f1) t298 t299 t300 _ A59.out).mono ?_
                    rintro e w78 ⟨rfl, hb⟩
                    refine ⟨_, rfl, ?_⟩
                    have n0_ := Aside0.mk (bkB BK280.out hb)
                    have n1_ := Aside0.mk (bkB BK285.out hb)
                    have n2_ := Aside0.mk (bkB BK301.out hb)
                    have n3_ := Aside0.mk (below_step (belS HB.out) hb)
                    clear BK280
                    clear BK285
                    clear BK301
                    clear HB
                    have BK280 := n0_
                    have BK285 := n1_
                    have BK301 := n2_
                    have HB := n3_
                    clear n0_ n1_ n2_ n3_
                    (try clear hb)
                    refine hK.out _ _ ⟨(blk_cell BK285.out 0).trans rfl, (blk_cell BK285.out 1).trans rfl, (cellB HB.out hw297_0), (cellB HB.out hw297_1)⟩ (fun hHeld => ?_)
                    clear hK K
                    refine norm_ (a' := ?_) ?_ ?_
                    rotate_left
                    ·show Act.put _ (some 75) _ = _
                     simp only [Act.put, List.setIfInBounds_toArray, List.set_cons_zero, List.set_cons_succ, i64_w, i32_w]
                     rfl
                    refine pA 6 (some 69) (bA 12 639) HT_.out ?_
                    refine pA 7 (some 76) (bA 12 767) HT_.out ?_
                    refine pA 8 (some 77) (bA 12 1023) HT_.out ?_
                    exact norm_ (by simp only [putAll, Act.put, List.setIfInBounds_toArray, List.set_cons_zero, List.set_cons_succ]) (hCont (gb301) _ ⟨hHeld, (blkN BK280.out), (blkN BK285.out), (blkN BK301.out), GW301.out, GE301.out, NB280_301.out, NB301_280.out, NB285_301.out, NB301_285.out, (belS HB.out)⟩)
                  rintro gb301 w79 ⟨hS_, h0_, h1_, h2_, h3_, h4_, h5_, h6_, h7_, h8_, h9_⟩
                  have n0_ : Aside0 (w79.heap[gb280]? = some (.cells #[.int .i64 x281000_3, .int .i64 x281001_3] 29 (0, 0))) := ⟨h0_⟩
                  have n1_ : Aside0 (w79.heap[gb285]? = some (.cells #[.int .i64 x286000_3, .int .i64 x286001_3] 29 (0, 0))) := ⟨h1_⟩
                  have n2_ : Aside0 (w79.heap[gb301]? = some (.cells #[.int .i64 0, .int .i64 0] 29 (0, 0))) := ⟨h2_⟩
                  have n3_ : Aside0 (w.heap.size ≤ gb301) := ⟨h3_⟩
                  have n4_ : Aside0 (w.heap.size ≤ gb301) := ⟨h4_⟩
                  have n5_ : Aside0 (gb280 ≠ gb301) := ⟨h5_⟩
                  have n6_ : Aside0 (gb301 ≠ gb280) := ⟨h6_⟩
                  have n7_ : Aside0 (gb285 ≠ gb301) := ⟨h7_⟩
                  have n8_ : Aside0 (gb301 ≠ gb285) := ⟨h8_⟩
                  have n9_ : Aside0 (Below w.heap.size w w79) := ⟨h9_⟩
                  clear BK280
                  clear BK285
                  clear HB
                  clear h0_ h1_ h2_ h3_ h4_ h5_ h6_ h7_ h8_ h9_
                  have BK280 := n0_
                  have BK285 := n1_
                  have BK301 := n2_
                  have GW301 := n3_
                  have GE301 := n4_
                  have NB280_301 := n5_
                  have NB301_280 := n6_
                  have NB285_301 := n7_
                  have NB301_285 := n8_
                  have HB := n9_
                  clear n0_ n1_ n2_ n3_ n4_ n5_ n6_ n7_ n8_ n9_
                  have hHeld : w79.cell? ⟨gb285, 0, none⟩ = some (.int .i64 x286000_3) ∧ w79.cell? ⟨gb285, 1, none⟩ = some (.int .i64 x286001_3) ∧ w79.cell? (ad284.add ((x8_3).toNat * 2)) = some (.int .i64 ((rd_T29 l1 x8_3).f0)) ∧ w79.cell? ⟨(ad284.add ((x8_3).toNat * 2)).block, (ad284.add ((x8_3).toNat * 2)).off + 1, none⟩ = some (.int .i64 ((rd_T29 l1 x8_3).f1)) := hS_
                  refine norm_ (a' := ?_) ?_ ?_
                  rotate_left
                  ·simp only [putAll, Act.put, List.setIfInBounds_toArray, List.set_cons_zero, List.set_cons_succ]
                   rfl
                  refine one_ (i := 10) (N := none) (bA 12 2047) rfl rfl (one_of HT_.out (by kernel_rfl)) (by decide) (fun K hK => ?_)
                  have hs80 : w79.cell? ⟨gb301, 0, none⟩ = some (.int .i64 0) := (blk_cell BK301.out 0).trans rfl
                  have hfs80 := blk_frozen BK301.out 0
                  have hns80_0 := NB280_301.out
                  have hns80_1 := NB285_301.out
                  have hms80_0 := NB301_280.out
                  have hms80_1 := NB301_285.out
                  have hs81 : w79.cell? ⟨gb301, 1, none⟩ = some (.int .i64 0) := (blk_cell BK301.out 1).trans rfl
                  have hfs81 := blk_frozen BK301.out 1
                  have hns81_0 := NB280_301.out
                  have hns81_1 := NB285_301.out
                  have hms81_0 := NB301_280.out
                  have hms81_1 := NB301_285.out
                  refine skip_ (w1 := ?_) (by rfl) rfl ?_ ?_
                  rotate_left
                  ·go_simp
                   rfl
                  refine hK.out _ _ ⟨((cell_far (p := ⟨gb301, _, none⟩) NB285_301.out _).trans (((cell_far (p := ⟨gb301, _, none⟩) NB285_301.out _).trans (hHeld.1)))), ((cell_far (p := ⟨gb301, _, none⟩) NB285_301.out _).trans (((cell_far (p := ⟨gb301, _, none⟩) NB285_301.out _).trans (hHeld.2.1)))), ((cell_far (p := ⟨gb301, _, none⟩) (by first | exact cellNe hw297_0 GW301.out | (rw [add_block]; exact cellNe hw297_0 GW301.out) | (show (Addr.add _ _).block ≠ _; rw [add_block]; exact cellNe hw297_0 GW301.out) | (dsimp only; exact cellNe hw297_0 GW301.out)) _).trans (((cell_far (p := ⟨gb301, _, none⟩) (by first | exact cellNe hw297_0 GW301.out | (rw [add_block]; exact cellNe hw297_0 GW301.out) | (show (Addr.add _ _).block ≠ _; rw [add_block]; exact cellNe hw297_0 GW301.out) | (dsimp only; exact cellNe hw297_0 GW301.out)) _).trans (hHeld.2.2.1)))), ((cell_far (p := ⟨gb301, _, none⟩) (by first | exact cellNe hw297_1 GW301.out | (rw [add_block]; exact cellNe hw297_1 GW301.out) | (show (Addr.add _ _).block ≠ _; rw [add_block]; exact cellNe hw297_1 GW301.out) | (dsimp only; exact cellNe hw297_1 GW301.out)) _).trans (((cell_far (p := ⟨gb301, _, none⟩) (by first | exact cellNe hw297_1 GW301.out | (rw [add_block]; exact cellNe hw297_1 GW301.out) | (show (Addr.add _ _).block ≠ _; rw [add_block]; exact cellNe hw297_1 GW301.out) | (dsimp only; exact cellNe hw297_1 GW301.out)) _).trans (hHeld.2.2.2))))⟩ (fun hHeld => ?_)
                  clear hK K
                  refine pA 11 (some 11) (bA 12 4095) HT_.out ?_
                  refine done_ (done_of HT_.out (by kernel_rfl)) ?_
                  have hnb82 := NB280_285.out
                  have hnc82 := NB285_280.out
                  have hnb83 := NB280_301.out
                  have hnc83 := NB301_280.out
                  have hcz84_0 : w79.cell? ⟨gb280, 0, none⟩ = some (.int .i64 x281000_3) := (blk_cell BK280.out 0).trans rfl
                  have hcz84_1 : w79.cell? ⟨gb280, 1, none⟩ = some (.int .i64 x281001_3) := (blk_cell BK280.out 1).trans rfl
                  have hfz84_0 := blk_frozen BK280.out 0
                  have hfz84_1 := blk_frozen BK280.out 1
                  try go_wp2
                  refine bodyPost_ret (results_ct rfl _ _ gb280 29 #[.int .i64 0, .int .i64 0] (0, 0) _ rfl (by (with_reducible repeat (first | refine blk_drewN ?_ _ | refine blk_drew ?_ | refine blk_alloc ?_ _)); refine blk_put (cs := #[.int .i64 0, .int .i64 x281001_3]) ?_ 1 _ rfl; (with_reducible repeat (first | refine blk_drewN ?_ _ | refine blk_drew ?_ | refine blk_alloc ?_ _)); refine blk_put (cs := #[.int .i64 x281000_3, .int .i64 x281001_3]) ?_ 0 _ rfl; (with_reducible repeat (first | refine blk_drewN ?_ _ | refine blk_drew ?_ | refine blk_alloc ?_ _)); refine blk_far ?_ NB280_301.out _; (with_reducible repeat (first | refine blk_drewN ?_ _ | refine blk_drew ?_ | refine blk_alloc ?_ _)); refine blk_far ?_ NB280_301.out _; (with_reducible repeat (first | refine blk_drewN ?_ _ | refine blk_drew ?_ | refine blk_alloc ?_ _)); exact BK280.out) Try.underlying29 rfl (by kernel_rfl)) rfl ?_
                  exact ⟨by first | rfl | (simp [errW_none, errW_some] <;> rfl) | (simp [*, errW_none, errW_some] <;> rfl), (belS HB.out)⟩
              ·rw [if_neg c41] at H
               exact absurd H (by simp)
             ·rw [if_neg c40] at H
              have c40b0 : decide (x8_3 < (l1.length : Int)) = false := decide_eq_false c40
              clear c40
              by_cases c85 : a0 = 4
              ·rw [if_pos c85] at H
               have c85b0 : (a0 == 4) = true := beq_iff_eq.mpr c85
               have c85b1 : (a0 != 4) = false := bne_eq_false_iff_eq.mpr c85
               clear c85
               replace H := Option.bind_eq_some_iff.mp H
               obtain ⟨⟨t290, t291, t292⟩, A860, H⟩ := H
               replace H : (some (t290, t291, t292)) = some (r1, r2, r3) := H
               have A86 := Aside0.mk A860
               clear A860
               simp only [Option.some.injEq, Prod.mk.injEq] at H
               obtain ⟨rfl, rfl, rfl⟩ := H
               have hnb87 := NB285_280.out
               have hnc87 := NB280_285.out
               have hcz88_0 : wr.cell? ⟨gb285, 0, none⟩ = some (.int .i64 x286000_3) := (blk_cell BK285.out 0).trans rfl
               have hcz88_1 : wr.cell? ⟨gb285, 1, none⟩ = some (.int .i64 x286001_3) := (blk_cell BK285.out 1).trans rfl
               have hfz88_0 := blk_frozen BK285.out 0
               have hfz88_1 := blk_frozen BK285.out 1
               go_wp2_with (first | ((with_reducible refine gate_callee (f := 29) rfl ?_); refine goesL_ (some 105) rfl rfl Try.func29 (by kernel_rfl) rfl #[.int .u8 47, .agg #[.int .i64 x286000_3, .int .i64 x286001_3], .agg #[.int .i64 (l1.length : Int), .int .i64 1]] rfl argN ?_; (with_reducible refine (marigraphref1_Op.calls k3 47 x286000_3 x286001_3 (l1.length : Int) 1 t290 t291 t292 _ A86.out).mono ?_); rintro e w89 ⟨rfl, hb⟩; refine ⟨_, rfl, ?_⟩; have n0_ := Aside0.mk (bkB BK280.out hb); have n1_ := Aside0.mk (bkB BK285.out hb); have n2_ := Aside0.mk (below_step (belS HB.out) hb); clear BK280; clear BK285; clear HB; have BK280 := n0_; have BK285 := n1_; have HB := n2_; clear n0_ n1_ n2_; (try clear hb); have hcz90_0 : w89.cell? ⟨gb280, 0, none⟩ = some (.int .i64 x281000_3) := (blk_cell BK280.out 0).trans rfl; have hcz90_1 : w89.cell? ⟨gb280, 1, none⟩ = some (.int .i64 x281001_3) := (blk_cell BK280.out 1).trans rfl; have hfz90_0 := blk_frozen BK280.out 0; have hfz90_1 := blk_frozen BK280.out 1))
               refine bodyPost_ret (results_ct rfl _ _ gb280 29 #[.int .i64 t290, .int .i64 t291] (0, 0) _ rfl (by (with_reducible repeat (first | refine blk_drewN ?_ _ | refine blk_drew ?_ | refine blk_alloc ?_ _)); refine blk_put (cs := #[.int .i64 t290, .int .i64 x281001_3]) ?_ 1 _ rfl; (with_reducible repeat (first | refine blk_drewN ?_ _ | refine blk_drew ?_ | refine blk_alloc ?_ _)); refine blk_put (cs := #[.int .i64 x281000_3, .int .i64 x281001_3]) ?_ 0 _ rfl; (with_reducible repeat (first | refine blk_drewN ?_ _ | refine blk_drew ?_ | refine blk_alloc ?_ _)); exact BK280.out) Try.underlying29 rfl (by kernel_rfl)) rfl ?_
               exact ⟨by first | rfl | (simp [errW_none, errW_some] <;> rfl) | (simp [*, errW_none, errW_some] <;> rfl), (belS HB.out)⟩
              ·rw [if_neg c85] at H
               have c85b0 : (a0 == 4) = false := beq_eq_false_iff_ne.mpr c85
               have c85b1 : (a0 != 4) = true := bne_iff_ne.mpr c85
               simp only [Option.some.injEq, Prod.mk.injEq] at H
               obtain ⟨rfl, rfl, rfl⟩ := H
               have hnb91 := NB285_280.out
               have hnc91 := NB280_285.out
               have hcz92_0 : wr.cell? ⟨gb285, 0, none⟩ = some (.int .i64 x286000_3) := (blk_cell BK285.out 0).trans rfl
               have hcz92_1 : wr.cell? ⟨gb285, 1, none⟩ = some (.int .i64 x286001_3) := (blk_cell BK285.out 1).trans rfl
               have hfz92_0 := blk_frozen BK285.out 0
               have hfz92_1 := blk_frozen BK285.out 1
               have hcz93_0 : wr.cell? ⟨gb280, 0, none⟩ = some (.int .i64 x281000_3) := (blk_cell BK280.out 0).trans rfl
               have hcz93_1 : wr.cell? ⟨gb280, 1, none⟩ = some (.int .i64 x281001_3) := (blk_cell BK280.out 1).trans rfl
               have hfz93_0 := blk_frozen BK280.out 0
               have hfz93_1 := blk_frozen BK280.out 1
               go_wp2
               refine bodyPost_ret (results_ct rfl _ _ gb280 29 #[.int .i64 x286000_3, .int .i64 x286001_3] (0, 0) _ rfl (by (with_reducible repeat (first | refine blk_drewN ?_ _ | refine blk_drew ?_ | refine blk_alloc ?_ _)); refine blk_put (cs := #[.int .i64 x286000_3, .int .i64 x281001_3]) ?_ 1 _ rfl; (with_reducible repeat (first | refine blk_drewN ?_ _ | refine blk_drew ?_ | refine blk_alloc ?_ _)); refine blk_put (cs := #[.int .i64 x281000_3, .int .i64 x281001_3]) ?_ 0 _ rfl; (with_reducible repeat (first | refine blk_drewN ?_ _ | refine blk_drew ?_ | refine blk_alloc ?_ _)); exact BK280.out) Try.underlying29 rfl (by kernel_rfl)) rfl ?_
               exact ⟨by first | rfl | (simp [errW_none, errW_some] <;> rfl) | (simp [*, errW_none, errW_some] <;> rfl), (belS HB.out)⟩
       ·rw [if_neg c16] at H
        exact absurd H (by simp)

end Go.Proofs.Ytlmhgjnlbokceaa.PDownTells

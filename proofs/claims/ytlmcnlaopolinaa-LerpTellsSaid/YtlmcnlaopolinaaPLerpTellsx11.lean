/- The walk of the Go functions that a law reaches, told as plain functions; a program of this session has written it. No condition beyond the statement's own. -/
import Derived.Test.YtlmcnlaopolinaaPLerpTellsx0
import Derived.Test.YtlmcnlaopolinaaPLerpTellsx1
import Derived.Test.YtlmcnlaopolinaaPLerpTellsx2
import Derived.Test.YtlmcnlaopolinaaPLerpTellsx7
import Derived.Test.YtlmcnlaopolinaaPLerpTellsx9
import Derived.Test.YtlmcnlaopolinaaPLerpTellsx10
namespace Go.Proofs.Ytlmcnlaopolinaa.PLerpTells
open Go.RowKit Go.Proofs.YtlmcnlaopolinaaW.PrintWords Go.Proofs.YtlmcnlaopolinaaW.PrintLast Go.Proofs.YtlmcnlaopolinaaW.PrintMore
attribute [local go_sem] max2_int min2_int max_two min_two max_three min_three max_four min_four   -- for this text's walks alone
set_option linter.unusedVariables false
set_option linter.unusedSimpArgs false

attribute [local go_sem high] eqA24
/-! ### marigraphref21_At: function 18 -/
def marigraphref21_At.l0 : Nat → List (S26) → Int → Int → Option (Int × Int × Bool × Int)
 | 0, _, _, _ => none
 | k + 1, x0, x1, x7 => if x7 < (x0.length : Int) then (if 0 ≤ x7 then (if ((rd_T26 x0 x7).f0) = x1 then (some ((rd_T26 x0 x7).f1.f0, (rd_T26 x0 x7).f1.f1, true, 0)) else (if x7 > 0 then (if 0 ≤ (wrap64 (x7 - 1)) then (if (wrap64 (x7 - 1)) < (x0.length : Int) then (if ((rd_T26 x0 (wrap64 (x7 - 1))).f0) < x1 then (if x1 < ((rd_T26 x0 x7).f0) then ((marigraphref21_Between.f k ((rd_T26 x0 (wrap64 (x7 - 1))).f0) ((rd_T26 x0 (wrap64 (x7 - 1))).f1.f0) ((rd_T26 x0 (wrap64 (x7 - 1))).f1.f1) ((rd_T26 x0 x7).f0) ((rd_T26 x0 x7).f1.f0) ((rd_T26 x0 x7).f1.f1) x1).bind fun bt289 => (some (bt289.1, bt289.2.1, (bt289.2.2 == 0), bt289.2.2))) else (marigraphref21_At.l0 k x0 x1 (wrap64 (x7 + 1)))) else (marigraphref21_At.l0 k x0 x1 (wrap64 (x7 + 1)))) else (none)) else (none)) else (marigraphref21_At.l0 k x0 x1 (wrap64 (x7 + 1))))) else (none)) else (some (0, 0, false, 0))
def marigraphref21_At.f (k : Nat) (l0 : List (S26)) (a1 : Int) : Option (Int × Int × Bool × Int) := (marigraphref21_Right.f k l0).bind fun t282 => (if t282 = true then (marigraphref21_At.l0 k l0 a1 0) else (some (0, 0, false, 1)))
theorem marigraphref21_At.mono_l : ∀ k, (∀ y0 y1 y2, LeO (marigraphref21_At.l0 k y0 y1 y2) (marigraphref21_At.l0 (k + 1) y0 y1 y2))
 | 0 => fun _ _ _ r h => by simp [marigraphref21_At.l0] at h
 | k + 1 => by
  have ih0 := marigraphref21_At.mono_l k
  ·intro y0 y1 y2
   unfold marigraphref21_At.l0
   repeat' first
   | (with_reducible exact ih0 _ _ _)
   | (with_reducible exact marigraphref21_Between.mono _ _ _ _ _ _ _ _)
   | (with_reducible exact marigraphref21_Right.mono _ _)
   | (with_reducible exact LeO.refl _)
   | (with_reducible exact LeO.none _)
   | (with_reducible refine LeO.ite ?_ ?_)
   | (with_reducible refine LeO.bind ?_ (fun _ => ?_))
   | exact ih0 _ _ _
   | exact marigraphref21_Between.mono _ _ _ _ _ _ _ _
   | exact marigraphref21_Right.mono _ _
   | exact LeO.none _
   | refine LeO.ite ?_ ?_
   | refine LeO.bind ?_ (fun _ => ?_)
theorem marigraphref21_At.mono : ∀ a0 a1 k, LeO (marigraphref21_At.f k a0 a1) (marigraphref21_At.f (k + 1) a0 a1) := by
 intro a0 a1 k
 have ih0 := marigraphref21_At.mono_l k
 unfold marigraphref21_At.f
 repeat' first
   | (with_reducible exact ih0 _ _ _)
   | (with_reducible exact marigraphref21_Between.mono _ _ _ _ _ _ _ _)
   | (with_reducible exact marigraphref21_Right.mono _ _)
   | (with_reducible exact LeO.refl _)
   | (with_reducible exact LeO.none _)
   | (with_reducible refine LeO.ite ?_ ?_)
   | (with_reducible refine LeO.bind ?_ (fun _ => ?_))
   | exact ih0 _ _ _
   | exact marigraphref21_Between.mono _ _ _ _ _ _ _ _
   | exact marigraphref21_Right.mono _ _
   | exact LeO.none _
   | refine LeO.ite ?_ ?_
   | refine LeO.bind ?_ (fun _ => ?_)
def marigraphref21_At.T9 : Bool × List (List Nat × List Nat) := (true, [([], []), ([], []), ([1], [1]), ([0, 2], [0, 2]), ([3], [3]), ([], []), ([], []), ([5, 6], [5, 6]), ([7], [7]), ([], []), ([4, 8, 9], [4, 8, 9]), ([10], [10]), ([11], [11]), ([11], [11]), ([], []), ([14, 12, 10, 0, 1, 2, 3, 4, 5, 6, 7, 8, 9, 10, 11, 12, 14], [12, 14]), ([13, 15, 0, 1, 2, 3, 4, 5, 6, 7, 8, 9, 10, 11, 12, 13, 14, 15], [13])])
def marigraphref21_At.B9 : List Nat := [0, 0, 2, 7, 15, 0, 0, 96, 224, 0, 1023, 2047, 4095, 4095, 0, 24575, 65535]
theorem marigraphref21_At.tab9 : rtab .any (opsOf Try.f18 9) = marigraphref21_At.T9 := by kernel_rfl
theorem marigraphref21_At.bits9 : waitsOk marigraphref21_At.T9.2 marigraphref21_At.B9 = true := by kernel_rfl
set_option maxHeartbeats 8000000 in
set_option maxRecDepth 100000 in
theorem marigraphref21_At.calls (k : Nat) (A0 : Option Addr) (c0 : Nat) (l0 : List (S26)) (a1 : Int) (r1 : Int) (r2 : Int) (r3 : Bool) (r4 : Int) (w : World) (hr0 : Kd.C k26 w A0 l0.length l0) (hc0 : l0.length ≤ c0) (h : marigraphref21_At.f k l0 a1 = some (r1, r2, r3, r4)) :
  Calls Try.prog 18 #[.slice A0 l0.length c0, .int .i64 a1] w fun e w' => e = .returned (.tuple #[.agg #[.int .i64 r1, .int .i64 r2], .bool r3, .int .i64 r4]) ∧ Below w.heap.size w w' := by
 have hu24 := Try.underlying24
 have hu26 := Try.underlying26
 have HR0 := Aside0.mk hr0
 have HC0 := Aside0.mk hc0
 clear hr0 hc0
 have HB := Aside0.mk (Below.refl w.heap.size w)
 have H : ((marigraphref21_Right.f k l0).bind fun t282 => (if t282 = true then (marigraphref21_At.l0 k l0 a1 0) else (some (0, 0, false, 1)))) = some (r1, r2, r3, r4) := h
 clear h
 replace H := Option.bind_eq_some_iff.mp H
 obtain ⟨t282, A30, H⟩ := H
 replace H : (if t282 = true then (marigraphref21_At.l0 k l0 a1 0) else (some (0, 0, false, 1))) = some (r1, r2, r3, r4) := H
 have A3 := Aside0.mk A30
 clear A30
 by_cases c4 : t282 = true
 ·subst c4
  have H1 : (marigraphref21_At.l0 k l0 a1 0) = some (r1, r2, r3, r4) := by rw [if_pos rfl] at H; exact H
  clear H
  have H := H1
  clear H1
  have H' := Aside0.mk H
  clear H
  go_enter Try.func18, Try.ntmps18
  go_wp2_with (first | ((with_reducible refine gate_dst (N := 4) rfl ?_); refine box_event ?hg (N := 4) ?hd (cs := #[.int .i64 0, .int .i64 0]) (t := 24) ?hr ?_; (case hd => rfl); (case hg => rfl); (case hr => first | (go_simp; done) | (go_simp; rfl)); intro gb281 hg w5 hbox hb; have n0_ := Aside0.mk (below_step (belN HB.out) hb); have n1_ := Aside0.mk (hbox); have n2_ := Aside0.mk (szB hg HB.out); have n3_ := Aside0.mk (szB hg HB.out); clear HB; have HB := n0_; have BK281 := n1_; have GW281 := n2_; have GE281 := n3_; clear n0_ n1_ n2_ n3_; clear hb hbox hg) | ((with_reducible refine gate_callee (f := 34) rfl ?_); refine goesL_ (some 11) rfl rfl Try.func34 (by kernel_rfl) rfl #[.slice A0 l0.length c0] rfl argN ?_; (with_reducible refine (marigraphref21_Right.calls k _ _ l0 true _ ?side1 ?side2 A3.out).mono ?_); (case side1 => repeat (first | exact (Kd.C_below HR0.out HB.out) | (with_reducible refine Kd.C_alloc ?_ _) | (with_reducible refine Kd.C_drewN ?_ _) | (with_reducible refine Kd.C_drew ?_))); (case side2 => exact HC0.out); rintro e w6 ⟨rfl, hb⟩; refine ⟨_, rfl, ?_⟩; have n0_ := Aside0.mk (bkB BK281.out hb); have n1_ := Aside0.mk (below_step (belS HB.out) hb); clear BK281; clear HB; have BK281 := n0_; have HB := n1_; clear n0_ n1_; (try clear hb)))
  go_loopg [7] k (fun kq v7 w' => ∃ (x7_1 : Int) (x282000_1 : Int) (x282001_1 : Int), v7 = .int .i64 x7_1 ∧ Aside0 (marigraphref21_At.l0 kq l0 a1 x7_1 = some (r1, r2, r3, r4)) ∧ Aside0 (kq ≤ k) ∧ Aside0 (w'.heap[gb281]? = some (.cells #[.int .i64 x282000_1, .int .i64 x282001_1] 24 (0, 0))) ∧ Aside0 (Below w.heap.size w w'))
  case atStart => exact ⟨(0), (0), (0), (by first | rfl | (simp; done) | (simp [*]; done)), H', ⟨Nat.le_refl _⟩, ⟨blkN BK281.out⟩, ⟨(belS HB.out)⟩⟩
  case round =>
   clear H'
   try clear c1
   try clear p2
   try clear c3
   try clear c4
   obtain ⟨x7_1, x282000_1, x282001_1, rfl, HA, HK1, BK281, HB⟩ := hrel
   cases gk with
   | zero => exact absurd HA.out (by simp [marigraphref21_At.l0])
   | succ k1 =>
    have H := HA.out
    clear HA
    simp only [marigraphref21_At.l0] at H
    by_cases c7 : x7_1 < (l0.length : Int)
    ·rw [if_pos c7] at H
     have c7b0 : decide (x7_1 < (l0.length : Int)) = true := decide_eq_true c7
     clear c7
     by_cases c8 : 0 ≤ x7_1
     ·rw [if_pos c8] at H
      have c8b0 : decide (0 ≤ x7_1) = true := decide_eq_true c8
      clear c8
      by_cases c9 : ((rd_T26 l0 x7_1).f0) = a1
      ·rw [if_pos c9] at H
       have c9b0 : (((rd_T26 l0 x7_1).f0) == a1) = true := beq_iff_eq.mpr c9
       have c9b1 : (((rd_T26 l0 x7_1).f0) != a1) = false := bne_eq_false_iff_eq.mpr c9
       clear c9
       simp only [Option.some.injEq, Prod.mk.injEq] at H
       obtain ⟨rfl, rfl, rfl, rfl⟩ := H
       have p283 : 0 ≤ (x7_1 : Int) := of_decide_eq_true (by first | (with_reducible assumption) | assumption)
       have q283 : x7_1 < (l0.length : Int) := of_decide_eq_true (by first | (with_reducible assumption) | assumption)
       obtain ⟨ad283, e283, hx283_0, hx283_1, hx283_2⟩ := at_T26 HR0.out x7_1 p283 q283
       cases e283
       replace hx283_0 := cellB HB.out hx283_0
       replace hx283_1 := cellB HB.out hx283_1
       replace hx283_2 := cellB HB.out hx283_2
       replace p283 := eq_true p283
       replace q283 := eq_true q283
       have p284 : 0 ≤ (x7_1 : Int) := of_decide_eq_true (by first | (with_reducible assumption) | assumption)
       have q284 : x7_1 < (l0.length : Int) := of_decide_eq_true (by first | (with_reducible assumption) | assumption)
       obtain ⟨ad284, e284, hx284_0, hx284_1, hx284_2⟩ := at_T26 HR0.out x7_1 p284 q284
       obtain rfl : ad283 = ad284 := (by injection e284)
       replace hx284_0 := cellB HB.out hx284_0
       replace hx284_1 := cellB HB.out hx284_1
       replace hx284_2 := cellB HB.out hx284_2
       replace p284 := eq_true p284
       replace q284 := eq_true q284
       have hcz10_0 : wr.cell? ⟨gb281, 0, none⟩ = some (.int .i64 x282000_1) := (blk_cell BK281.out 0).trans rfl
       have hcz10_1 : wr.cell? ⟨gb281, 1, none⟩ = some (.int .i64 x282001_1) := (blk_cell BK281.out 1).trans rfl
       have hfz10_0 := blk_frozen BK281.out 0
       have hfz10_1 := blk_frozen BK281.out 1
       go_wp2
       refine bodyPost_ret (results_ctt rfl _ _ gb281 24 #[.int .i64 ((rd_T26 l0 x7_1).f1.f0), .int .i64 ((rd_T26 l0 x7_1).f1.f1)] (0, 0) _ rfl (by (with_reducible repeat (first | refine blk_drewN ?_ _ | refine blk_drew ?_ | refine blk_alloc ?_ _)); refine blk_put (cs := #[.int .i64 ((rd_T26 l0 x7_1).f1.f0), .int .i64 x282001_1]) ?_ 1 _ rfl; (with_reducible repeat (first | refine blk_drewN ?_ _ | refine blk_drew ?_ | refine blk_alloc ?_ _)); refine blk_put (cs := #[.int .i64 x282000_1, .int .i64 x282001_1]) ?_ 0 _ rfl; (with_reducible repeat (first | refine blk_drewN ?_ _ | refine blk_drew ?_ | refine blk_alloc ?_ _)); exact BK281.out) Try.underlying24 rfl (by kernel_rfl)) rfl ?_
       exact ⟨by first | rfl | (simp [errW_none, errW_some] <;> rfl) | (simp [*, errW_none, errW_some] <;> rfl), (belS HB.out)⟩
      ·rw [if_neg c9] at H
       have c9b0 : (((rd_T26 l0 x7_1).f0) == a1) = false := beq_eq_false_iff_ne.mpr c9
       have c9b1 : (((rd_T26 l0 x7_1).f0) != a1) = true := bne_iff_ne.mpr c9
       by_cases c11 : x7_1 > 0
       ·rw [if_pos c11] at H
        have c11b0 : decide (0 < x7_1) = true := decide_eq_true c11
        clear c11
        obtain ⟨ji12, hji12⟩ : ∃ j_ : Int, (wrap64 (x7_1 - 1)) = j_ := ⟨_, rfl⟩
        replace H : (if 0 ≤ (ji12) then (if (ji12) < (l0.length : Int) then (if ((rd_T26 l0 (ji12)).f0) < a1 then (if a1 < ((rd_T26 l0 x7_1).f0) then ((marigraphref21_Between.f k1 ((rd_T26 l0 (ji12)).f0) ((rd_T26 l0 (ji12)).f1.f0) ((rd_T26 l0 (ji12)).f1.f1) ((rd_T26 l0 x7_1).f0) ((rd_T26 l0 x7_1).f1.f0) ((rd_T26 l0 x7_1).f1.f1) a1).bind fun bt289 => (some (bt289.1, bt289.2.1, (bt289.2.2 == 0), bt289.2.2))) else (marigraphref21_At.l0 k1 l0 a1 (wrap64 (x7_1 + 1)))) else (marigraphref21_At.l0 k1 l0 a1 (wrap64 (x7_1 + 1)))) else (none)) else (none)) = some (r1, r2, r3, r4) := by first | (rw [hji12] at H; exact H) | (simp only [hji12] at H ⊢; exact H)
        have hji12w : (IntKind.i64.wrap (x7_1 - 1)) = ji12 := (i64_w _).trans hji12
        by_cases c13 : 0 ≤ (ji12)
        ·rw [if_pos c13] at H
         have c13b0 : decide (0 ≤ (ji12)) = true := decide_eq_true c13
         clear c13
         by_cases c14 : (ji12) < (l0.length : Int)
         ·rw [if_pos c14] at H
          have c14b0 : decide ((ji12) < (l0.length : Int)) = true := decide_eq_true c14
          clear c14
          by_cases c15 : ((rd_T26 l0 (ji12)).f0) < a1
          ·rw [if_pos c15] at H
           have c15b0 : decide (((rd_T26 l0 (ji12)).f0) < a1) = true := decide_eq_true c15
           clear c15
           by_cases c16 : a1 < ((rd_T26 l0 x7_1).f0)
           ·rw [if_pos c16] at H
            have c16b0 : decide (a1 < ((rd_T26 l0 x7_1).f0)) = true := decide_eq_true c16
            clear c16
            replace H := Option.bind_eq_some_iff.mp H
            obtain ⟨⟨t289, t290, t291⟩, A170, H⟩ := H
            replace H : (some (t289, t290, (t291 == 0), t291)) = some (r1, r2, r3, r4) := H
            have A17 := Aside0.mk A170
            clear A170
            simp only [Option.some.injEq, Prod.mk.injEq] at H
            obtain ⟨rfl, rfl, rfl, rfl⟩ := H
            have p283 : 0 ≤ (x7_1 : Int) := of_decide_eq_true (by first | (with_reducible assumption) | assumption)
            have q283 : x7_1 < (l0.length : Int) := of_decide_eq_true (by first | (with_reducible assumption) | assumption)
            obtain ⟨ad283, e283, hx283_0, hx283_1, hx283_2⟩ := at_T26 HR0.out x7_1 p283 q283
            cases e283
            replace hx283_0 := cellB HB.out hx283_0
            replace hx283_1 := cellB HB.out hx283_1
            replace hx283_2 := cellB HB.out hx283_2
            replace p283 := eq_true p283
            replace q283 := eq_true q283
            have p285 : 0 ≤ ((ji12) : Int) := of_decide_eq_true (by first | (with_reducible assumption) | assumption)
            have q285 : (ji12) < (l0.length : Int) := of_decide_eq_true (by first | (with_reducible assumption) | assumption)
            obtain ⟨ad285, e285, hx285_0, hx285_1, hx285_2⟩ := at_T26 HR0.out (ji12) p285 q285
            obtain rfl : ad283 = ad285 := (by injection e285)
            replace hx285_0 := cellB HB.out hx285_0
            replace hx285_1 := cellB HB.out hx285_1
            replace hx285_2 := cellB HB.out hx285_2
            replace p285 := eq_true p285
            replace q285 := eq_true q285
            have p286 : 0 ≤ (x7_1 : Int) := of_decide_eq_true (by first | (with_reducible assumption) | assumption)
            have q286 : x7_1 < (l0.length : Int) := of_decide_eq_true (by first | (with_reducible assumption) | assumption)
            obtain ⟨ad286, e286, hx286_0, hx286_1, hx286_2⟩ := at_T26 HR0.out x7_1 p286 q286
            obtain rfl : ad283 = ad286 := (by injection e286)
            replace hx286_0 := cellB HB.out hx286_0
            replace hx286_1 := cellB HB.out hx286_1
            replace hx286_2 := cellB HB.out hx286_2
            replace p286 := eq_true p286
            replace q286 := eq_true q286
            try go_wp2
            have n0_ := Aside0.mk (blk_drew BK281.out)
            have n1_ := Aside0.mk (below_drew1 HB.out)
            clear BK281
            clear HB
            have BK281 := n0_
            have HB := n1_
            clear n0_ n1_
            have p287 : 0 ≤ ((ji12) : Int) := of_decide_eq_true (by first | (with_reducible assumption) | assumption)
            have q287 : (ji12) < (l0.length : Int) := of_decide_eq_true (by first | (with_reducible assumption) | assumption)
            obtain ⟨ad287, e287, hx287_0, hx287_1, hx287_2⟩ := at_T26 HR0.out (ji12) p287 q287
            have hw287_2 := hx287_2
            have hw287_1 := hx287_1
            have hw287_0 := hx287_0
            obtain rfl : ad283 = ad287 := (by injection e287)
            replace hx287_0 := cellB HB.out hx287_0
            replace hx287_1 := cellB HB.out hx287_1
            replace hx287_2 := cellB HB.out hx287_2
            replace p287 := eq_true p287
            replace q287 := eq_true q287
            have p288 : 0 ≤ (x7_1 : Int) := of_decide_eq_true (by first | (with_reducible assumption) | assumption)
            have q288 : x7_1 < (l0.length : Int) := of_decide_eq_true (by first | (with_reducible assumption) | assumption)
            obtain ⟨ad288, e288, hx288_0, hx288_1, hx288_2⟩ := at_T26 HR0.out x7_1 p288 q288
            have hw288_2 := hx288_2
            have hw288_1 := hx288_1
            have hw288_0 := hx288_0
            obtain rfl : ad283 = ad288 := (by injection e288)
            replace hx288_0 := cellB HB.out hx288_0
            replace hx288_1 := cellB HB.out hx288_1
            replace hx288_2 := cellB HB.out hx288_2
            replace p288 := eq_true p288
            replace q288 := eq_true q288
            refine start_ (n := 17) (S := fun w' => w'.cell? (ad283.add (((ji12)).toNat * 3)) = some (.int .i64 ((rd_T26 l0 (ji12)).f0)) ∧ w'.cell? ⟨(ad283.add (((ji12)).toNat * 3)).block, (ad283.add (((ji12)).toNat * 3)).off + 1, none⟩ = some (.int .i64 ((rd_T26 l0 (ji12)).f1.f0)) ∧ w'.cell? ⟨(ad283.add (((ji12)).toNat * 3)).block, (ad283.add (((ji12)).toNat * 3)).off + 2, none⟩ = some (.int .i64 ((rd_T26 l0 (ji12)).f1.f1)) ∧ w'.cell? (ad283.add ((x7_1).toNat * 3)) = some (.int .i64 ((rd_T26 l0 x7_1).f0)) ∧ w'.cell? ⟨(ad283.add ((x7_1).toNat * 3)).block, (ad283.add ((x7_1).toNat * 3)).off + 1, none⟩ = some (.int .i64 ((rd_T26 l0 x7_1).f1.f0)) ∧ w'.cell? ⟨(ad283.add ((x7_1).toNat * 3)).block, (ad283.add ((x7_1).toNat * 3)).off + 2, none⟩ = some (.int .i64 ((rd_T26 l0 x7_1).f1.f1))) (ds := []) #[false, false, false, false, false, false, false, false, false, false, false, false, false, false, false, false, false] (by kernel_rfl) rfl rfl ⟨(cellB HB.out hw287_0), (cellB HB.out hw287_1), (cellB HB.out hw287_2), (cellB HB.out hw288_0), (cellB HB.out hw288_1), (cellB HB.out hw288_2)⟩ (fun hHeld => ?_); refine with_tabW marigraphref21_At.tab9 marigraphref21_At.bits9 (fun HT_ HW_ => ?_)
            generalize wr.drew = w18 at BK281 HB hx287_0 hx287_1 hx287_2 hx288_0 hx288_1 hx288_2 hHeld ⊢
            refine pA 0 (some 54) (bA 17 1) HT_.out ?_
            refine pA 1 (some 55) (bA 17 3) HT_.out ?_
            refine pA 2 (some 56) (bA 17 7) HT_.out ?_
            refine pA 3 (some 57) (bA 17 15) HT_.out ?_
            refine pA 5 (some 59) (bA 17 47) HT_.out ?_
            refine pA 6 (some 60) (bA 17 111) HT_.out ?_
            refine pA 7 (some 61) (bA 17 239) HT_.out ?_
            refine pA 9 (some 63) (bA 17 751) HT_.out ?_
            refine take_ (i := 4) (N := some 58) (v := ?_) (a' := ?_) (bA 17 767) rfl rfl (take_ofW HT_.out HW_.out (by kernel_rfl)) (fun _ _ _ h => h) (Or.inl ⟨by rfl, ?_⟩) hHeld ?_ ?_
            rotate_left
            ·rintro w' ⟨s0, s1, s2, s3, s4, s5⟩
             go_simp
             with_reducible rfl
            rotate_left
            ·simp only [Act.put, List.setIfInBounds_toArray, List.set_cons_zero, List.set_cons_succ, i64_w, i32_w]
             rfl
            refine take_ (i := 8) (N := some 62) (v := ?_) (a' := ?_) (bA 17 1023) rfl rfl (take_ofW HT_.out HW_.out (by kernel_rfl)) (fun _ _ _ h => h) (Or.inl ⟨by rfl, ?_⟩) hHeld ?_ ?_
            rotate_left
            ·rintro w' ⟨s0, s1, s2, s3, s4, s5⟩
             go_simp
             with_reducible rfl
            rotate_left
            ·simp only [Act.put, List.setIfInBounds_toArray, List.set_cons_zero, List.set_cons_succ, i64_w, i32_w]
             rfl
            refine join_ (σ := Nat) 2 (bA 17 32767) (fun s_ => [(64, .tuple #[.agg #[.int .i64 t289, .int .i64 t290], .int .i64 t291]), (8, .pointer (some ⟨s_, 0, none⟩)), (53, .tuple #[.agg #[.int .i64 t289, .int .i64 t290], .int .i64 t291]), (65, .agg #[.int .i64 t289, .int .i64 t290]), (66, .int .i64 t291)]) (fun s_ w' => (w'.cell? (ad283.add (((ji12)).toNat * 3)) = some (.int .i64 ((rd_T26 l0 (ji12)).f0)) ∧ w'.cell? ⟨(ad283.add (((ji12)).toNat * 3)).block, (ad283.add (((ji12)).toNat * 3)).off + 1, none⟩ = some (.int .i64 ((rd_T26 l0 (ji12)).f1.f0)) ∧ w'.cell? ⟨(ad283.add (((ji12)).toNat * 3)).block, (ad283.add (((ji12)).toNat * 3)).off + 2, none⟩ = some (.int .i64 ((rd_T26 l0 (ji12)).f1.f1)) ∧ w'.cell? (ad283.add ((x7_1).toNat * 3)) = some (.int .i64 ((rd_T26 l0 x7_1).f0)) ∧ w'.cell? ⟨(ad283.add ((x7_1).toNat * 3)).block, (ad283.add ((x7_1).toNat * 3)).off + 1, none⟩ = some (.int .i64 ((rd_T26 l0 x7_1).f1.f0)) ∧ w'.cell? ⟨(ad283.add ((x7_1).toNat * 3)).block, (ad283.add ((x7_1).toNat * 3)).off + 2, none⟩ = some (.int .i64 ((rd_T26 l0 x7_1).f1.f1))) ∧ (w'.heap[gb281]? = some (.cells #[.int .i64 x282000_1, .int .i64 x282001_1] 24 (0, 0))) ∧ (w'.heap[s_]? = some (.cells #[.int .i64 0, .int .i64 0] 24 (0, 0))) ∧ (w.heap.size ≤ s_) ∧ (w.heap.size ≤ s_) ∧ (gb281 ≠ s_) ∧ (s_ ≠ gb281) ∧ (Below w.heap.size w w')) ?_ ?_
            rotate_left
            ·intro hCont
             refine two_ (i := 10) (j := 14) (Ni := some 64) (Nj := some 8) (bA 17 2047) (bA 17 17407) rfl rfl rfl rfl (two_of HT_.out (by kernel_rfl)) (by decide) (by decide) (fun K hK => ?_) (fun K hK => ?_)
             ·skip
              refine goes_ Try.func16 (by kernel_rfl) rfl #[.agg #[.int .i64 ((rd_T26 l0 (ji12)).f0), .int .i64 ((rd_T26 l0 (ji12)).f1.f0), .int .i64 ((rd_T26 l0 (ji12)).f1.f1)], .agg #[.int .i64 ((rd_T26 l0 x7_1).f0), .int .i64 ((rd_T26 l0 x7_1).f1.f0), .int .i64 ((rd_T26 l0 x7_1).f1.f1)], .int .i64 a1] (by rfl) rfl rfl (by (try simp only [List.map_toArray, List.map_cons, List.map_nil]); first | done | (simp only [hji12]; rfl) | rfl | (simp only [List.length_drop, List.length_take]; rfl)) ?_
              with_reducible refine (marigraphref21_Between.calls k1 ((rd_T26 l0 (ji12)).f0) ((rd_T26 l0 (ji12)).f1.f0) ((rd_T26 l0 (ji12)).f1.f1) ((rd_T26 l0 x7_1).f0) ((rd_T26 l0 x7_1).f1.f0) ((rd_T26 l0 x7_1).f1.f1) a1 t289 t290 t291 _ A17.out).mono ?_
              rintro e w19 ⟨rfl, hb⟩
              refine ⟨_, rfl, ?_⟩
              have n0_ := Aside0.mk (bkB BK281.out hb)
              have n1_ := Aside0.mk (below_step (belS HB.out) hb)
              clear BK281
              clear HB
              have BK281 := n0_
              have HB := n1_
              clear n0_ n1_
              (try clear hb)
              refine hK.out _ _ ⟨(cellB HB.out hw287_0), (cellB HB.out hw287_1), (cellB HB.out hw287_2), (cellB HB.out hw288_0), (cellB HB.out hw288_1), (cellB HB.out hw288_2)⟩ (fun hHeld => ?_)
              clear hK K
              refine norm_ (a' := ?_) ?_ ?_
              rotate_left
              ·show Act.put _ (some 64) _ = _
               simp only [Act.put, List.setIfInBounds_toArray, List.set_cons_zero, List.set_cons_succ, i64_w, i32_w]
               rfl
              refine pA 11 (some 53) (bA 17 4095) HT_.out ?_
              refine pA 12 (some 65) (bA 17 8191) HT_.out ?_
              refine pA 13 (some 66) (bA 17 16383) HT_.out ?_
              refine one_ (i := 14) (N := some 8) (bA 17 32767) rfl rfl (one_of HT_.out (by kernel_rfl)) (by decide) (fun K hK => ?_)
              refine box_step ?hg (N := 8) ?hd (cs := #[.int .i64 0, .int .i64 0]) (t := 24) ?hr ?_; (case hd => rfl); (case hg => rfl); (case hr => first | (go_simp; done) | (go_simp; rfl))
              intro gb292 hg w20 hbox hb
              have n0_ := Aside0.mk (bkB BK281.out hb)
              have n1_ := Aside0.mk (below_step (belS HB.out) hb)
              have n2_ := Aside0.mk (hbox)
              have n3_ := Aside0.mk (szB hg HB.out)
              have n4_ := Aside0.mk (szB hg HB.out)
              have n5_ := Aside0.mk ((bk1 hg BK281.out))
              have n6_ := Aside0.mk ((bk2 hg BK281.out))
              clear BK281
              clear HB
              have BK281 := n0_
              have HB := n1_
              have BK292 := n2_
              have GW292 := n3_
              have GE292 := n4_
              have NB281_292 := n5_
              have NB292_281 := n6_
              clear n0_ n1_ n2_ n3_ n4_ n5_ n6_
              clear hb hbox hg
              refine hK.out _ _ ⟨(cellB HB.out hw287_0), (cellB HB.out hw287_1), (cellB HB.out hw287_2), (cellB HB.out hw288_0), (cellB HB.out hw288_1), (cellB HB.out hw288_2)⟩ (fun hHeld => ?_)
              clear hK K
              refine norm_ (a' := ?_) ?_ ?_
              rotate_left
              ·show Act.put _ (some 8) _ = _
               simp only [Act.put, List.setIfInBounds_toArray, List.set_cons_zero, List.set_cons_succ, i64_w, i32_w]
               rfl
              exact norm_ (by simp only [putAll, Act.put, List.setIfInBounds_toArray, List.set_cons_zero, List.set_cons_succ]) (hCont (gb292) _ ⟨hHeld, (blkN BK281.out), (blkN BK292.out), GW292.out, GE292.out, NB281_292.out, NB292_281.out, (belS HB.out)⟩)
             ·skip
              refine box_step ?hg (N := 8) ?hd (cs := #[.int .i64 0, .int .i64 0]) (t := 24) ?hr ?_; (case hd => rfl); (case hg => rfl); (case hr => first | (go_simp; done) | (go_simp; rfl))
              intro gb292 hg w19 hbox hb
              have n0_ := Aside0.mk (bkB BK281.out hb)
              have n1_ := Aside0.mk (below_step (belS HB.out) hb)
              have n2_ := Aside0.mk (hbox)
              have n3_ := Aside0.mk (szB hg HB.out)
              have n4_ := Aside0.mk (szB hg HB.out)
              have n5_ := Aside0.mk ((bk1 hg BK281.out))
              have n6_ := Aside0.mk ((bk2 hg BK281.out))
              clear BK281
              clear HB
              have BK281 := n0_
              have HB := n1_
              have BK292 := n2_
              have GW292 := n3_
              have GE292 := n4_
              have NB281_292 := n5_
              have NB292_281 := n6_
              clear n0_ n1_ n2_ n3_ n4_ n5_ n6_
              clear hb hbox hg
              refine hK.out _ _ ⟨(cellB HB.out hw287_0), (cellB HB.out hw287_1), (cellB HB.out hw287_2), (cellB HB.out hw288_0), (cellB HB.out hw288_1), (cellB HB.out hw288_2)⟩ (fun hHeld => ?_)
              clear hK K
              refine norm_ (a' := ?_) ?_ ?_
              rotate_left
              ·show Act.put _ (some 8) _ = _
               simp only [Act.put, List.setIfInBounds_toArray, List.set_cons_zero, List.set_cons_succ, i64_w, i32_w]
               rfl
              refine one_ (i := 10) (N := some 64) (bA 17 18431) rfl rfl (one_of HT_.out (by kernel_rfl)) (by decide) (fun K hK => ?_)
              refine goes_ Try.func16 (by kernel_rfl) rfl #[.agg #[.int .i64 ((rd_T26 l0 (ji12)).f0), .int .i64 ((rd_T26 l0 (ji12)).f1.f0), .int .i64 ((rd_T26 l0 (ji12)).f1.f1)], .agg #[.int .i64 ((rd_T26 l0 x7_1).f0), .int .i64 ((rd_T26 l0 x7_1).f1.f0), .int .i64 ((rd_T26 l0 x7_1).f1.f1)], .int .i64 a1] (by rfl) rfl rfl (by (try simp only [List.map_toArray, List.map_cons, List.map_nil]); first | done | (simp only [hji12]; rfl) | rfl | (simp only [List.length_drop, List.length_take]; rfl)) ?_
              with_reducible refine (marigraphref21_Between.calls k1 ((rd_T26 l0 (ji12)).f0) ((rd_T26 l0 (ji12)).f1.f0) ((rd_T26 l0 (ji12)).f1.f1) ((rd_T26 l0 x7_1).f0) ((rd_T26 l0 x7_1).f1.f0) ((rd_T26 l0 x7_1).f1.f1) a1 t289 t290 t291 _ A17.out).mono ?_
              rintro e w20 ⟨rfl, hb⟩
              refine ⟨_, rfl, ?_⟩
              have n0_ := Aside0.mk (bkB BK281.out hb)
              have n1_ := Aside0.mk (bkB BK292.out hb)
              have n2_ := Aside0.mk (below_step (belS HB.out) hb)
              clear BK281
              clear BK292
              clear HB
              have BK281 := n0_
              have BK292 := n1_
              have HB := n2_
              clear n0_ n1_ n2_
              (try clear hb)
              refine hK.out _ _ ⟨(cellB HB.out hw287_0), (cellB HB.out hw287_1), (cellB HB.out hw287_2), (cellB HB.out hw288_0), (cellB HB.out hw288_1), (cellB HB.out hw288_2)⟩ (fun hHeld => ?_)
              clear hK K
              refine norm_ (a' := ?_) ?_ ?_
              rotate_left
              ·show Act.put _ (some 64) _ = _
               simp only [Act.put, List.setIfInBounds_toArray, List.set_cons_zero, List.set_cons_succ, i64_w, i32_w]
               rfl
              refine pA 11 (some 53) (bA 17 20479) HT_.out ?_
              refine pA 12 (some 65) (bA 17 24575) HT_.out ?_
              refine pA 13 (some 66) (bA 17 32767) HT_.out ?_
              exact norm_ (by simp only [putAll, Act.put, List.setIfInBounds_toArray, List.set_cons_zero, List.set_cons_succ]) (hCont (gb292) _ ⟨hHeld, (blkN BK281.out), (blkN BK292.out), GW292.out, GE292.out, NB281_292.out, NB292_281.out, (belS HB.out)⟩)
            rintro gb292 w21 ⟨hS_, h0_, h1_, h2_, h3_, h4_, h5_, h6_⟩
            have n0_ : Aside0 (w21.heap[gb281]? = some (.cells #[.int .i64 x282000_1, .int .i64 x282001_1] 24 (0, 0))) := ⟨h0_⟩
            have n1_ : Aside0 (w21.heap[gb292]? = some (.cells #[.int .i64 0, .int .i64 0] 24 (0, 0))) := ⟨h1_⟩
            have n2_ : Aside0 (w.heap.size ≤ gb292) := ⟨h2_⟩
            have n3_ : Aside0 (w.heap.size ≤ gb292) := ⟨h3_⟩
            have n4_ : Aside0 (gb281 ≠ gb292) := ⟨h4_⟩
            have n5_ : Aside0 (gb292 ≠ gb281) := ⟨h5_⟩
            have n6_ : Aside0 (Below w.heap.size w w21) := ⟨h6_⟩
            clear BK281
            clear HB
            clear h0_ h1_ h2_ h3_ h4_ h5_ h6_
            have BK281 := n0_
            have BK292 := n1_
            have GW292 := n2_
            have GE292 := n3_
            have NB281_292 := n4_
            have NB292_281 := n5_
            have HB := n6_
            clear n0_ n1_ n2_ n3_ n4_ n5_ n6_
            have hHeld : w21.cell? (ad283.add (((ji12)).toNat * 3)) = some (.int .i64 ((rd_T26 l0 (ji12)).f0)) ∧ w21.cell? ⟨(ad283.add (((ji12)).toNat * 3)).block, (ad283.add (((ji12)).toNat * 3)).off + 1, none⟩ = some (.int .i64 ((rd_T26 l0 (ji12)).f1.f0)) ∧ w21.cell? ⟨(ad283.add (((ji12)).toNat * 3)).block, (ad283.add (((ji12)).toNat * 3)).off + 2, none⟩ = some (.int .i64 ((rd_T26 l0 (ji12)).f1.f1)) ∧ w21.cell? (ad283.add ((x7_1).toNat * 3)) = some (.int .i64 ((rd_T26 l0 x7_1).f0)) ∧ w21.cell? ⟨(ad283.add ((x7_1).toNat * 3)).block, (ad283.add ((x7_1).toNat * 3)).off + 1, none⟩ = some (.int .i64 ((rd_T26 l0 x7_1).f1.f0)) ∧ w21.cell? ⟨(ad283.add ((x7_1).toNat * 3)).block, (ad283.add ((x7_1).toNat * 3)).off + 2, none⟩ = some (.int .i64 ((rd_T26 l0 x7_1).f1.f1)) := hS_
            refine norm_ (a' := ?_) ?_ ?_
            rotate_left
            ·simp only [putAll, Act.put, List.setIfInBounds_toArray, List.set_cons_zero, List.set_cons_succ]
             rfl
            refine one_ (i := 15) (N := none) (bA 17 65535) rfl rfl (one_of HT_.out (by kernel_rfl)) (by decide) (fun K hK => ?_)
            have hs22 : w21.cell? ⟨gb292, 0, none⟩ = some (.int .i64 0) := (blk_cell BK292.out 0).trans rfl
            have hfs22 := blk_frozen BK292.out 0
            have hns22_0 := NB281_292.out
            have hms22_0 := NB292_281.out
            have hs23 : w21.cell? ⟨gb292, 1, none⟩ = some (.int .i64 0) := (blk_cell BK292.out 1).trans rfl
            have hfs23 := blk_frozen BK292.out 1
            have hns23_0 := NB281_292.out
            have hms23_0 := NB292_281.out
            refine skip_ (w1 := ?_) (by rfl) rfl ?_ ?_
            rotate_left
            ·go_simp
             rfl
            refine hK.out _ _ ⟨((cell_far (p := ⟨gb292, _, none⟩) (by first | exact cellNe hw287_0 GW292.out | (rw [add_block]; exact cellNe hw287_0 GW292.out) | (show (Addr.add _ _).block ≠ _; rw [add_block]; exact cellNe hw287_0 GW292.out) | (dsimp only; exact cellNe hw287_0 GW292.out)) _).trans (((cell_far (p := ⟨gb292, _, none⟩) (by first | exact cellNe hw287_0 GW292.out | (rw [add_block]; exact cellNe hw287_0 GW292.out) | (show (Addr.add _ _).block ≠ _; rw [add_block]; exact cellNe hw287_0 GW292.out) | (dsimp only; exact cellNe hw287_0 GW292.out)) _).trans (hHeld.1)))), ((cell_far (p := ⟨gb292, _, none⟩) (by first | exact cellNe hw287_1 GW292.out | (rw [add_block]; exact cellNe hw287_1 GW292.out) | (show (Addr.add _ _).block ≠ _; rw [add_block]; exact cellNe hw287_1 GW292.out) | (dsimp only; exact cellNe hw287_1 GW292.out)) _).trans (((cell_far (p := ⟨gb292, _, none⟩) (by first | exact cellNe hw287_1 GW292.out | (rw [add_block]; exact cellNe hw287_1 GW292.out) | (show (Addr.add _ _).block ≠ _; rw [add_block]; exact cellNe hw287_1 GW292.out) | (dsimp only; exact cellNe hw287_1 GW292.out)) _).trans (hHeld.2.1)))), ((cell_far (p := ⟨gb292, _, none⟩) (by first | exact cellNe hw287_2 GW292.out | (rw [add_block]; exact cellNe hw287_2 GW292.out) | (show (Addr.add _ _).block ≠ _; rw [add_block]; exact cellNe hw287_2 GW292.out) | (dsimp only; exact cellNe hw287_2 GW292.out)) _).trans (((cell_far (p := ⟨gb292, _, none⟩) (by first | exact cellNe hw287_2 GW292.out | (rw [add_block]; exact cellNe hw287_2 GW292.out) | (show (Addr.add _ _).block ≠ _; rw [add_block]; exact cellNe hw287_2 GW292.out) | (dsimp only; exact cellNe hw287_2 GW292.out)) _).trans (hHeld.2.2.1)))), ((cell_far (p := ⟨gb292, _, none⟩) (by first | exact cellNe hw288_0 GW292.out | (rw [add_block]; exact cellNe hw288_0 GW292.out) | (show (Addr.add _ _).block ≠ _; rw [add_block]; exact cellNe hw288_0 GW292.out) | (dsimp only; exact cellNe hw288_0 GW292.out)) _).trans (((cell_far (p := ⟨gb292, _, none⟩) (by first | exact cellNe hw288_0 GW292.out | (rw [add_block]; exact cellNe hw288_0 GW292.out) | (show (Addr.add _ _).block ≠ _; rw [add_block]; exact cellNe hw288_0 GW292.out) | (dsimp only; exact cellNe hw288_0 GW292.out)) _).trans (hHeld.2.2.2.1)))), ((cell_far (p := ⟨gb292, _, none⟩) (by first | exact cellNe hw288_1 GW292.out | (rw [add_block]; exact cellNe hw288_1 GW292.out) | (show (Addr.add _ _).block ≠ _; rw [add_block]; exact cellNe hw288_1 GW292.out) | (dsimp only; exact cellNe hw288_1 GW292.out)) _).trans (((cell_far (p := ⟨gb292, _, none⟩) (by first | exact cellNe hw288_1 GW292.out | (rw [add_block]; exact cellNe hw288_1 GW292.out) | (show (Addr.add _ _).block ≠ _; rw [add_block]; exact cellNe hw288_1 GW292.out) | (dsimp only; exact cellNe hw288_1 GW292.out)) _).trans (hHeld.2.2.2.2.1)))), ((cell_far (p := ⟨gb292, _, none⟩) (by first | exact cellNe hw288_2 GW292.out | (rw [add_block]; exact cellNe hw288_2 GW292.out) | (show (Addr.add _ _).block ≠ _; rw [add_block]; exact cellNe hw288_2 GW292.out) | (dsimp only; exact cellNe hw288_2 GW292.out)) _).trans (((cell_far (p := ⟨gb292, _, none⟩) (by first | exact cellNe hw288_2 GW292.out | (rw [add_block]; exact cellNe hw288_2 GW292.out) | (show (Addr.add _ _).block ≠ _; rw [add_block]; exact cellNe hw288_2 GW292.out) | (dsimp only; exact cellNe hw288_2 GW292.out)) _).trans (hHeld.2.2.2.2.2))))⟩ (fun hHeld => ?_)
            clear hK K
            refine pA 16 (some 9) (bA 17 131071) HT_.out ?_
            refine done_ (done_of HT_.out (by kernel_rfl)) ?_
            have hnb24 := NB292_281.out
            have hnc24 := NB281_292.out
            have hcz25_0 : w21.cell? ⟨gb292, 0, none⟩ = some (.int .i64 0) := (blk_cell BK292.out 0).trans rfl
            have hcz25_1 : w21.cell? ⟨gb292, 1, none⟩ = some (.int .i64 0) := (blk_cell BK292.out 1).trans rfl
            have hfz25_0 := blk_frozen BK292.out 0
            have hfz25_1 := blk_frozen BK292.out 1
            have hcz26_0 : w21.cell? ⟨gb281, 0, none⟩ = some (.int .i64 x282000_1) := (blk_cell BK281.out 0).trans rfl
            have hcz26_1 : w21.cell? ⟨gb281, 1, none⟩ = some (.int .i64 x282001_1) := (blk_cell BK281.out 1).trans rfl
            have hfz26_0 := blk_frozen BK281.out 0
            have hfz26_1 := blk_frozen BK281.out 1
            try go_wp2
            refine bodyPost_ret (results_ctt rfl _ _ gb281 24 #[.int .i64 t289, .int .i64 t290] (0, 0) _ rfl (by (with_reducible repeat (first | refine blk_drewN ?_ _ | refine blk_drew ?_ | refine blk_alloc ?_ _)); refine blk_put (cs := #[.int .i64 t289, .int .i64 x282001_1]) ?_ 1 _ rfl; (with_reducible repeat (first | refine blk_drewN ?_ _ | refine blk_drew ?_ | refine blk_alloc ?_ _)); refine blk_put (cs := #[.int .i64 x282000_1, .int .i64 x282001_1]) ?_ 0 _ rfl; (with_reducible repeat (first | refine blk_drewN ?_ _ | refine blk_drew ?_ | refine blk_alloc ?_ _)); refine blk_far ?_ NB281_292.out _; (with_reducible repeat (first | refine blk_drewN ?_ _ | refine blk_drew ?_ | refine blk_alloc ?_ _)); refine blk_far ?_ NB281_292.out _; (with_reducible repeat (first | refine blk_drewN ?_ _ | refine blk_drew ?_ | refine blk_alloc ?_ _)); exact BK281.out) Try.underlying24 rfl (by kernel_rfl)) rfl ?_
            exact ⟨by first | rfl | (simp [errW_none, errW_some] <;> rfl) | (simp only [← hji12]; first | rfl | (simp [errW_none, errW_some] <;> rfl)) | (simp [*, errW_none, errW_some] <;> rfl), (belS HB.out)⟩
           ·rw [if_neg c16] at H
            have c16b0 : decide (a1 < ((rd_T26 l0 x7_1).f0)) = false := decide_eq_false c16
            clear c16
            have H' := Aside0.mk H
            clear H
            have p283 : 0 ≤ (x7_1 : Int) := of_decide_eq_true (by first | (with_reducible assumption) | assumption)
            have q283 : x7_1 < (l0.length : Int) := of_decide_eq_true (by first | (with_reducible assumption) | assumption)
            obtain ⟨ad283, e283, hx283_0, hx283_1, hx283_2⟩ := at_T26 HR0.out x7_1 p283 q283
            cases e283
            replace hx283_0 := cellB HB.out hx283_0
            replace hx283_1 := cellB HB.out hx283_1
            replace hx283_2 := cellB HB.out hx283_2
            replace p283 := eq_true p283
            replace q283 := eq_true q283
            have p285 : 0 ≤ ((ji12) : Int) := of_decide_eq_true (by first | (with_reducible assumption) | assumption)
            have q285 : (ji12) < (l0.length : Int) := of_decide_eq_true (by first | (with_reducible assumption) | assumption)
            obtain ⟨ad285, e285, hx285_0, hx285_1, hx285_2⟩ := at_T26 HR0.out (ji12) p285 q285
            obtain rfl : ad283 = ad285 := (by injection e285)
            replace hx285_0 := cellB HB.out hx285_0
            replace hx285_1 := cellB HB.out hx285_1
            replace hx285_2 := cellB HB.out hx285_2
            replace p285 := eq_true p285
            replace q285 := eq_true q285
            have p286 : 0 ≤ (x7_1 : Int) := of_decide_eq_true (by first | (with_reducible assumption) | assumption)
            have q286 : x7_1 < (l0.length : Int) := of_decide_eq_true (by first | (with_reducible assumption) | assumption)
            obtain ⟨ad286, e286, hx286_0, hx286_1, hx286_2⟩ := at_T26 HR0.out x7_1 p286 q286
            obtain rfl : ad283 = ad286 := (by injection e286)
            replace hx286_0 := cellB HB.out hx286_0
            replace hx286_1 := cellB HB.out hx286_1
            replace hx286_2 := cellB HB.out hx286_2
            replace p286 := eq_true p286
            replace q286 := eq_true q286
            go_wp2
            go_roundg k1
            case measure => have := HK1.out; omega
            case rel => exact ⟨(wrap64 (x7_1 + 1)), (x282000_1), (x282001_1), (by first | rfl | (simp; done) | (simp [*]; done)), H', ⟨by have := HK1.out; omega⟩, ⟨blkN BK281.out⟩, ⟨(belS HB.out)⟩⟩
          ·rw [if_neg c15] at H
           have c15b0 : decide (((rd_T26 l0 (ji12)).f0) < a1) = false := decide_eq_false c15
           clear c15
           have H' := Aside0.mk H
           clear H
           have p283 : 0 ≤ (x7_1 : Int) := of_decide_eq_true (by first | (with_reducible assumption) | assumption)
           have q283 : x7_1 < (l0.length : Int) := of_decide_eq_true (by first | (with_reducible assumption) | assumption)
           obtain ⟨ad283, e283, hx283_0, hx283_1, hx283_2⟩ := at_T26 HR0.out x7_1 p283 q283
           cases e283
           replace hx283_0 := cellB HB.out hx283_0
           replace hx283_1 := cellB HB.out hx283_1
           replace hx283_2 := cellB HB.out hx283_2
           replace p283 := eq_true p283
           replace q283 := eq_true q283
           have p285 : 0 ≤ ((ji12) : Int) := of_decide_eq_true (by first | (with_reducible assumption) | assumption)
           have q285 : (ji12) < (l0.length : Int) := of_decide_eq_true (by first | (with_reducible assumption) | assumption)
           obtain ⟨ad285, e285, hx285_0, hx285_1, hx285_2⟩ := at_T26 HR0.out (ji12) p285 q285
           obtain rfl : ad283 = ad285 := (by injection e285)
           replace hx285_0 := cellB HB.out hx285_0
           replace hx285_1 := cellB HB.out hx285_1
           replace hx285_2 := cellB HB.out hx285_2
           replace p285 := eq_true p285
           replace q285 := eq_true q285
           go_wp2
           go_roundg k1
           case measure => have := HK1.out; omega
           case rel => exact ⟨(wrap64 (x7_1 + 1)), (x282000_1), (x282001_1), (by first | rfl | (simp; done) | (simp [*]; done)), H', ⟨by have := HK1.out; omega⟩, ⟨blkN BK281.out⟩, ⟨(belS HB.out)⟩⟩
         ·rw [if_neg c14] at H
          exact absurd H (by simp)
        ·rw [if_neg c13] at H
         exact absurd H (by simp)
       ·rw [if_neg c11] at H
        have c11b0 : decide (0 < x7_1) = false := decide_eq_false c11
        clear c11
        have H' := Aside0.mk H
        clear H
        have p283 : 0 ≤ (x7_1 : Int) := of_decide_eq_true (by first | (with_reducible assumption) | assumption)
        have q283 : x7_1 < (l0.length : Int) := of_decide_eq_true (by first | (with_reducible assumption) | assumption)
        obtain ⟨ad283, e283, hx283_0, hx283_1, hx283_2⟩ := at_T26 HR0.out x7_1 p283 q283
        cases e283
        replace hx283_0 := cellB HB.out hx283_0
        replace hx283_1 := cellB HB.out hx283_1
        replace hx283_2 := cellB HB.out hx283_2
        replace p283 := eq_true p283
        replace q283 := eq_true q283
        go_wp2
        go_roundg k1
        case measure => have := HK1.out; omega
        case rel => exact ⟨(wrap64 (x7_1 + 1)), (x282000_1), (x282001_1), (by first | rfl | (simp; done) | (simp [*]; done)), H', ⟨by have := HK1.out; omega⟩, ⟨blkN BK281.out⟩, ⟨(belS HB.out)⟩⟩
     ·rw [if_neg c8] at H
      exact absurd H (by simp)
    ·rw [if_neg c7] at H
     have c7b0 : decide (x7_1 < (l0.length : Int)) = false := decide_eq_false c7
     clear c7
     simp only [Option.some.injEq, Prod.mk.injEq] at H
     obtain ⟨rfl, rfl, rfl, rfl⟩ := H
     have hcz27_0 : wr.cell? ⟨gb281, 0, none⟩ = some (.int .i64 x282000_1) := (blk_cell BK281.out 0).trans rfl
     have hcz27_1 : wr.cell? ⟨gb281, 1, none⟩ = some (.int .i64 x282001_1) := (blk_cell BK281.out 1).trans rfl
     have hfz27_0 := blk_frozen BK281.out 0
     have hfz27_1 := blk_frozen BK281.out 1
     go_wp2
     refine bodyPost_ret (results_ctt rfl _ _ gb281 24 #[.int .i64 0, .int .i64 0] (0, 0) _ rfl (by (with_reducible repeat (first | refine blk_drewN ?_ _ | refine blk_drew ?_ | refine blk_alloc ?_ _)); refine blk_put (cs := #[.int .i64 0, .int .i64 x282001_1]) ?_ 1 _ rfl; (with_reducible repeat (first | refine blk_drewN ?_ _ | refine blk_drew ?_ | refine blk_alloc ?_ _)); refine blk_put (cs := #[.int .i64 x282000_1, .int .i64 x282001_1]) ?_ 0 _ rfl; (with_reducible repeat (first | refine blk_drewN ?_ _ | refine blk_drew ?_ | refine blk_alloc ?_ _)); exact BK281.out) Try.underlying24 rfl (by kernel_rfl)) rfl ?_
     exact ⟨by first | rfl | (simp [errW_none, errW_some] <;> rfl) | (simp [*, errW_none, errW_some] <;> rfl), (belS HB.out)⟩
 ·replace c4 := Bool.eq_false_iff.mpr c4
  subst c4
  have H1 : (some (0, 0, false, 1)) = some (r1, r2, r3, r4) := by rw [if_neg (show ¬ (false = true) by decide)] at H; exact H
  clear H
  have H := H1
  clear H1
  simp only [Option.some.injEq, Prod.mk.injEq] at H
  obtain ⟨rfl, rfl, rfl, rfl⟩ := H
  go_enter Try.func18, Try.ntmps18
  go_wp2_with (first | ((with_reducible refine gate_dst (N := 4) rfl ?_); refine box_event ?hg (N := 4) ?hd (cs := #[.int .i64 0, .int .i64 0]) (t := 24) ?hr ?_; (case hd => rfl); (case hg => rfl); (case hr => first | (go_simp; done) | (go_simp; rfl)); intro gb281 hg w28 hbox hb; have n0_ := Aside0.mk (below_step (belN HB.out) hb); have n1_ := Aside0.mk (hbox); have n2_ := Aside0.mk (szB hg HB.out); have n3_ := Aside0.mk (szB hg HB.out); clear HB; have HB := n0_; have BK281 := n1_; have GW281 := n2_; have GE281 := n3_; clear n0_ n1_ n2_ n3_; clear hb hbox hg) | ((with_reducible refine gate_callee (f := 34) rfl ?_); refine goesL_ (some 11) rfl rfl Try.func34 (by kernel_rfl) rfl #[.slice A0 l0.length c0] rfl argN ?_; (with_reducible refine (marigraphref21_Right.calls k _ _ l0 false _ ?side1 ?side2 A3.out).mono ?_); (case side1 => repeat (first | exact (Kd.C_below HR0.out HB.out) | (with_reducible refine Kd.C_alloc ?_ _) | (with_reducible refine Kd.C_drewN ?_ _) | (with_reducible refine Kd.C_drew ?_))); (case side2 => exact HC0.out); rintro e w29 ⟨rfl, hb⟩; refine ⟨_, rfl, ?_⟩; have n0_ := Aside0.mk (bkB BK281.out hb); have n1_ := Aside0.mk (below_step (belS HB.out) hb); clear BK281; clear HB; have BK281 := n0_; have HB := n1_; clear n0_ n1_; (try clear hb); have hcz30_0 : w29.cell? ⟨gb281, 0, none⟩ = some (.int .i64 0) := (blk_cell BK281.out 0).trans rfl; have hcz30_1 : w29.cell? ⟨gb281, 1, none⟩ = some (.int .i64 0) := (blk_cell BK281.out 1).trans rfl; have hfz30_0 := blk_frozen BK281.out 0; have hfz30_1 := blk_frozen BK281.out 1))
  refine bodyPost_ret (results_ctt rfl _ _ gb281 24 #[.int .i64 0, .int .i64 0] (0, 0) _ rfl (by (with_reducible repeat (first | refine blk_drewN ?_ _ | refine blk_drew ?_ | refine blk_alloc ?_ _)); refine blk_put (cs := #[.int .i64 0, .int .i64 0]) ?_ 1 _ rfl; (with_reducible repeat (first | refine blk_drewN ?_ _ | refine blk_drew ?_ | refine blk_alloc ?_ _)); refine blk_put (cs := #[.int .i64 0, .int .i64 0]) ?_ 0 _ rfl; (with_reducible repeat (first | refine blk_drewN ?_ _ | refine blk_drew ?_ | refine blk_alloc ?_ _)); exact BK281.out) Try.underlying24 rfl (by kernel_rfl)) rfl ?_
  exact ⟨by first | rfl | (simp [errW_none, errW_some] <;> rfl) | (simp [*, errW_none, errW_some] <;> rfl), (belS HB.out)⟩

/-! ### marigraphlaw22_at: function 9 -/
def marigraphlaw22_at.f (k : Nat) (l0 : List (S26)) (a1 : Int) : Option (Bool) := (lerp_At.f k l0 a1).bind fun bt293 => ((marigraphref21_At.f k l0 a1).bind fun bt298 => (if (bt293.1 == bt298.1 && (bt293.2.1 == bt298.2.1)) = true then (if (bt293.2.2.1 == bt298.2.2.1) = true then (some (bt293.2.2.2 == bt298.2.2.2)) else (some false)) else (some false)))
theorem marigraphlaw22_at.mono : ∀ a0 a1 k, LeO (marigraphlaw22_at.f k a0 a1) (marigraphlaw22_at.f (k + 1) a0 a1) := by
 intro a0 a1 k
 unfold marigraphlaw22_at.f
 repeat' first
   | (with_reducible exact lerp_At.mono _ _ _)
   | (with_reducible exact marigraphref21_At.mono _ _ _)
   | (with_reducible exact LeO.refl _)
   | (with_reducible exact LeO.none _)
   | (with_reducible refine LeO.ite ?_ ?_)
   | (with_reducible refine LeO.bind ?_ (fun _ => ?_))
   | exact lerp_At.mono _ _ _
   | exact marigraphref21_At.mono _ _ _
   | exact LeO.none _
   | refine LeO.ite ?_ ?_
   | refine LeO.bind ?_ (fun _ => ?_)
set_option maxHeartbeats 8000000 in
set_option maxRecDepth 100000 in
theorem marigraphlaw22_at.calls (k : Nat) (A0 : Option Addr) (c0 : Nat) (l0 : List (S26)) (a1 : Int) (r : Bool) (w : World) (hr0 : Kd.C k26 w A0 l0.length l0) (hc0 : l0.length ≤ c0) (h : marigraphlaw22_at.f k l0 a1 = some r) :
  Calls Try.prog 9 #[.slice A0 l0.length c0, .int .i64 a1] w fun e w' => e = .returned (.bool r) ∧ Below w.heap.size w w' := by
 have hu24 := Try.underlying24
 have HR0 := Aside0.mk hr0
 have HC0 := Aside0.mk hc0
 clear hr0 hc0
 have HB := Aside0.mk (Below.refl w.heap.size w)
 have H : ((lerp_At.f k l0 a1).bind fun bt293 => ((marigraphref21_At.f k l0 a1).bind fun bt298 => (if (bt293.1 == bt298.1 && (bt293.2.1 == bt298.2.1)) = true then (if (bt293.2.2.1 == bt298.2.2.1) = true then (some (bt293.2.2.2 == bt298.2.2.2)) else (some false)) else (some false)))) = some r := h
 clear h
 replace H := Option.bind_eq_some_iff.mp H
 obtain ⟨⟨t293, t294, t295, t296⟩, A30, H⟩ := H
 replace H : ((marigraphref21_At.f k l0 a1).bind fun bt298 => (if (t293 == bt298.1 && (t294 == bt298.2.1)) = true then (if (t295 == bt298.2.2.1) = true then (some (t296 == bt298.2.2.2)) else (some false)) else (some false))) = some r := H
 have A3 := Aside0.mk A30
 clear A30
 replace H := Option.bind_eq_some_iff.mp H
 obtain ⟨⟨t298, t299, t300, t301⟩, A40, H⟩ := H
 replace H : (if (t293 == t298 && (t294 == t299)) = true then (if (t295 == t300) = true then (some (t296 == t301)) else (some false)) else (some false)) = some r := H
 have A4 := Aside0.mk A40
 clear A40
 by_cases c5 : (t293 == t298 && (t294 == t299)) = true
 ·rw [if_pos c5] at H
  have c5b0 : (t293 == t298 && (t294 == t299)) = true := c5
  (try (have c5b1 : decide (t293 = t298 && (t294 == t299)) = true := by simpa using c5))
  (try (have c5b2 : (t293 == t298 && (t294 == t299)) = true := by simpa using c5))
  clear c5
  by_cases c6 : (t295 == t300) = true
  ·rw [if_pos c6] at H
   have c6b0 : (t295 == t300) = true := c6
   (try (have c6b1 : decide (t295 = t300) = true := by simpa using c6))
   (try (have c6b2 : (t295 == t300) = true := by simpa using c6))
   clear c6
   obtain rfl := Option.some.inj H
   go_enter Try.func9, Try.ntmps9
   go_wp2_with (first | ((with_reducible refine gate_callee (f := 17) rfl ?_); refine goesL_ (some 14) rfl rfl Try.func17 (by kernel_rfl) rfl #[.slice A0 l0.length c0, .int .i64 a1] rfl argN ?_; (with_reducible refine (lerp_At.calls k _ _ l0 a1 t293 t294 t295 t296 _ ?side1 ?side2 A3.out).mono ?_); (case side1 => repeat (first | exact HR0.out | (with_reducible refine Kd.C_alloc ?_ _) | (with_reducible refine Kd.C_drewN ?_ _) | (with_reducible refine Kd.C_drew ?_))); (case side2 => exact HC0.out); rintro e w7 ⟨rfl, hb⟩; refine ⟨_, rfl, ?_⟩; have n0_ := Aside0.mk (below_step (belN HB.out) hb); clear HB; have HB := n0_; clear n0_; (try clear hb)) | ((with_reducible refine gate_dst (N := 5) rfl ?_); refine box_event ?hg (N := 5) ?hd (cs := #[.int .i64 0, .int .i64 0]) (t := 24) ?hr ?_; (case hd => rfl); (case hg => rfl); (case hr => first | (go_simp; done) | (go_simp; rfl)); intro gb297 hg w8 hbox hb; have n0_ := Aside0.mk (below_step (belN HB.out) hb); have n1_ := Aside0.mk (hbox); have n2_ := Aside0.mk (szB hg HB.out); have n3_ := Aside0.mk (szB hg HB.out); clear HB; have HB := n0_; have BK297 := n1_; have GW297 := n2_; have GE297 := n3_; clear n0_ n1_ n2_ n3_; clear hb hbox hg; have hcz9_0 : w8.cell? ⟨gb297, 0, none⟩ = some (.int .i64 0) := (blk_cell BK297.out 0).trans rfl; have hcz9_1 : w8.cell? ⟨gb297, 1, none⟩ = some (.int .i64 0) := (blk_cell BK297.out 1).trans rfl; have hfz9_0 := blk_frozen BK297.out 0; have hfz9_1 := blk_frozen BK297.out 1) | ((with_reducible refine gate_callee (f := 18) rfl ?_); refine goesL_ (some 21) rfl rfl Try.func18 (by kernel_rfl) rfl #[.slice A0 l0.length c0, .int .i64 a1] rfl argN ?_; (with_reducible refine (marigraphref21_At.calls k _ _ l0 a1 t298 t299 t300 t301 _ ?side1 ?side2 A4.out).mono ?_); (case side1 => exact Kd.C_below HR0.out (belS HB.out)); (case side2 => exact HC0.out); rintro e w10 ⟨rfl, hb⟩; refine ⟨_, rfl, ?_⟩; have n0_ := Aside0.mk (blk_below (g := gb297) (o := .cells #[.int .i64 t293, .int .i64 t294] 24 (0, 0)) (by (with_reducible repeat (first | refine blk_drewN ?_ _ | refine blk_drew ?_ | refine blk_alloc ?_ _)); refine blk_put (cs := #[.int .i64 t293, .int .i64 0]) ?_ 1 _ rfl; (with_reducible repeat (first | refine blk_drewN ?_ _ | refine blk_drew ?_ | refine blk_alloc ?_ _)); refine blk_put (cs := #[.int .i64 0, .int .i64 0]) ?_ 0 _ rfl; (with_reducible repeat (first | refine blk_drewN ?_ _ | refine blk_drew ?_ | refine blk_alloc ?_ _)); exact BK297.out) hb); have n1_ := Aside0.mk (below_step (belS HB.out) hb); clear BK297; clear HB; have BK297 := n0_; have HB := n1_; clear n0_ n1_; (try clear hb)) | ((with_reducible refine gate_dst (N := 8) rfl ?_); refine box_event ?hg (N := 8) ?hd (cs := #[.int .i64 0, .int .i64 0]) (t := 24) ?hr ?_; (case hd => rfl); (case hg => rfl); (case hr => first | (go_simp; done) | (go_simp; rfl)); intro gb302 hg w11 hbox hb; have n0_ := Aside0.mk (bkB BK297.out hb); have n1_ := Aside0.mk (below_step (belS HB.out) hb); have n2_ := Aside0.mk (hbox); have n3_ := Aside0.mk (szB hg HB.out); have n4_ := Aside0.mk (szB hg HB.out); have n5_ := Aside0.mk ((bk1 hg BK297.out)); have n6_ := Aside0.mk ((bk2 hg BK297.out)); clear BK297; clear HB; have BK297 := n0_; have HB := n1_; have BK302 := n2_; have GW302 := n3_; have GE302 := n4_; have NB297_302 := n5_; have NB302_297 := n6_; clear n0_ n1_ n2_ n3_ n4_ n5_ n6_; clear hb hbox hg; have hnb12 := NB302_297.out; have hnc12 := NB297_302.out; have hcz13_0 : w11.cell? ⟨gb302, 0, none⟩ = some (.int .i64 0) := (blk_cell BK302.out 0).trans rfl; have hcz13_1 : w11.cell? ⟨gb302, 1, none⟩ = some (.int .i64 0) := (blk_cell BK302.out 1).trans rfl; have hfz13_0 := blk_frozen BK302.out 0; have hfz13_1 := blk_frozen BK302.out 1; have hcz14_0 : w11.cell? ⟨gb297, 0, none⟩ = some (.int .i64 t293) := (blk_cell BK297.out 0).trans rfl; have hcz14_1 : w11.cell? ⟨gb297, 1, none⟩ = some (.int .i64 t294) := (blk_cell BK297.out 1).trans rfl; have hfz14_0 := blk_frozen BK297.out 0; have hfz14_1 := blk_frozen BK297.out 1))
   go_ret
   exact ⟨by first | rfl | (simp [errW_none, errW_some] <;> rfl) | (simp [*, errW_none, errW_some] <;> rfl), (belS HB.out)⟩
  ·rw [if_neg c6] at H
   have c6b0 : (t295 == t300) = false := by simpa using c6
   (try (have c6b1 : decide (t295 = t300) = false := by simpa using c6))
   (try (have c6b2 : (t295 == t300) = false := by simpa using c6))
   (try (have c6b3 : ¬ (t295 = t300) := by simpa using c6))
   clear c6
   obtain rfl := Option.some.inj H
   go_enter Try.func9, Try.ntmps9
   go_wp2_with (first | ((with_reducible refine gate_callee (f := 17) rfl ?_); refine goesL_ (some 14) rfl rfl Try.func17 (by kernel_rfl) rfl #[.slice A0 l0.length c0, .int .i64 a1] rfl argN ?_; (with_reducible refine (lerp_At.calls k _ _ l0 a1 t293 t294 t295 t296 _ ?side1 ?side2 A3.out).mono ?_); (case side1 => repeat (first | exact HR0.out | (with_reducible refine Kd.C_alloc ?_ _) | (with_reducible refine Kd.C_drewN ?_ _) | (with_reducible refine Kd.C_drew ?_))); (case side2 => exact HC0.out); rintro e w15 ⟨rfl, hb⟩; refine ⟨_, rfl, ?_⟩; have n0_ := Aside0.mk (below_step (belN HB.out) hb); clear HB; have HB := n0_; clear n0_; (try clear hb)) | ((with_reducible refine gate_dst (N := 5) rfl ?_); refine box_event ?hg (N := 5) ?hd (cs := #[.int .i64 0, .int .i64 0]) (t := 24) ?hr ?_; (case hd => rfl); (case hg => rfl); (case hr => first | (go_simp; done) | (go_simp; rfl)); intro gb297 hg w16 hbox hb; have n0_ := Aside0.mk (below_step (belN HB.out) hb); have n1_ := Aside0.mk (hbox); have n2_ := Aside0.mk (szB hg HB.out); have n3_ := Aside0.mk (szB hg HB.out); clear HB; have HB := n0_; have BK297 := n1_; have GW297 := n2_; have GE297 := n3_; clear n0_ n1_ n2_ n3_; clear hb hbox hg; have hcz17_0 : w16.cell? ⟨gb297, 0, none⟩ = some (.int .i64 0) := (blk_cell BK297.out 0).trans rfl; have hcz17_1 : w16.cell? ⟨gb297, 1, none⟩ = some (.int .i64 0) := (blk_cell BK297.out 1).trans rfl; have hfz17_0 := blk_frozen BK297.out 0; have hfz17_1 := blk_frozen BK297.out 1) | ((with_reducible refine gate_callee (f := 18) rfl ?_); refine goesL_ (some 21) rfl rfl Try.func18 (by kernel_rfl) rfl #[.slice A0 l0.length c0, .int .i64 a1] rfl argN ?_; (with_reducible refine (marigraphref21_At.calls k _ _ l0 a1 t298 t299 t300 t301 _ ?side1 ?side2 A4.out).mono ?_); (case side1 => exact Kd.C_below HR0.out (belS HB.out)); (case side2 => exact HC0.out); rintro e w18 ⟨rfl, hb⟩; refine ⟨_, rfl, ?_⟩; have n0_ := Aside0.mk (blk_below (g := gb297) (o := .cells #[.int .i64 t293, .int .i64 t294] 24 (0, 0)) (by (with_reducible repeat (first | refine blk_drewN ?_ _ | refine blk_drew ?_ | refine blk_alloc ?_ _)); refine blk_put (cs := #[.int .i64 t293, .int .i64 0]) ?_ 1 _ rfl; (with_reducible repeat (first | refine blk_drewN ?_ _ | refine blk_drew ?_ | refine blk_alloc ?_ _)); refine blk_put (cs := #[.int .i64 0, .int .i64 0]) ?_ 0 _ rfl; (with_reducible repeat (first | refine blk_drewN ?_ _ | refine blk_drew ?_ | refine blk_alloc ?_ _)); exact BK297.out) hb); have n1_ := Aside0.mk (below_step (belS HB.out) hb); clear BK297; clear HB; have BK297 := n0_; have HB := n1_; clear n0_ n1_; (try clear hb)) | ((with_reducible refine gate_dst (N := 8) rfl ?_); refine box_event ?hg (N := 8) ?hd (cs := #[.int .i64 0, .int .i64 0]) (t := 24) ?hr ?_; (case hd => rfl); (case hg => rfl); (case hr => first | (go_simp; done) | (go_simp; rfl)); intro gb302 hg w19 hbox hb; have n0_ := Aside0.mk (bkB BK297.out hb); have n1_ := Aside0.mk (below_step (belS HB.out) hb); have n2_ := Aside0.mk (hbox); have n3_ := Aside0.mk (szB hg HB.out); have n4_ := Aside0.mk (szB hg HB.out); have n5_ := Aside0.mk ((bk1 hg BK297.out)); have n6_ := Aside0.mk ((bk2 hg BK297.out)); clear BK297; clear HB; have BK297 := n0_; have HB := n1_; have BK302 := n2_; have GW302 := n3_; have GE302 := n4_; have NB297_302 := n5_; have NB302_297 := n6_; clear n0_ n1_ n2_ n3_ n4_ n5_ n6_; clear hb hbox hg; have hnb20 := NB302_297.out; have hnc20 := NB297_302.out; have hcz21_0 : w19.cell? ⟨gb302, 0, none⟩ = some (.int .i64 0) := (blk_cell BK302.out 0).trans rfl; have hcz21_1 : w19.cell? ⟨gb302, 1, none⟩ = some (.int .i64 0) := (blk_cell BK302.out 1).trans rfl; have hfz21_0 := blk_frozen BK302.out 0; have hfz21_1 := blk_frozen BK302.out 1; have hcz22_0 : w19.cell? ⟨gb297, 0, none⟩ = some (.int .i64 t293) := (blk_cell BK297.out 0).trans rfl; have hcz22_1 : w19.cell? ⟨gb297, 1, none⟩ = some (.int .i64 t294) := (blk_cell BK297.out 1).trans rfl; have hfz22_0 := blk_frozen BK297.out 0; have hfz22_1 := blk_frozen BK297.out 1))
   go_ret
   exact ⟨by first | rfl | (simp [errW_none, errW_some] <;> rfl) | (simp [*, errW_none, errW_some] <;> rfl), (belS HB.out)⟩
 ·rw [if_neg c5] at H
  have c5b0 : (t293 == t298 && (t294 == t299)) = false := by simpa using c5
  (try (have c5b1 : decide (t293 = t298 && (t294 == t299)) = false := by simpa using c5))
  (try (have c5b2 : (t293 == t298 && (t294 == t299)) = false := by simpa using c5))
  (try (have c5b3 : ¬ (t293 = t298 && (t294 == t299)) := by simpa using c5))
  clear c5
  obtain rfl := Option.some.inj H
  go_enter Try.func9, Try.ntmps9
  go_wp2_with (first | ((with_reducible refine gate_callee (f := 17) rfl ?_); refine goesL_ (some 14) rfl rfl Try.func17 (by kernel_rfl) rfl #[.slice A0 l0.length c0, .int .i64 a1] rfl argN ?_; (with_reducible refine (lerp_At.calls k _ _ l0 a1 t293 t294 t295 t296 _ ?side1 ?side2 A3.out).mono ?_); (case side1 => repeat (first | exact HR0.out | (with_reducible refine Kd.C_alloc ?_ _) | (with_reducible refine Kd.C_drewN ?_ _) | (with_reducible refine Kd.C_drew ?_))); (case side2 => exact HC0.out); rintro e w23 ⟨rfl, hb⟩; refine ⟨_, rfl, ?_⟩; have n0_ := Aside0.mk (below_step (belN HB.out) hb); clear HB; have HB := n0_; clear n0_; (try clear hb)) | ((with_reducible refine gate_dst (N := 5) rfl ?_); refine box_event ?hg (N := 5) ?hd (cs := #[.int .i64 0, .int .i64 0]) (t := 24) ?hr ?_; (case hd => rfl); (case hg => rfl); (case hr => first | (go_simp; done) | (go_simp; rfl)); intro gb297 hg w24 hbox hb; have n0_ := Aside0.mk (below_step (belN HB.out) hb); have n1_ := Aside0.mk (hbox); have n2_ := Aside0.mk (szB hg HB.out); have n3_ := Aside0.mk (szB hg HB.out); clear HB; have HB := n0_; have BK297 := n1_; have GW297 := n2_; have GE297 := n3_; clear n0_ n1_ n2_ n3_; clear hb hbox hg; have hcz25_0 : w24.cell? ⟨gb297, 0, none⟩ = some (.int .i64 0) := (blk_cell BK297.out 0).trans rfl; have hcz25_1 : w24.cell? ⟨gb297, 1, none⟩ = some (.int .i64 0) := (blk_cell BK297.out 1).trans rfl; have hfz25_0 := blk_frozen BK297.out 0; have hfz25_1 := blk_frozen BK297.out 1) | ((with_reducible refine gate_callee (f := 18) rfl ?_); refine goesL_ (some 21) rfl rfl Try.func18 (by kernel_rfl) rfl #[.slice A0 l0.length c0, .int .i64 a1] rfl argN ?_; (with_reducible refine (marigraphref21_At.calls k _ _ l0 a1 t298 t299 t300 t301 _ ?side1 ?side2 A4.out).mono ?_); (case side1 => exact Kd.C_below HR0.out (belS HB.out)); (case side2 => exact HC0.out); rintro e w26 ⟨rfl, hb⟩; refine ⟨_, rfl, ?_⟩; have n0_ := Aside0.mk (blk_below (g := gb297) (o := .cells #[.int .i64 t293, .int .i64 t294] 24 (0, 0)) (by (with_reducible repeat (first | refine blk_drewN ?_ _ | refine blk_drew ?_ | refine blk_alloc ?_ _)); refine blk_put (cs := #[.int .i64 t293, .int .i64 0]) ?_ 1 _ rfl; (with_reducible repeat (first | refine blk_drewN ?_ _ | refine blk_drew ?_ | refine blk_alloc ?_ _)); refine blk_put (cs := #[.int .i64 0, .int .i64 0]) ?_ 0 _ rfl; (with_reducible repeat (first | refine blk_drewN ?_ _ | refine blk_drew ?_ | refine blk_alloc ?_ _)); exact BK297.out) hb); have n1_ := Aside0.mk (below_step (belS HB.out) hb); clear BK297; clear HB; have BK297 := n0_; have HB := n1_; clear n0_ n1_; (try clear hb)) | ((with_reducible refine gate_dst (N := 8) rfl ?_); refine box_event ?hg (N := 8) ?hd (cs := #[.int .i64 0, .int .i64 0]) (t := 24) ?hr ?_; (case hd => rfl); (case hg => rfl); (case hr => first | (go_simp; done) | (go_simp; rfl)); intro gb302 hg w27 hbox hb; have n0_ := Aside0.mk (bkB BK297.out hb); have n1_ := Aside0.mk (below_step (belS HB.out) hb); have n2_ := Aside0.mk (hbox); have n3_ := Aside0.mk (szB hg HB.out); have n4_ := Aside0.mk (szB hg HB.out); have n5_ := Aside0.mk ((bk1 hg BK297.out)); have n6_ := Aside0.mk ((bk2 hg BK297.out)); clear BK297; clear HB; have BK297 := n0_; have HB := n1_; have BK302 := n2_; have GW302 := n3_; have GE302 := n4_; have NB297_302 := n5_; have NB302_297 := n6_; clear n0_ n1_ n2_ n3_ n4_ n5_ n6_; clear hb hbox hg; have hnb28 := NB302_297.out; have hnc28 := NB297_302.out; have hcz29_0 : w27.cell? ⟨gb302, 0, none⟩ = some (.int .i64 0) := (blk_cell BK302.out 0).trans rfl; have hcz29_1 : w27.cell? ⟨gb302, 1, none⟩ = some (.int .i64 0) := (blk_cell BK302.out 1).trans rfl; have hfz29_0 := blk_frozen BK302.out 0; have hfz29_1 := blk_frozen BK302.out 1; have hcz30_0 : w27.cell? ⟨gb297, 0, none⟩ = some (.int .i64 t293) := (blk_cell BK297.out 0).trans rfl; have hcz30_1 : w27.cell? ⟨gb297, 1, none⟩ = some (.int .i64 t294) := (blk_cell BK297.out 1).trans rfl; have hfz30_0 := blk_frozen BK297.out 0; have hfz30_1 := blk_frozen BK297.out 1))
  go_ret
  exact ⟨by first | rfl | (simp [errW_none, errW_some] <;> rfl) | (simp [*, errW_none, errW_some] <;> rfl), (belS HB.out)⟩

/-! ### marigraphlaw22_known: function 10 -/
def marigraphlaw22_known.f (k : Nat)  : Option (Bool) := (lerp_At.f k (([(⟨0, (⟨0, 1⟩ : S24)⟩ : S26), (⟨10, (⟨5, 1⟩ : S24)⟩ : S26)] : List (S26))) 4).bind fun bt306 => ((lerp_At.f k ([] : List (S26)) 4).bind fun bt311 => (if bt306.2.2.1 = true then (if bt306.2.2.2 = 0 then (if (bt306.1 == 2 && (bt306.2.1 == 1)) = true then (if bt311.2.2.1 = true then (some false) else (some (bt311.2.2.2 == 0))) else (some false)) else (some false)) else (some false)))
theorem marigraphlaw22_known.mono : ∀ k, LeO (marigraphlaw22_known.f k ) (marigraphlaw22_known.f (k + 1) ) := by
 intro  k
 unfold marigraphlaw22_known.f
 repeat' first
   | (with_reducible exact lerp_At.mono _ _ _)
   | (with_reducible exact LeO.refl _)
   | (with_reducible exact LeO.none _)
   | (with_reducible refine LeO.ite ?_ ?_)
   | (with_reducible refine LeO.bind ?_ (fun _ => ?_))
   | exact lerp_At.mono _ _ _
   | exact LeO.none _
   | refine LeO.ite ?_ ?_
   | refine LeO.bind ?_ (fun _ => ?_)
set_option maxHeartbeats 8000000 in
set_option maxRecDepth 100000 in
theorem marigraphlaw22_known.calls (k : Nat)  (r : Bool) (w : World) (h : marigraphlaw22_known.f k  = some r) :
  Calls Try.prog 10 #[] w fun e w' => e = .returned (.bool r) ∧ Below w.heap.size w w' := by
 have hu24 := Try.underlying24
 have hu26 := Try.underlying26
 have HB := Aside0.mk (Below.refl w.heap.size w)
 have H : ((lerp_At.f k (([(⟨0, (⟨0, 1⟩ : S24)⟩ : S26), (⟨10, (⟨5, 1⟩ : S24)⟩ : S26)] : List (S26))) 4).bind fun bt306 => ((lerp_At.f k ([] : List (S26)) 4).bind fun bt311 => (if bt306.2.2.1 = true then (if bt306.2.2.2 = 0 then (if (bt306.1 == 2 && (bt306.2.1 == 1)) = true then (if bt311.2.2.1 = true then (some false) else (some (bt311.2.2.2 == 0))) else (some false)) else (some false)) else (some false)))) = some r := h
 clear h
 obtain ⟨y303, hy303⟩ : ∃ y_ : List (S26), y_ = (([(⟨0, (⟨0, 1⟩ : S24)⟩ : S26), (⟨10, (⟨5, 1⟩ : S24)⟩ : S26)] : List (S26))) := ⟨_, rfl⟩
 replace H : ((lerp_At.f k y303 4).bind fun bt306 => ((lerp_At.f k ([] : List (S26)) 4).bind fun bt311 => (if bt306.2.2.1 = true then (if bt306.2.2.2 = 0 then (if (bt306.1 == 2 && (bt306.2.1 == 1)) = true then (if bt311.2.2.1 = true then (some false) else (some (bt311.2.2.2 == 0))) else (some false)) else (some false)) else (some false)))) = some r := by first | (rw [hy303]; with_reducible exact H) | (have H2_ := (Option.bind_some _ _).symm.trans H; rw [hy303]; with_reducible exact H2_) | (have H2_ := (Option.bind_some _ _).symm.trans H; with_reducible exact H2_) | with_reducible exact H | (rw [hy303]; exact H) | exact H
 have Ny303 := Aside0.mk hy303
 clear hy303
 replace H := Option.bind_eq_some_iff.mp H
 obtain ⟨⟨t306, t307, t308, t309⟩, A10, H⟩ := H
 replace H : ((lerp_At.f k ([] : List (S26)) 4).bind fun bt311 => (if t308 = true then (if t309 = 0 then (if (t306 == 2 && (t307 == 1)) = true then (if bt311.2.2.1 = true then (some false) else (some (bt311.2.2.2 == 0))) else (some false)) else (some false)) else (some false))) = some r := H
 have A1 := Aside0.mk A10
 clear A10
 replace H := Option.bind_eq_some_iff.mp H
 obtain ⟨⟨t311, t312, t313, t314⟩, A20, H⟩ := H
 replace H : (if t308 = true then (if t309 = 0 then (if (t306 == 2 && (t307 == 1)) = true then (if t313 = true then (some false) else (some (t314 == 0))) else (some false)) else (some false)) else (some false)) = some r := H
 have A2 := Aside0.mk A20
 clear A20
 by_cases c3 : t308 = true
 ·subst c3
  have H1 : (if t309 = 0 then (if (t306 == 2 && (t307 == 1)) = true then (if t313 = true then (some false) else (some (t314 == 0))) else (some false)) else (some false)) = some r := by rw [if_pos rfl] at H; exact H
  clear H
  have H := H1
  clear H1
  by_cases c4 : t309 = 0
  ·rw [if_pos c4] at H
   have c4b0 : (t309 == 0) = true := beq_iff_eq.mpr c4
   have c4b1 : (t309 != 0) = false := bne_eq_false_iff_eq.mpr c4
   clear c4
   by_cases c5 : (t306 == 2 && (t307 == 1)) = true
   ·rw [if_pos c5] at H
    have c5b0 : (t306 == 2 && (t307 == 1)) = true := c5
    (try (have c5b1 : decide (t306 = 2 && (t307 == 1)) = true := by simpa using c5))
    (try (have c5b2 : (t306 == 2 && (t307 == 1)) = true := by simpa using c5))
    clear c5
    by_cases c6 : t313 = true
    ·subst c6
     have H1 : (some false) = some r := by rw [if_pos rfl] at H; exact H
     clear H
     have H := H1
     clear H1
     obtain rfl := Option.some.inj H
     go_enter Try.func10, Try.ntmps10
     go_wp2_with (first | ((with_reducible refine gate_dst (N := 12) rfl ?_); refine Kd.R_lit k26 _ 26 ?hg (N := 12) ?hd (xs := ([(⟨0, (⟨0, 1⟩ : S24)⟩ : S26), (⟨10, (⟨5, 1⟩ : S24)⟩ : S26)] : List (S26))) (inner := [.int .i64 0, .int .i64 0, .int .i64 1, .int .i64 10, .int .i64 5, .int .i64 1]) (ok := fun _ => True) (okp := fun _ => True) ?hr ?hp (fun _ hk => hk) trivial (Below.refl _ _) (Nat.le_refl _) (by simp) ?_; (case hd => rfl); (case hg => rfl); (case hr => first | (go_simp; done) | (go_simp; rfl)); (case hp => exact (Reps.c3 (show Kd.M k26 _ _ _ (⟨0, (⟨0, 1⟩ : S24)⟩ : S26) [.int .i64 0, .int .i64 0, .int .i64 1] from (k26_mkM _ _ _ (⟨0, (⟨0, 1⟩ : S24)⟩ : S26) )) (Reps.c3 (show Kd.M k26 _ _ _ (⟨10, (⟨5, 1⟩ : S24)⟩ : S26) [.int .i64 10, .int .i64 5, .int .i64 1] from (k26_mkM _ _ _ (⟨10, (⟨5, 1⟩ : S24)⟩ : S26) )) (Reps.none _ _)))); intro v304 w7 ho8 hb hg_ hnew_; clear hg_ hnew_; (first | rw [← Ny303.out] at ho8 | (simp only [Int.reduceToNat] at ho8; rw [← Ny303.out] at ho8)); have n0_ := Aside0.mk (Kd.R_lower ho8 (below_size (belN HB.out))); have n1_ := Aside0.mk (below_step (belN HB.out) hb); clear HB; have HO305 := n0_; have HB := n1_; clear n0_ n1_; clear hb ho8; obtain ⟨Ao9, co9, eo9⟩ := Kd.R_slice HO305.out; subst eo9) | ((with_reducible refine gate_callee (f := 17) rfl ?_); refine goesL_ (some 15) rfl rfl Try.func17 (by kernel_rfl) rfl #[.slice Ao9 y303.length co9, .int .i64 4] rfl argN ?_; (with_reducible refine (lerp_At.calls k _ _ y303 4 t306 t307 true t309 _ ?side1 ?side2 A1.out).mono ?_); (case side1 => repeat (first | exact (Kd.R_reads' HO305.out).2.2 | (with_reducible refine Kd.C_alloc ?_ _) | (with_reducible refine Kd.C_drewN ?_ _) | (with_reducible refine Kd.C_drew ?_))); (case side2 => exact (Kd.R_reads' HO305.out).2.1); rintro e w10 ⟨rfl, hb⟩; refine ⟨_, rfl, ?_⟩; have n0_ := Aside0.mk (Kd.R_below (rowN HO305.out) hb); have n1_ := Aside0.mk (below_step (belN HB.out) hb); clear HO305; clear HB; have HO305 := n0_; have HB := n1_; clear n0_ n1_; (try clear hb); (try clear hk)) | ((with_reducible refine gate_dst (N := 2) rfl ?_); refine box_event ?hg (N := 2) ?hd (cs := #[.int .i64 0, .int .i64 0]) (t := 24) ?hr ?_; (case hd => rfl); (case hg => rfl); (case hr => first | (go_simp; done) | (go_simp; rfl)); intro gb310 hg w11 hbox hb; have n0_ := Aside0.mk (Kd.R_below (rowN HO305.out) hb); have n1_ := Aside0.mk (below_step (belN HB.out) hb); have n2_ := Aside0.mk (hbox); have n3_ := Aside0.mk (szB hg HB.out); have n4_ := Aside0.mk (szB hg HB.out); clear HO305; clear HB; have HO305 := n0_; have HB := n1_; have BK310 := n2_; have GW310 := n3_; have GE310 := n4_; clear n0_ n1_ n2_ n3_ n4_; clear hb hbox hg; have hcz12_0 : w11.cell? ⟨gb310, 0, none⟩ = some (.int .i64 0) := (blk_cell BK310.out 0).trans rfl; have hcz12_1 : w11.cell? ⟨gb310, 1, none⟩ = some (.int .i64 0) := (blk_cell BK310.out 1).trans rfl; have hfz12_0 := blk_frozen BK310.out 0; have hfz12_1 := blk_frozen BK310.out 1) | ((with_reducible refine gate_callee (f := 17) rfl ?_); refine goesL_ (some 20) rfl rfl Try.func17 (by kernel_rfl) rfl #[.slice none 0 0, .int .i64 4] rfl argN ?_; (refine (lerp_At.calls k _ _ ([] : List (S26)) 4 t311 t312 true t314 _ ?side1 ?side2 A2.out).mono ?_); (case side1 => exact Kd.C_nil _ _); (case side2 => exact Nat.le_refl _); rintro e w13 ⟨rfl, hb⟩; refine ⟨_, rfl, ?_⟩; have n0_ := Aside0.mk (Kd.R_below (by (with_reducible repeat (first | apply Kd.R_alloc | apply Kd.R_drewN | apply Kd.R_drew)); exact (Kd.R_mono (Kd.R_far (p := ⟨gb310, 1, none⟩) (Kd.R_far (p := ⟨gb310, 0, none⟩) (Kd.R_types HO305.out BK310.out (by decide)) (fun _ hk => hk.2) (.int .i64 t306)) (fun _ hk => hk.2) (.int .i64 t307)) (fun _ h_ => h_.1))) hb); have n1_ := Aside0.mk (blk_below (g := gb310) (o := .cells #[.int .i64 t306, .int .i64 t307] 24 (0, 0)) (by (with_reducible repeat (first | refine blk_drewN ?_ _ | refine blk_drew ?_ | refine blk_alloc ?_ _)); refine blk_put (cs := #[.int .i64 t306, .int .i64 0]) ?_ 1 _ rfl; (with_reducible repeat (first | refine blk_drewN ?_ _ | refine blk_drew ?_ | refine blk_alloc ?_ _)); refine blk_put (cs := #[.int .i64 0, .int .i64 0]) ?_ 0 _ rfl; (with_reducible repeat (first | refine blk_drewN ?_ _ | refine blk_drew ?_ | refine blk_alloc ?_ _)); exact BK310.out) hb); have n2_ := Aside0.mk (below_step (belS HB.out) hb); clear HO305; clear BK310; clear HB; have HO305 := n0_; have BK310 := n1_; have HB := n2_; clear n0_ n1_ n2_; (try clear hb); (try clear hk)) | ((with_reducible refine gate_dst (N := 5) rfl ?_); refine box_event ?hg (N := 5) ?hd (cs := #[.int .i64 0, .int .i64 0]) (t := 24) ?hr ?_; (case hd => rfl); (case hg => rfl); (case hr => first | (go_simp; done) | (go_simp; rfl)); intro gb315 hg w14 hbox hb; have n0_ := Aside0.mk (Kd.R_below (rowN HO305.out) hb); have n1_ := Aside0.mk (bkB BK310.out hb); have n2_ := Aside0.mk (below_step (belS HB.out) hb); have n3_ := Aside0.mk (hbox); have n4_ := Aside0.mk (szB hg HB.out); have n5_ := Aside0.mk (szB hg HB.out); have n6_ := Aside0.mk ((bk1 hg BK310.out)); have n7_ := Aside0.mk ((bk2 hg BK310.out)); clear HO305; clear BK310; clear HB; have HO305 := n0_; have BK310 := n1_; have HB := n2_; have BK315 := n3_; have GW315 := n4_; have GE315 := n5_; have NB310_315 := n6_; have NB315_310 := n7_; clear n0_ n1_ n2_ n3_ n4_ n5_ n6_ n7_; clear hb hbox hg; have hnb15 := NB315_310.out; have hnc15 := NB310_315.out; have hcz16_0 : w14.cell? ⟨gb315, 0, none⟩ = some (.int .i64 0) := (blk_cell BK315.out 0).trans rfl; have hcz16_1 : w14.cell? ⟨gb315, 1, none⟩ = some (.int .i64 0) := (blk_cell BK315.out 1).trans rfl; have hfz16_0 := blk_frozen BK315.out 0; have hfz16_1 := blk_frozen BK315.out 1; have hcz17_0 : w14.cell? ⟨gb310, 0, none⟩ = some (.int .i64 t306) := (blk_cell BK310.out 0).trans rfl; have hcz17_1 : w14.cell? ⟨gb310, 1, none⟩ = some (.int .i64 t307) := (blk_cell BK310.out 1).trans rfl; have hfz17_0 := blk_frozen BK310.out 0; have hfz17_1 := blk_frozen BK310.out 1))
     go_ret
     exact ⟨by first | rfl | (simp [errW_none, errW_some] <;> rfl) | (simp [*, errW_none, errW_some] <;> rfl), (belS HB.out)⟩
    ·replace c6 := Bool.eq_false_iff.mpr c6
     subst c6
     have H1 : (some (t314 == 0)) = some r := by rw [if_neg (show ¬ (false = true) by decide)] at H; exact H
     clear H
     have H := H1
     clear H1
     obtain rfl := Option.some.inj H
     go_enter Try.func10, Try.ntmps10
     go_wp2_with (first | ((with_reducible refine gate_dst (N := 12) rfl ?_); refine Kd.R_lit k26 _ 26 ?hg (N := 12) ?hd (xs := ([(⟨0, (⟨0, 1⟩ : S24)⟩ : S26), (⟨10, (⟨5, 1⟩ : S24)⟩ : S26)] : List (S26))) (inner := [.int .i64 0, .int .i64 0, .int .i64 1, .int .i64 10, .int .i64 5, .int .i64 1]) (ok := fun _ => True) (okp := fun _ => True) ?hr ?hp (fun _ hk => hk) trivial (Below.refl _ _) (Nat.le_refl _) (by simp) ?_; (case hd => rfl); (case hg => rfl); (case hr => first | (go_simp; done) | (go_simp; rfl)); (case hp => exact (Reps.c3 (show Kd.M k26 _ _ _ (⟨0, (⟨0, 1⟩ : S24)⟩ : S26) [.int .i64 0, .int .i64 0, .int .i64 1] from (k26_mkM _ _ _ (⟨0, (⟨0, 1⟩ : S24)⟩ : S26) )) (Reps.c3 (show Kd.M k26 _ _ _ (⟨10, (⟨5, 1⟩ : S24)⟩ : S26) [.int .i64 10, .int .i64 5, .int .i64 1] from (k26_mkM _ _ _ (⟨10, (⟨5, 1⟩ : S24)⟩ : S26) )) (Reps.none _ _)))); intro v304 w18 ho19 hb hg_ hnew_; clear hg_ hnew_; (first | rw [← Ny303.out] at ho19 | (simp only [Int.reduceToNat] at ho19; rw [← Ny303.out] at ho19)); have n0_ := Aside0.mk (Kd.R_lower ho19 (below_size (belN HB.out))); have n1_ := Aside0.mk (below_step (belN HB.out) hb); clear HB; have HO305 := n0_; have HB := n1_; clear n0_ n1_; clear hb ho19; obtain ⟨Ao20, co20, eo20⟩ := Kd.R_slice HO305.out; subst eo20) | ((with_reducible refine gate_callee (f := 17) rfl ?_); refine goesL_ (some 15) rfl rfl Try.func17 (by kernel_rfl) rfl #[.slice Ao20 y303.length co20, .int .i64 4] rfl argN ?_; (with_reducible refine (lerp_At.calls k _ _ y303 4 t306 t307 true t309 _ ?side1 ?side2 A1.out).mono ?_); (case side1 => repeat (first | exact (Kd.R_reads' HO305.out).2.2 | (with_reducible refine Kd.C_alloc ?_ _) | (with_reducible refine Kd.C_drewN ?_ _) | (with_reducible refine Kd.C_drew ?_))); (case side2 => exact (Kd.R_reads' HO305.out).2.1); rintro e w21 ⟨rfl, hb⟩; refine ⟨_, rfl, ?_⟩; have n0_ := Aside0.mk (Kd.R_below (rowN HO305.out) hb); have n1_ := Aside0.mk (below_step (belN HB.out) hb); clear HO305; clear HB; have HO305 := n0_; have HB := n1_; clear n0_ n1_; (try clear hb); (try clear hk)) | ((with_reducible refine gate_dst (N := 2) rfl ?_); refine box_event ?hg (N := 2) ?hd (cs := #[.int .i64 0, .int .i64 0]) (t := 24) ?hr ?_; (case hd => rfl); (case hg => rfl); (case hr => first | (go_simp; done) | (go_simp; rfl)); intro gb310 hg w22 hbox hb; have n0_ := Aside0.mk (Kd.R_below (rowN HO305.out) hb); have n1_ := Aside0.mk (below_step (belN HB.out) hb); have n2_ := Aside0.mk (hbox); have n3_ := Aside0.mk (szB hg HB.out); have n4_ := Aside0.mk (szB hg HB.out); clear HO305; clear HB; have HO305 := n0_; have HB := n1_; have BK310 := n2_; have GW310 := n3_; have GE310 := n4_; clear n0_ n1_ n2_ n3_ n4_; clear hb hbox hg; have hcz23_0 : w22.cell? ⟨gb310, 0, none⟩ = some (.int .i64 0) := (blk_cell BK310.out 0).trans rfl; have hcz23_1 : w22.cell? ⟨gb310, 1, none⟩ = some (.int .i64 0) := (blk_cell BK310.out 1).trans rfl; have hfz23_0 := blk_frozen BK310.out 0; have hfz23_1 := blk_frozen BK310.out 1) | ((with_reducible refine gate_callee (f := 17) rfl ?_); refine goesL_ (some 20) rfl rfl Try.func17 (by kernel_rfl) rfl #[.slice none 0 0, .int .i64 4] rfl argN ?_; (refine (lerp_At.calls k _ _ ([] : List (S26)) 4 t311 t312 false t314 _ ?side1 ?side2 A2.out).mono ?_); (case side1 => exact Kd.C_nil _ _); (case side2 => exact Nat.le_refl _); rintro e w24 ⟨rfl, hb⟩; refine ⟨_, rfl, ?_⟩; have n0_ := Aside0.mk (Kd.R_below (by (with_reducible repeat (first | apply Kd.R_alloc | apply Kd.R_drewN | apply Kd.R_drew)); exact (Kd.R_mono (Kd.R_far (p := ⟨gb310, 1, none⟩) (Kd.R_far (p := ⟨gb310, 0, none⟩) (Kd.R_types HO305.out BK310.out (by decide)) (fun _ hk => hk.2) (.int .i64 t306)) (fun _ hk => hk.2) (.int .i64 t307)) (fun _ h_ => h_.1))) hb); have n1_ := Aside0.mk (blk_below (g := gb310) (o := .cells #[.int .i64 t306, .int .i64 t307] 24 (0, 0)) (by (with_reducible repeat (first | refine blk_drewN ?_ _ | refine blk_drew ?_ | refine blk_alloc ?_ _)); refine blk_put (cs := #[.int .i64 t306, .int .i64 0]) ?_ 1 _ rfl; (with_reducible repeat (first | refine blk_drewN ?_ _ | refine blk_drew ?_ | refine blk_alloc ?_ _)); refine blk_put (cs := #[.int .i64 0, .int .i64 0]) ?_ 0 _ rfl; (with_reducible repeat (first | refine blk_drewN ?_ _ | refine blk_drew ?_ | refine blk_alloc ?_ _)); exact BK310.out) hb); have n2_ := Aside0.mk (below_step (belS HB.out) hb); clear HO305; clear BK310; clear HB; have HO305 := n0_; have BK310 := n1_; have HB := n2_; clear n0_ n1_ n2_; (try clear hb); (try clear hk)) | ((with_reducible refine gate_dst (N := 5) rfl ?_); refine box_event ?hg (N := 5) ?hd (cs := #[.int .i64 0, .int .i64 0]) (t := 24) ?hr ?_; (case hd => rfl); (case hg => rfl); (case hr => first | (go_simp; done) | (go_simp; rfl)); intro gb315 hg w25 hbox hb; have n0_ := Aside0.mk (Kd.R_below (rowN HO305.out) hb); have n1_ := Aside0.mk (bkB BK310.out hb); have n2_ := Aside0.mk (below_step (belS HB.out) hb); have n3_ := Aside0.mk (hbox); have n4_ := Aside0.mk (szB hg HB.out); have n5_ := Aside0.mk (szB hg HB.out); have n6_ := Aside0.mk ((bk1 hg BK310.out)); have n7_ := Aside0.mk ((bk2 hg BK310.out)); clear HO305; clear BK310; clear HB; have HO305 := n0_; have BK310 := n1_; have HB := n2_; have BK315 := n3_; have GW315 := n4_; have GE315 := n5_; have NB310_315 := n6_; have NB315_310 := n7_; clear n0_ n1_ n2_ n3_ n4_ n5_ n6_ n7_; clear hb hbox hg; have hnb26 := NB315_310.out; have hnc26 := NB310_315.out; have hcz27_0 : w25.cell? ⟨gb315, 0, none⟩ = some (.int .i64 0) := (blk_cell BK315.out 0).trans rfl; have hcz27_1 : w25.cell? ⟨gb315, 1, none⟩ = some (.int .i64 0) := (blk_cell BK315.out 1).trans rfl; have hfz27_0 := blk_frozen BK315.out 0; have hfz27_1 := blk_frozen BK315.out 1; have hcz28_0 : w25.cell? ⟨gb310, 0, none⟩ = some (.int .i64 t306) := (blk_cell BK310.out 0).trans rfl; have hcz28_1 : w25.cell? ⟨gb310, 1, none⟩ = some (.int .i64 t307) := (blk_cell BK310.out 1).trans rfl; have hfz28_0 := blk_frozen BK310.out 0; have hfz28_1 := blk_frozen BK310.out 1))
     go_ret
     exact ⟨by first | rfl | (simp [errW_none, errW_some] <;> rfl) | (simp [*, errW_none, errW_some] <;> rfl), (belS HB.out)⟩
   ·rw [if_neg c5] at H
    have c5b0 : (t306 == 2 && (t307 == 1)) = false := by simpa using c5
    (try (have c5b1 : decide (t306 = 2 && (t307 == 1)) = false := by simpa using c5))
    (try (have c5b2 : (t306 == 2 && (t307 == 1)) = false := by simpa using c5))
    (try (have c5b3 : ¬ (t306 = 2 && (t307 == 1)) := by simpa using c5))
    clear c5
    obtain rfl := Option.some.inj H
    go_enter Try.func10, Try.ntmps10
    go_wp2_with (first | ((with_reducible refine gate_dst (N := 12) rfl ?_); refine Kd.R_lit k26 _ 26 ?hg (N := 12) ?hd (xs := ([(⟨0, (⟨0, 1⟩ : S24)⟩ : S26), (⟨10, (⟨5, 1⟩ : S24)⟩ : S26)] : List (S26))) (inner := [.int .i64 0, .int .i64 0, .int .i64 1, .int .i64 10, .int .i64 5, .int .i64 1]) (ok := fun _ => True) (okp := fun _ => True) ?hr ?hp (fun _ hk => hk) trivial (Below.refl _ _) (Nat.le_refl _) (by simp) ?_; (case hd => rfl); (case hg => rfl); (case hr => first | (go_simp; done) | (go_simp; rfl)); (case hp => exact (Reps.c3 (show Kd.M k26 _ _ _ (⟨0, (⟨0, 1⟩ : S24)⟩ : S26) [.int .i64 0, .int .i64 0, .int .i64 1] from (k26_mkM _ _ _ (⟨0, (⟨0, 1⟩ : S24)⟩ : S26) )) (Reps.c3 (show Kd.M k26 _ _ _ (⟨10, (⟨5, 1⟩ : S24)⟩ : S26) [.int .i64 10, .int .i64 5, .int .i64 1] from (k26_mkM _ _ _ (⟨10, (⟨5, 1⟩ : S24)⟩ : S26) )) (Reps.none _ _)))); intro v304 w29 ho30 hb hg_ hnew_; clear hg_ hnew_; (first | rw [← Ny303.out] at ho30 | (simp only [Int.reduceToNat] at ho30; rw [← Ny303.out] at ho30)); have n0_ := Aside0.mk (Kd.R_lower ho30 (below_size (belN HB.out))); have n1_ := Aside0.mk (below_step (belN HB.out) hb); clear HB; have HO305 := n0_; have HB := n1_; clear n0_ n1_; clear hb ho30; obtain ⟨Ao31, co31, eo31⟩ := Kd.R_slice HO305.out; subst eo31) | ((with_reducible refine gate_callee (f := 17) rfl ?_); refine goesL_ (some 15) rfl rfl Try.func17 (by kernel_rfl) rfl #[.slice Ao31 y303.length co31, .int .i64 4] rfl argN ?_; (with_reducible refine (lerp_At.calls k _ _ y303 4 t306 t307 true t309 _ ?side1 ?side2 A1.out).mono ?_); (case side1 => repeat (first | exact (Kd.R_reads' HO305.out).2.2 | (with_reducible refine Kd.C_alloc ?_ _) | (with_reducible refine Kd.C_drewN ?_ _) | (with_reducible refine Kd.C_drew ?_))); (case side2 => exact (Kd.R_reads' HO305.out).2.1); rintro e w32 ⟨rfl, hb⟩; refine ⟨_, rfl, ?_⟩; have n0_ := Aside0.mk (Kd.R_below (rowN HO305.out) hb); have n1_ := Aside0.mk (below_step (belN HB.out) hb); clear HO305; clear HB; have HO305 := n0_; have HB := n1_; clear n0_ n1_; (try clear hb); (try clear hk)) | ((with_reducible refine gate_dst (N := 2) rfl ?_); refine box_event ?hg (N := 2) ?hd (cs := #[.int .i64 0, .int .i64 0]) (t := 24) ?hr ?_; (case hd => rfl); (case hg => rfl); (case hr => first | (go_simp; done) | (go_simp; rfl)); intro gb310 hg w33 hbox hb; have n0_ := Aside0.mk (Kd.R_below (rowN HO305.out) hb); have n1_ := Aside0.mk (below_step (belN HB.out) hb); have n2_ := Aside0.mk (hbox); have n3_ := Aside0.mk (szB hg HB.out); have n4_ := Aside0.mk (szB hg HB.out); clear HO305; clear HB; have HO305 := n0_; have HB := n1_; have BK310 := n2_; have GW310 := n3_; have GE310 := n4_; clear n0_ n1_ n2_ n3_ n4_; clear hb hbox hg; have hcz34_0 : w33.cell? ⟨gb310, 0, none⟩ = some (.int .i64 0) := (blk_cell BK310.out 0).trans rfl; have hcz34_1 : w33.cell? ⟨gb310, 1, none⟩ = some (.int .i64 0) := (blk_cell BK310.out 1).trans rfl; have hfz34_0 := blk_frozen BK310.out 0; have hfz34_1 := blk_frozen BK310.out 1) | ((with_reducible refine gate_callee (f := 17) rfl ?_); refine goesL_ (some 20) rfl rfl Try.func17 (by kernel_rfl) rfl #[.slice none 0 0, .int .i64 4] rfl argN ?_; (refine (lerp_At.calls k _ _ ([] : List (S26)) 4 t311 t312 t313 t314 _ ?side1 ?side2 A2.out).mono ?_); (case side1 => exact Kd.C_nil _ _); (case side2 => exact Nat.le_refl _); rintro e w35 ⟨rfl, hb⟩; refine ⟨_, rfl, ?_⟩; have n0_ := Aside0.mk (Kd.R_below (by (with_reducible repeat (first | apply Kd.R_alloc | apply Kd.R_drewN | apply Kd.R_drew)); exact (Kd.R_mono (Kd.R_far (p := ⟨gb310, 1, none⟩) (Kd.R_far (p := ⟨gb310, 0, none⟩) (Kd.R_types HO305.out BK310.out (by decide)) (fun _ hk => hk.2) (.int .i64 t306)) (fun _ hk => hk.2) (.int .i64 t307)) (fun _ h_ => h_.1))) hb); have n1_ := Aside0.mk (blk_below (g := gb310) (o := .cells #[.int .i64 t306, .int .i64 t307] 24 (0, 0)) (by (with_reducible repeat (first | refine blk_drewN ?_ _ | refine blk_drew ?_ | refine blk_alloc ?_ _)); refine blk_put (cs := #[.int .i64 t306, .int .i64 0]) ?_ 1 _ rfl; (with_reducible repeat (first | refine blk_drewN ?_ _ | refine blk_drew ?_ | refine blk_alloc ?_ _)); refine blk_put (cs := #[.int .i64 0, .int .i64 0]) ?_ 0 _ rfl; (with_reducible repeat (first | refine blk_drewN ?_ _ | refine blk_drew ?_ | refine blk_alloc ?_ _)); exact BK310.out) hb); have n2_ := Aside0.mk (below_step (belS HB.out) hb); clear HO305; clear BK310; clear HB; have HO305 := n0_; have BK310 := n1_; have HB := n2_; clear n0_ n1_ n2_; (try clear hb); (try clear hk)) | ((with_reducible refine gate_dst (N := 5) rfl ?_); refine box_event ?hg (N := 5) ?hd (cs := #[.int .i64 0, .int .i64 0]) (t := 24) ?hr ?_; (case hd => rfl); (case hg => rfl); (case hr => first | (go_simp; done) | (go_simp; rfl)); intro gb315 hg w36 hbox hb; have n0_ := Aside0.mk (Kd.R_below (rowN HO305.out) hb); have n1_ := Aside0.mk (bkB BK310.out hb); have n2_ := Aside0.mk (below_step (belS HB.out) hb); have n3_ := Aside0.mk (hbox); have n4_ := Aside0.mk (szB hg HB.out); have n5_ := Aside0.mk (szB hg HB.out); have n6_ := Aside0.mk ((bk1 hg BK310.out)); have n7_ := Aside0.mk ((bk2 hg BK310.out)); clear HO305; clear BK310; clear HB; have HO305 := n0_; have BK310 := n1_; have HB := n2_; have BK315 := n3_; have GW315 := n4_; have GE315 := n5_; have NB310_315 := n6_; have NB315_310 := n7_; clear n0_ n1_ n2_ n3_ n4_ n5_ n6_ n7_; clear hb hbox hg; have hnb37 := NB315_310.out; have hnc37 := NB310_315.out; have hcz38_0 : w36.cell? ⟨gb315, 0, none⟩ = some (.int .i64 0) := (blk_cell BK315.out 0).trans rfl; have hcz38_1 : w36.cell? ⟨gb315, 1, none⟩ = some (.int .i64 0) := (blk_cell BK315.out 1).trans rfl; have hfz38_0 := blk_frozen BK315.out 0; have hfz38_1 := blk_frozen BK315.out 1; have hcz39_0 : w36.cell? ⟨gb310, 0, none⟩ = some (.int .i64 t306) := (blk_cell BK310.out 0).trans rfl; have hcz39_1 : w36.cell? ⟨gb310, 1, none⟩ = some (.int .i64 t307) := (blk_cell BK310.out 1).trans rfl; have hfz39_0 := blk_frozen BK310.out 0; have hfz39_1 := blk_frozen BK310.out 1))
    go_ret
    exact ⟨by first | rfl | (simp [errW_none, errW_some] <;> rfl) | (simp [*, errW_none, errW_some] <;> rfl), (belS HB.out)⟩
  ·rw [if_neg c4] at H
   have c4b0 : (t309 == 0) = false := beq_eq_false_iff_ne.mpr c4
   have c4b1 : (t309 != 0) = true := bne_iff_ne.mpr c4
   obtain rfl := Option.some.inj H
   go_enter Try.func10, Try.ntmps10
   go_wp2_with (first | ((with_reducible refine gate_dst (N := 12) rfl ?_); refine Kd.R_lit k26 _ 26 ?hg (N := 12) ?hd (xs := ([(⟨0, (⟨0, 1⟩ : S24)⟩ : S26), (⟨10, (⟨5, 1⟩ : S24)⟩ : S26)] : List (S26))) (inner := [.int .i64 0, .int .i64 0, .int .i64 1, .int .i64 10, .int .i64 5, .int .i64 1]) (ok := fun _ => True) (okp := fun _ => True) ?hr ?hp (fun _ hk => hk) trivial (Below.refl _ _) (Nat.le_refl _) (by simp) ?_; (case hd => rfl); (case hg => rfl); (case hr => first | (go_simp; done) | (go_simp; rfl)); (case hp => exact (Reps.c3 (show Kd.M k26 _ _ _ (⟨0, (⟨0, 1⟩ : S24)⟩ : S26) [.int .i64 0, .int .i64 0, .int .i64 1] from (k26_mkM _ _ _ (⟨0, (⟨0, 1⟩ : S24)⟩ : S26) )) (Reps.c3 (show Kd.M k26 _ _ _ (⟨10, (⟨5, 1⟩ : S24)⟩ : S26) [.int .i64 10, .int .i64 5, .int .i64 1] from (k26_mkM _ _ _ (⟨10, (⟨5, 1⟩ : S24)⟩ : S26) )) (Reps.none _ _)))); intro v304 w40 ho41 hb hg_ hnew_; clear hg_ hnew_; (first | rw [← Ny303.out] at ho41 | (simp only [Int.reduceToNat] at ho41; rw [← Ny303.out] at ho41)); have n0_ := Aside0.mk (Kd.R_lower ho41 (below_size (belN HB.out))); have n1_ := Aside0.mk (below_step (belN HB.out) hb); clear HB; have HO305 := n0_; have HB := n1_; clear n0_ n1_; clear hb ho41; obtain ⟨Ao42, co42, eo42⟩ := Kd.R_slice HO305.out; subst eo42) | ((with_reducible refine gate_callee (f := 17) rfl ?_); refine goesL_ (some 15) rfl rfl Try.func17 (by kernel_rfl) rfl #[.slice Ao42 y303.length co42, .int .i64 4] rfl argN ?_; (with_reducible refine (lerp_At.calls k _ _ y303 4 t306 t307 true t309 _ ?side1 ?side2 A1.out).mono ?_); (case side1 => repeat (first | exact (Kd.R_reads' HO305.out).2.2 | (with_reducible refine Kd.C_alloc ?_ _) | (with_reducible refine Kd.C_drewN ?_ _) | (with_reducible refine Kd.C_drew ?_))); (case side2 => exact (Kd.R_reads' HO305.out).2.1); rintro e w43 ⟨rfl, hb⟩; refine ⟨_, rfl, ?_⟩; have n0_ := Aside0.mk (Kd.R_below (rowN HO305.out) hb); have n1_ := Aside0.mk (below_step (belN HB.out) hb); clear HO305; clear HB; have HO305 := n0_; have HB := n1_; clear n0_ n1_; (try clear hb); (try clear hk)) | ((with_reducible refine gate_dst (N := 2) rfl ?_); refine box_event ?hg (N := 2) ?hd (cs := #[.int .i64 0, .int .i64 0]) (t := 24) ?hr ?_; (case hd => rfl); (case hg => rfl); (case hr => first | (go_simp; done) | (go_simp; rfl)); intro gb310 hg w44 hbox hb; have n0_ := Aside0.mk (Kd.R_below (rowN HO305.out) hb); have n1_ := Aside0.mk (below_step (belN HB.out) hb); have n2_ := Aside0.mk (hbox); have n3_ := Aside0.mk (szB hg HB.out); have n4_ := Aside0.mk (szB hg HB.out); clear HO305; clear HB; have HO305 := n0_; have HB := n1_; have BK310 := n2_; have GW310 := n3_; have GE310 := n4_; clear n0_ n1_ n2_ n3_ n4_; clear hb hbox hg; have hcz45_0 : w44.cell? ⟨gb310, 0, none⟩ = some (.int .i64 0) := (blk_cell BK310.out 0).trans rfl; have hcz45_1 : w44.cell? ⟨gb310, 1, none⟩ = some (.int .i64 0) := (blk_cell BK310.out 1).trans rfl; have hfz45_0 := blk_frozen BK310.out 0; have hfz45_1 := blk_frozen BK310.out 1) | ((with_reducible refine gate_callee (f := 17) rfl ?_); refine goesL_ (some 20) rfl rfl Try.func17 (by kernel_rfl) rfl #[.slice none 0 0, .int .i64 4] rfl argN ?_; (refine (lerp_At.calls k _ _ ([] : List (S26)) 4 t311 t312 t313 t314 _ ?side1 ?side2 A2.out).mono ?_); (case side1 => exact Kd.C_nil _ _); (case side2 => exact Nat.le_refl _); rintro e w46 ⟨rfl, hb⟩; refine ⟨_, rfl, ?_⟩; have n0_ := Aside0.mk (Kd.R_below (by (with_reducible repeat (first | apply Kd.R_alloc | apply Kd.R_drewN | apply Kd.R_drew)); exact (Kd.R_mono (Kd.R_far (p := ⟨gb310, 1, none⟩) (Kd.R_far (p := ⟨gb310, 0, none⟩) (Kd.R_types HO305.out BK310.out (by decide)) (fun _ hk => hk.2) (.int .i64 t306)) (fun _ hk => hk.2) (.int .i64 t307)) (fun _ h_ => h_.1))) hb); have n1_ := Aside0.mk (blk_below (g := gb310) (o := .cells #[.int .i64 t306, .int .i64 t307] 24 (0, 0)) (by (with_reducible repeat (first | refine blk_drewN ?_ _ | refine blk_drew ?_ | refine blk_alloc ?_ _)); refine blk_put (cs := #[.int .i64 t306, .int .i64 0]) ?_ 1 _ rfl; (with_reducible repeat (first | refine blk_drewN ?_ _ | refine blk_drew ?_ | refine blk_alloc ?_ _)); refine blk_put (cs := #[.int .i64 0, .int .i64 0]) ?_ 0 _ rfl; (with_reducible repeat (first | refine blk_drewN ?_ _ | refine blk_drew ?_ | refine blk_alloc ?_ _)); exact BK310.out) hb); have n2_ := Aside0.mk (below_step (belS HB.out) hb); clear HO305; clear BK310; clear HB; have HO305 := n0_; have BK310 := n1_; have HB := n2_; clear n0_ n1_ n2_; (try clear hb); (try clear hk)) | ((with_reducible refine gate_dst (N := 5) rfl ?_); refine box_event ?hg (N := 5) ?hd (cs := #[.int .i64 0, .int .i64 0]) (t := 24) ?hr ?_; (case hd => rfl); (case hg => rfl); (case hr => first | (go_simp; done) | (go_simp; rfl)); intro gb315 hg w47 hbox hb; have n0_ := Aside0.mk (Kd.R_below (rowN HO305.out) hb); have n1_ := Aside0.mk (bkB BK310.out hb); have n2_ := Aside0.mk (below_step (belS HB.out) hb); have n3_ := Aside0.mk (hbox); have n4_ := Aside0.mk (szB hg HB.out); have n5_ := Aside0.mk (szB hg HB.out); have n6_ := Aside0.mk ((bk1 hg BK310.out)); have n7_ := Aside0.mk ((bk2 hg BK310.out)); clear HO305; clear BK310; clear HB; have HO305 := n0_; have BK310 := n1_; have HB := n2_; have BK315 := n3_; have GW315 := n4_; have GE315 := n5_; have NB310_315 := n6_; have NB315_310 := n7_; clear n0_ n1_ n2_ n3_ n4_ n5_ n6_ n7_; clear hb hbox hg; have hnb48 := NB315_310.out; have hnc48 := NB310_315.out; have hcz49_0 : w47.cell? ⟨gb315, 0, none⟩ = some (.int .i64 0) := (blk_cell BK315.out 0).trans rfl; have hcz49_1 : w47.cell? ⟨gb315, 1, none⟩ = some (.int .i64 0) := (blk_cell BK315.out 1).trans rfl; have hfz49_0 := blk_frozen BK315.out 0; have hfz49_1 := blk_frozen BK315.out 1))
   go_ret
   exact ⟨by first | rfl | (simp [errW_none, errW_some] <;> rfl) | (simp [*, errW_none, errW_some] <;> rfl), (belS HB.out)⟩
 ·replace c3 := Bool.eq_false_iff.mpr c3
  subst c3
  have H1 : (some false) = some r := by rw [if_neg (show ¬ (false = true) by decide)] at H; exact H
  clear H
  have H := H1
  clear H1
  obtain rfl := Option.some.inj H
  go_enter Try.func10, Try.ntmps10
  go_wp2_with (first | ((with_reducible refine gate_dst (N := 12) rfl ?_); refine Kd.R_lit k26 _ 26 ?hg (N := 12) ?hd (xs := ([(⟨0, (⟨0, 1⟩ : S24)⟩ : S26), (⟨10, (⟨5, 1⟩ : S24)⟩ : S26)] : List (S26))) (inner := [.int .i64 0, .int .i64 0, .int .i64 1, .int .i64 10, .int .i64 5, .int .i64 1]) (ok := fun _ => True) (okp := fun _ => True) ?hr ?hp (fun _ hk => hk) trivial (Below.refl _ _) (Nat.le_refl _) (by simp) ?_; (case hd => rfl); (case hg => rfl); (case hr => first | (go_simp; done) | (go_simp; rfl)); (case hp => exact (Reps.c3 (show Kd.M k26 _ _ _ (⟨0, (⟨0, 1⟩ : S24)⟩ : S26) [.int .i64 0, .int .i64 0, .int .i64 1] from (k26_mkM _ _ _ (⟨0, (⟨0, 1⟩ : S24)⟩ : S26) )) (Reps.c3 (show Kd.M k26 _ _ _ (⟨10, (⟨5, 1⟩ : S24)⟩ : S26) [.int .i64 10, .int .i64 5, .int .i64 1] from (k26_mkM _ _ _ (⟨10, (⟨5, 1⟩ : S24)⟩ : S26) )) (Reps.none _ _)))); intro v304 w50 ho51 hb hg_ hnew_; clear hg_ hnew_; (first | rw [← Ny303.out] at ho51 | (simp only [Int.reduceToNat] at ho51; rw [← Ny303.out] at ho51)); have n0_ := Aside0.mk (Kd.R_lower ho51 (below_size (belN HB.out))); have n1_ := Aside0.mk (below_step (belN HB.out) hb); clear HB; have HO305 := n0_; have HB := n1_; clear n0_ n1_; clear hb ho51; obtain ⟨Ao52, co52, eo52⟩ := Kd.R_slice HO305.out; subst eo52) | ((with_reducible refine gate_callee (f := 17) rfl ?_); refine goesL_ (some 15) rfl rfl Try.func17 (by kernel_rfl) rfl #[.slice Ao52 y303.length co52, .int .i64 4] rfl argN ?_; (with_reducible refine (lerp_At.calls k _ _ y303 4 t306 t307 false t309 _ ?side1 ?side2 A1.out).mono ?_); (case side1 => repeat (first | exact (Kd.R_reads' HO305.out).2.2 | (with_reducible refine Kd.C_alloc ?_ _) | (with_reducible refine Kd.C_drewN ?_ _) | (with_reducible refine Kd.C_drew ?_))); (case side2 => exact (Kd.R_reads' HO305.out).2.1); rintro e w53 ⟨rfl, hb⟩; refine ⟨_, rfl, ?_⟩; have n0_ := Aside0.mk (Kd.R_below (rowN HO305.out) hb); have n1_ := Aside0.mk (below_step (belN HB.out) hb); clear HO305; clear HB; have HO305 := n0_; have HB := n1_; clear n0_ n1_; (try clear hb); (try clear hk)) | ((with_reducible refine gate_dst (N := 2) rfl ?_); refine box_event ?hg (N := 2) ?hd (cs := #[.int .i64 0, .int .i64 0]) (t := 24) ?hr ?_; (case hd => rfl); (case hg => rfl); (case hr => first | (go_simp; done) | (go_simp; rfl)); intro gb310 hg w54 hbox hb; have n0_ := Aside0.mk (Kd.R_below (rowN HO305.out) hb); have n1_ := Aside0.mk (below_step (belN HB.out) hb); have n2_ := Aside0.mk (hbox); have n3_ := Aside0.mk (szB hg HB.out); have n4_ := Aside0.mk (szB hg HB.out); clear HO305; clear HB; have HO305 := n0_; have HB := n1_; have BK310 := n2_; have GW310 := n3_; have GE310 := n4_; clear n0_ n1_ n2_ n3_ n4_; clear hb hbox hg; have hcz55_0 : w54.cell? ⟨gb310, 0, none⟩ = some (.int .i64 0) := (blk_cell BK310.out 0).trans rfl; have hcz55_1 : w54.cell? ⟨gb310, 1, none⟩ = some (.int .i64 0) := (blk_cell BK310.out 1).trans rfl; have hfz55_0 := blk_frozen BK310.out 0; have hfz55_1 := blk_frozen BK310.out 1) | ((with_reducible refine gate_callee (f := 17) rfl ?_); refine goesL_ (some 20) rfl rfl Try.func17 (by kernel_rfl) rfl #[.slice none 0 0, .int .i64 4] rfl argN ?_; (refine (lerp_At.calls k _ _ ([] : List (S26)) 4 t311 t312 t313 t314 _ ?side1 ?side2 A2.out).mono ?_); (case side1 => exact Kd.C_nil _ _); (case side2 => exact Nat.le_refl _); rintro e w56 ⟨rfl, hb⟩; refine ⟨_, rfl, ?_⟩; have n0_ := Aside0.mk (Kd.R_below (by (with_reducible repeat (first | apply Kd.R_alloc | apply Kd.R_drewN | apply Kd.R_drew)); exact (Kd.R_mono (Kd.R_far (p := ⟨gb310, 1, none⟩) (Kd.R_far (p := ⟨gb310, 0, none⟩) (Kd.R_types HO305.out BK310.out (by decide)) (fun _ hk => hk.2) (.int .i64 t306)) (fun _ hk => hk.2) (.int .i64 t307)) (fun _ h_ => h_.1))) hb); have n1_ := Aside0.mk (blk_below (g := gb310) (o := .cells #[.int .i64 t306, .int .i64 t307] 24 (0, 0)) (by (with_reducible repeat (first | refine blk_drewN ?_ _ | refine blk_drew ?_ | refine blk_alloc ?_ _)); refine blk_put (cs := #[.int .i64 t306, .int .i64 0]) ?_ 1 _ rfl; (with_reducible repeat (first | refine blk_drewN ?_ _ | refine blk_drew ?_ | refine blk_alloc ?_ _)); refine blk_put (cs := #[.int .i64 0, .int .i64 0]) ?_ 0 _ rfl; (with_reducible repeat (first | refine blk_drewN ?_ _ | refine blk_drew ?_ | refine blk_alloc ?_ _)); exact BK310.out) hb); have n2_ := Aside0.mk (below_step (belS HB.out) hb); clear HO305; clear BK310; clear HB; have HO305 := n0_; have BK310 := n1_; have HB := n2_; clear n0_ n1_ n2_; (try clear hb); (try clear hk)) | ((with_reducible refine gate_dst (N := 5) rfl ?_); refine box_event ?hg (N := 5) ?hd (cs := #[.int .i64 0, .int .i64 0]) (t := 24) ?hr ?_; (case hd => rfl); (case hg => rfl); (case hr => first | (go_simp; done) | (go_simp; rfl)); intro gb315 hg w57 hbox hb; have n0_ := Aside0.mk (Kd.R_below (rowN HO305.out) hb); have n1_ := Aside0.mk (bkB BK310.out hb); have n2_ := Aside0.mk (below_step (belS HB.out) hb); have n3_ := Aside0.mk (hbox); have n4_ := Aside0.mk (szB hg HB.out); have n5_ := Aside0.mk (szB hg HB.out); have n6_ := Aside0.mk ((bk1 hg BK310.out)); have n7_ := Aside0.mk ((bk2 hg BK310.out)); clear HO305; clear BK310; clear HB; have HO305 := n0_; have BK310 := n1_; have HB := n2_; have BK315 := n3_; have GW315 := n4_; have GE315 := n5_; have NB310_315 := n6_; have NB315_310 := n7_; clear n0_ n1_ n2_ n3_ n4_ n5_ n6_ n7_; clear hb hbox hg; have hnb58 := NB315_310.out; have hnc58 := NB310_315.out; have hcz59_0 : w57.cell? ⟨gb315, 0, none⟩ = some (.int .i64 0) := (blk_cell BK315.out 0).trans rfl; have hcz59_1 : w57.cell? ⟨gb315, 1, none⟩ = some (.int .i64 0) := (blk_cell BK315.out 1).trans rfl; have hfz59_0 := blk_frozen BK315.out 0; have hfz59_1 := blk_frozen BK315.out 1))
  go_ret
  exact ⟨by first | rfl | (simp [errW_none, errW_some] <;> rfl) | (simp [*, errW_none, errW_some] <;> rfl), (belS HB.out)⟩

-- NOT PRINTED: function 3 (marigraphlaw22_LerpTells)

end Go.Proofs.Ytlmcnlaopolinaa.PLerpTells

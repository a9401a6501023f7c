/- The walk of the Go functions that a law reaches, told as plain functions; a program of this session has written it. No condition beyond the statement's own. -/
import Derived.Test.YtlmhgjnlbokceaaPDownTellsx0
import Derived.Test.YtlmhgjnlbokceaaPDownTellsx3
import Derived.Test.YtlmhgjnlbokceaaPDownTellsx4
namespace Go.Proofs.Ytlmhgjnlbokceaa.PDownTells
open Go.RowKit Go.Proofs.YtlmhgjnlbokceaaW.PrintWords Go.Proofs.YtlmhgjnlbokceaaW.PrintLast Go.Proofs.YtlmhgjnlbokceaaW.PrintMore
attribute [local go_sem] max2_int min2_int max_two min_two max_three min_three max_four min_four   -- for this text's walks alone
set_option linter.unusedVariables false
set_option linter.unusedSimpArgs false

/-! ### down_Right: function 19 -/
def down_Right.l0 : Nat → List (S31) → List (S31) → Int → Int → Option (Bool)
 | 0, _, _, _, _ => none
 | k + 1, x0, x5, x6, x7 => if x7 < x6 then (if 0 ≤ x7 then (if x7 < (x5.length : Int) then (if ((rd_T31 x5 x7).f0) < 0 then (some false) else (if ((rd_T31 x5 x7).f0) > 4294967295 then (some false) else ((rat_Right.f k ((rd_T31 x5 x7).f1.f0) ((rd_T31 x5 x7).f1.f1)).bind fun t131 => (if t131 = true then (if x7 > 0 then (if 0 ≤ (wrap64 (x7 - 1)) then (if (wrap64 (x7 - 1)) < (x0.length : Int) then (if ((rd_T31 x0 (wrap64 (x7 - 1))).f0) ≥ ((rd_T31 x5 x7).f0) then (some false) else (down_Right.l0 k x0 x5 x6 (wrap64 (x7 + 1)))) else (none)) else (none)) else (down_Right.l0 k x0 x5 x6 (wrap64 (x7 + 1)))) else (some false))))) else (none)) else (none)) else (some true)
def down_Right.f (k : Nat) (l0 : List (S31)) : Option (Bool) := down_Right.l0 k l0 l0 (l0.length : Int) 0
theorem down_Right.mono_l : ∀ k, (∀ y0 y1 y2 y3, LeO (down_Right.l0 k y0 y1 y2 y3) (down_Right.l0 (k + 1) y0 y1 y2 y3))
 | 0 => fun _ _ _ _ r h => by simp [down_Right.l0] at h
 | k + 1 => by
  have ih0 := down_Right.mono_l k
  ·intro y0 y1 y2 y3
   unfold down_Right.l0
   repeat' first
   | (with_reducible exact ih0 _ _ _ _)
   | (with_reducible exact rat_Right.mono _ _ _)
   | (with_reducible exact LeO.refl _)
   | (with_reducible exact LeO.none _)
   | (with_reducible refine LeO.ite ?_ ?_)
   | (with_reducible refine LeO.bind ?_ (fun _ => ?_))
   | exact ih0 _ _ _ _
   | exact rat_Right.mono _ _ _
   | exact LeO.none _
   | refine LeO.ite ?_ ?_
   | refine LeO.bind ?_ (fun _ => ?_)
theorem down_Right.mono : ∀ a0 k, LeO (down_Right.f k a0) (down_Right.f (k + 1) a0) := by
 intro a0 k
 have ih0 := down_Right.mono_l k
 unfold down_Right.f
 repeat' first
   | (with_reducible exact ih0 _ _ _ _)
   | (with_reducible exact rat_Right.mono _ _ _)
   | (with_reducible exact LeO.refl _)
   | (with_reducible exact LeO.none _)
   | (with_reducible refine LeO.ite ?_ ?_)
   | (with_reducible refine LeO.bind ?_ (fun _ => ?_))
   | exact ih0 _ _ _ _
   | exact rat_Right.mono _ _ _
   | exact LeO.none _
   | refine LeO.ite ?_ ?_
   | refine LeO.bind ?_ (fun _ => ?_)
def down_Right.T4 : Bool × List (List Nat × List Nat) := (true, [([], []), ([0], [0]), ([1], [1]), ([2], [2]), ([3], [3]), ([4, 3], [3, 4]), ([5, 3], [3, 5]), ([3, 6], [3, 6]), ([7, 3], [7]), ([8], [8]), ([9, 8], [8, 9]), ([10, 8, 8], [8, 10]), ([11, 8], [8, 11]), ([8, 12], [8, 12]), ([13, 11], [13]), ([14], [14]), ([15, 14], [14, 15]), ([16, 14, 14], [14, 16]), ([17], [17]), ([17], [17]), ([19, 17], [17, 19]), ([18, 20, 17], [17, 18, 20]), ([21, 17], [17, 21]), ([22, 17], [17, 22]), ([17], [17]), ([24, 17], [17, 24]), ([23, 25, 17], [17, 23, 25]), ([17, 26, 14], [14, 17, 26]), ([14, 27], [14, 27])])
def down_Right.B4 : List Nat := [0, 1, 3, 7, 15, 31, 63, 127, 255, 511, 1023, 2047, 4095, 8191, 16383, 32767, 65535, 131071, 262143, 262143, 786431, 2097151, 4194303, 8388607, 262143, 17039359, 67108863, 134217727, 268435455]
theorem down_Right.tab4 : rtab .any (opsOf Try.f19 4) = down_Right.T4 := by kernel_rfl
theorem down_Right.bits4 : waitsOk down_Right.T4.2 down_Right.B4 = true := by kernel_rfl
set_option maxHeartbeats 8000000 in
set_option maxRecDepth 100000 in
theorem down_Right.calls (k : Nat) (A0 : Option Addr) (c0 : Nat) (l0 : List (S31)) (r : Bool) (w : World) (hr0 : Kd.C k31 w A0 l0.length l0) (hc0 : l0.length ≤ c0) (h : down_Right.f k l0 = some r) :
  Calls Try.prog 19 #[.slice A0 l0.length c0] w fun e w' => e = .returned (.bool r) ∧ Below w.heap.size w w' := by
 have hu31 := Try.underlying31
 have hu29 := Try.underlying29
 have HR0 := Aside0.mk hr0
 have HC0 := Aside0.mk hc0
 clear hr0 hc0
 have HB := Aside0.mk (Below.refl w.heap.size w)
 have H : (down_Right.l0 k l0 l0 (l0.length : Int) 0) = some r := h
 clear h
 have H' := Aside0.mk H
 clear H
 go_enter Try.func19, Try.ntmps19
 go_wp2
 go_loopg [7] k (fun kq v7 w' => ∃ (x7_1 : Int), v7 = .int .i64 x7_1 ∧ Aside0 (down_Right.l0 kq l0 l0 (l0.length : Int) x7_1 = some r) ∧ Aside0 (kq ≤ k) ∧ Aside0 (Below w.heap.size w w'))
 case atStart => exact ⟨(0), (by first | rfl | (simp; done) | (simp [*]; done)), H', ⟨Nat.le_refl _⟩, ⟨(belN HB.out)⟩⟩
 case round =>
  clear H'
  try clear c1
  obtain ⟨x7_1, rfl, HA, HK1, HB⟩ := hrel
  cases gk with
  | zero => exact absurd HA.out (by simp [down_Right.l0])
  | succ k1 =>
   have H := HA.out
   clear HA
   simp only [down_Right.l0] at H
   by_cases c2 : x7_1 < (l0.length : Int)
   ·rw [if_pos c2] at H
    have c2b0 : decide (x7_1 < (l0.length : Int)) = true := decide_eq_true c2
    clear c2
    by_cases c3 : 0 ≤ x7_1
    ·rw [if_pos c3] at H
     have c3b0 : decide (0 ≤ x7_1) = true := decide_eq_true c3
     clear c3
     by_cases c4 : x7_1 < (l0.length : Int)
     ·rw [if_pos c4] at H
      have c4b0 : decide (x7_1 < (l0.length : Int)) = true := decide_eq_true c4
      clear c4
      by_cases c5 : ((rd_T31 l0 x7_1).f0) < 0
      ·rw [if_pos c5] at H
       have c5b0 : decide (((rd_T31 l0 x7_1).f0) < 0) = true := decide_eq_true c5
       clear c5
       obtain rfl := Option.some.inj H
       have p129 : 0 ≤ (x7_1 : Int) := of_decide_eq_true (by first | (with_reducible assumption) | assumption)
       have q129 : x7_1 < (l0.length : Int) := of_decide_eq_true (by first | (with_reducible assumption) | assumption)
       obtain ⟨ad129, e129, hx129_0, hx129_1, hx129_2⟩ := at_T31 HR0.out x7_1 p129 q129
       cases e129
       replace hx129_0 := cellB HB.out hx129_0
       replace hx129_1 := cellB HB.out hx129_1
       replace hx129_2 := cellB HB.out hx129_2
       replace p129 := eq_true p129
       replace q129 := eq_true q129
       try go_wp2_with (first | ((with_reducible refine gate_dst (N := 4) rfl ?_); refine box_event ?hg (N := 4) ?hd (cs := #[.int .i64 0, .int .i64 0, .int .i64 0]) (t := 31) ?hr ?_; (case hd => rfl); (case hg => rfl); (case hr => first | (go_simp; done) | (go_simp; rfl)); intro gb130 hg w6 hbox hb; have n0_ := Aside0.mk (below_step (belN HB.out) hb); have n1_ := Aside0.mk (hbox); have n2_ := Aside0.mk (szB hg HB.out); have n3_ := Aside0.mk (szB hg HB.out); clear HB; have HB := n0_; have BK130 := n1_; have GW130 := n2_; have GE130 := n3_; clear n0_ n1_ n2_ n3_; clear hb hbox hg; have hcz7_0 : w6.cell? ⟨gb130, 0, none⟩ = some (.int .i64 0) := (blk_cell BK130.out 0).trans rfl; have hcz7_1 : w6.cell? ⟨gb130, 1, none⟩ = some (.int .i64 0) := (blk_cell BK130.out 1).trans rfl; have hcz7_2 : w6.cell? ⟨gb130, 2, none⟩ = some (.int .i64 0) := (blk_cell BK130.out 2).trans rfl; have hfz7_0 := blk_frozen BK130.out 0; have hfz7_1 := blk_frozen BK130.out 1; have hfz7_2 := blk_frozen BK130.out 2))
       have n0_ : Aside0 ((((w6.setCell ⟨gb130, 0, none⟩ (.int .i64 ((rd_T31 l0 x7_1).f0))).setCell ⟨gb130, 1, none⟩ (.int .i64 ((rd_T31 l0 x7_1).f1.f0))).setCell ⟨gb130, 2, none⟩ (.int .i64 ((rd_T31 l0 x7_1).f1.f1))).heap[gb130]? = some (.cells #[.int .i64 ((rd_T31 l0 x7_1).f0), .int .i64 ((rd_T31 l0 x7_1).f1.f0), .int .i64 ((rd_T31 l0 x7_1).f1.f1)] 31 (0, 0))) := ⟨by (with_reducible repeat (first | refine blk_drewN ?_ _ | refine blk_drew ?_ | refine blk_alloc ?_ _)); refine blk_put (cs := #[.int .i64 ((rd_T31 l0 x7_1).f0), .int .i64 ((rd_T31 l0 x7_1).f1.f0), .int .i64 0]) ?_ 2 _ rfl; (with_reducible repeat (first | refine blk_drewN ?_ _ | refine blk_drew ?_ | refine blk_alloc ?_ _)); refine blk_put (cs := #[.int .i64 ((rd_T31 l0 x7_1).f0), .int .i64 0, .int .i64 0]) ?_ 1 _ rfl; (with_reducible repeat (first | refine blk_drewN ?_ _ | refine blk_drew ?_ | refine blk_alloc ?_ _)); refine blk_put (cs := #[.int .i64 0, .int .i64 0, .int .i64 0]) ?_ 0 _ rfl; (with_reducible repeat (first | refine blk_drewN ?_ _ | refine blk_drew ?_ | refine blk_alloc ?_ _)); exact BK130.out⟩
       have n1_ : Aside0 (Below w.heap.size w (((w6.setCell ⟨gb130, 0, none⟩ (.int .i64 ((rd_T31 l0 x7_1).f0))).setCell ⟨gb130, 1, none⟩ (.int .i64 ((rd_T31 l0 x7_1).f1.f0))).setCell ⟨gb130, 2, none⟩ (.int .i64 ((rd_T31 l0 x7_1).f1.f1)))) := ⟨(belS HB.out)⟩
       (try clear BK130)
       (try clear HB)
       generalize (((w6.setCell ⟨gb130, 0, none⟩ (.int .i64 ((rd_T31 l0 x7_1).f0))).setCell ⟨gb130, 1, none⟩ (.int .i64 ((rd_T31 l0 x7_1).f1.f0))).setCell ⟨gb130, 2, none⟩ (.int .i64 ((rd_T31 l0 x7_1).f1.f1))) = w8 at n0_ n1_ ⊢
       have BK130 := n0_
       have HB := n1_
       clear n0_ n1_
       have n0_ := Aside0.mk (blk_drew BK130.out)
       have n1_ := Aside0.mk (below_drew1 HB.out)
       clear BK130
       clear HB
       have BK130 := n0_
       have HB := n1_
       clear n0_ n1_
       refine start_ (n := 29) (S := fun w' => w'.cell? ⟨gb130, 0, none⟩ = some (.int .i64 ((rd_T31 l0 x7_1).f0)) ∧ w'.cell? ⟨gb130, 1, none⟩ = some (.int .i64 ((rd_T31 l0 x7_1).f1.f0)) ∧ w'.cell? ⟨gb130, 2, none⟩ = some (.int .i64 ((rd_T31 l0 x7_1).f1.f1))) (ds := []) #[false, false, false, false, false, false, false, false, false, false, false, false, false, false, false, false, false, false, false, false, false, false, false, false, false, false, false, false, false] (by kernel_rfl) rfl rfl ⟨(blk_cell BK130.out 0).trans rfl, (blk_cell BK130.out 1).trans rfl, (blk_cell BK130.out 2).trans rfl⟩ (fun hHeld => ?_); refine with_tabW down_Right.tab4 down_Right.bits4 (fun HT_ HW_ => ?_)
       generalize w8.drew = w9 at BK130 HB hHeld ⊢
       refine pA 0 (some 12) (bA 29 1) HT_.out ?_
       refine take_ (i := 1) (N := some 13) (v := ?_) (a' := ?_) (bA 29 3) rfl rfl (take_ofW HT_.out HW_.out (by kernel_rfl)) (fun _ _ _ h => h) (Or.inl ⟨by rfl, ?_⟩) hHeld ?_ ?_
       rotate_left
       ·rintro w' ⟨s0, s1, s2⟩
        go_simp
        with_reducible rfl
       rotate_left
       ·simp only [Act.put, List.setIfInBounds_toArray, List.set_cons_zero, List.set_cons_succ, i64_w, i32_w]
        rfl
       refine pA 2 (some 14) (bA 29 7) HT_.out ?_
       refine pA 3 (some 15) (bA 29 15) HT_.out ?_
       refine pU 4 (some 16) (bA 29 31) HT_.out ?_
       refine pU 5 (some 17) (bA 29 63) HT_.out ?_
       refine pU 6 (some 18) (bA 29 127) HT_.out ?_
       refine pA 7 (some 19) (bA 29 255) HT_.out ?_
       refine pA 8 (some 20) (bA 29 511) HT_.out ?_
       refine pU 9 (some 21) (bA 29 1023) HT_.out ?_
       refine pU 10 (some 22) (bA 29 2047) HT_.out ?_
       refine pU 11 (some 23) (bA 29 4095) HT_.out ?_
       refine pU 12 (some 24) (bA 29 8191) HT_.out ?_
       refine pA 13 (some 25) (bA 29 16383) HT_.out ?_
       refine pA 14 (some 26) (bA 29 32767) HT_.out ?_
       refine pU 15 (some 27) (bA 29 65535) HT_.out ?_
       refine pU 16 (some 28) (bA 29 131071) HT_.out ?_
       refine pU 17 (some 29) (bA 29 262143) HT_.out ?_
       refine pU 18 (some 30) (bA 29 524287) HT_.out ?_
       refine pU 19 (some 31) (bA 29 1048575) HT_.out ?_
       refine pU 20 (some 32) (bA 29 2097151) HT_.out ?_
       refine pU 21 (some 33) (bA 29 4194303) HT_.out ?_
       refine pU 22 (some 34) (bA 29 8388607) HT_.out ?_
       refine pU 23 (some 35) (bA 29 16777215) HT_.out ?_
       refine pU 24 (some 36) (bA 29 33554431) HT_.out ?_
       refine pU 25 (some 37) (bA 29 67108863) HT_.out ?_
       refine pU 26 (some 38) (bA 29 134217727) HT_.out ?_
       refine pU 27 (some 39) (bA 29 268435455) HT_.out ?_
       refine pA 28 (some 40) (bA 29 536870911) HT_.out ?_
       refine done_ (done_of HT_.out (by kernel_rfl)) ?_
       try go_wp2
       go_ret
       exact ⟨by first | rfl | (simp [errW_none, errW_some] <;> rfl) | (simp [*, errW_none, errW_some] <;> rfl), (belS HB.out)⟩
      ·rw [if_neg c5] at H
       have c5b0 : decide (((rd_T31 l0 x7_1).f0) < 0) = false := decide_eq_false c5
       clear c5
       by_cases c10 : ((rd_T31 l0 x7_1).f0) > 4294967295
       ·rw [if_pos c10] at H
        have c10b0 : decide (4294967295 < ((rd_T31 l0 x7_1).f0)) = true := decide_eq_true c10
        clear c10
        obtain rfl := Option.some.inj H
        have p129 : 0 ≤ (x7_1 : Int) := of_decide_eq_true (by first | (with_reducible assumption) | assumption)
        have q129 : x7_1 < (l0.length : Int) := of_decide_eq_true (by first | (with_reducible assumption) | assumption)
        obtain ⟨ad129, e129, hx129_0, hx129_1, hx129_2⟩ := at_T31 HR0.out x7_1 p129 q129
        cases e129
        replace hx129_0 := cellB HB.out hx129_0
        replace hx129_1 := cellB HB.out hx129_1
        replace hx129_2 := cellB HB.out hx129_2
        replace p129 := eq_true p129
        replace q129 := eq_true q129
        try go_wp2_with (first | ((with_reducible refine gate_dst (N := 4) rfl ?_); refine box_event ?hg (N := 4) ?hd (cs := #[.int .i64 0, .int .i64 0, .int .i64 0]) (t := 31) ?hr ?_; (case hd => rfl); (case hg => rfl); (case hr => first | (go_simp; done) | (go_simp; rfl)); intro gb130 hg w11 hbox hb; have n0_ := Aside0.mk (below_step (belN HB.out) hb); have n1_ := Aside0.mk (hbox); have n2_ := Aside0.mk (szB hg HB.out); have n3_ := Aside0.mk (szB hg HB.out); clear HB; have HB := n0_; have BK130 := n1_; have GW130 := n2_; have GE130 := n3_; clear n0_ n1_ n2_ n3_; clear hb hbox hg; have hcz12_0 : w11.cell? ⟨gb130, 0, none⟩ = some (.int .i64 0) := (blk_cell BK130.out 0).trans rfl; have hcz12_1 : w11.cell? ⟨gb130, 1, none⟩ = some (.int .i64 0) := (blk_cell BK130.out 1).trans rfl; have hcz12_2 : w11.cell? ⟨gb130, 2, none⟩ = some (.int .i64 0) := (blk_cell BK130.out 2).trans rfl; have hfz12_0 := blk_frozen BK130.out 0; have hfz12_1 := blk_frozen BK130.out 1; have hfz12_2 := blk_frozen BK130.out 2))
        have n0_ : Aside0 ((((w11.setCell ⟨gb130, 0, none⟩ (.int .i64 ((rd_T31 l0 x7_1).f0))).setCell ⟨gb130, 1, none⟩ (.int .i64 ((rd_T31 l0 x7_1).f1.f0))).setCell ⟨gb130, 2, none⟩ (.int .i64 ((rd_T31 l0 x7_1).f1.f1))).heap[gb130]? = some (.cells #[.int .i64 ((rd_T31 l0 x7_1).f0), .int .i64 ((rd_T31 l0 x7_1).f1.f0), .int .i64 ((rd_T31 l0 x7_1).f1.f1)] 31 (0, 0))) := ⟨by (with_reducible repeat (first | refine blk_drewN ?_ _ | refine blk_drew ?_ | refine blk_alloc ?_ _)); refine blk_put (cs := #[.int .i64 ((rd_T31 l0 x7_1).f0), .int .i64 ((rd_T31 l0 x7_1).f1.f0), .int .i64 0]) ?_ 2 _ rfl; (with_reducible repeat (first | refine blk_drewN ?_ _ | refine blk_drew ?_ | refine blk_alloc ?_ _)); refine blk_put (cs := #[.int .i64 ((rd_T31 l0 x7_1).f0), .int .i64 0, .int .i64 0]) ?_ 1 _ rfl; (with_reducible repeat (first | refine blk_drewN ?_ _ | refine blk_drew ?_ | refine blk_alloc ?_ _)); refine blk_put (cs := #[.int .i64 0, .int .i64 0, .int .i64 0]) ?_ 0 _ rfl; (with_reducible repeat (first | refine blk_drewN ?_ _ | refine blk_drew ?_ | refine blk_alloc ?_ _)); exact BK130.out⟩
        have n1_ : Aside0 (Below w.heap.size w (((w11.setCell ⟨gb130, 0, none⟩ (.int .i64 ((rd_T31 l0 x7_1).f0))).setCell ⟨gb130, 1, none⟩ (.int .i64 ((rd_T31 l0 x7_1).f1.f0))).setCell ⟨gb130, 2, none⟩ (.int .i64 ((rd_T31 l0 x7_1).f1.f1)))) := ⟨(belS HB.out)⟩
        (try clear BK130)
        (try clear HB)
        generalize (((w11.setCell ⟨gb130, 0, none⟩ (.int .i64 ((rd_T31 l0 x7_1).f0))).setCell ⟨gb130, 1, none⟩ (.int .i64 ((rd_T31 l0 x7_1).f1.f0))).setCell ⟨gb130, 2, none⟩ (.int .i64 ((rd_T31 l0 x7_1).f1.f1))) = w13 at n0_ n1_ ⊢
        have BK130 := n0_
        have HB := n1_
        clear n0_ n1_
        have n0_ := Aside0.mk (blk_drew BK130.out)
        have n1_ := Aside0.mk (below_drew1 HB.out)
        clear BK130
        clear HB
        have BK130 := n0_
        have HB := n1_
        clear n0_ n1_
        refine start_ (n := 29) (S := fun w' => w'.cell? ⟨gb130, 0, none⟩ = some (.int .i64 ((rd_T31 l0 x7_1).f0)) ∧ w'.cell? ⟨gb130, 1, none⟩ = some (.int .i64 ((rd_T31 l0 x7_1).f1.f0)) ∧ w'.cell? ⟨gb130, 2, none⟩ = some (.int .i64 ((rd_T31 l0 x7_1).f1.f1))) (ds := []) #[false, false, false, false, false, false, false, false, false, false, false, false, false, false, false, false, false, false, false, false, false, false, false, false, false, false, false, false, false] (by kernel_rfl) rfl rfl ⟨(blk_cell BK130.out 0).trans rfl, (blk_cell BK130.out 1).trans rfl, (blk_cell BK130.out 2).trans rfl⟩ (fun hHeld => ?_); refine with_tabW down_Right.tab4 down_Right.bits4 (fun HT_ HW_ => ?_)
        generalize w13.drew = w14 at BK130 HB hHeld ⊢
        refine pA 0 (some 12) (bA 29 1) HT_.out ?_
        refine take_ (i := 1) (N := some 13) (v := ?_) (a' := ?_) (bA 29 3) rfl rfl (take_ofW HT_.out HW_.out (by kernel_rfl)) (fun _ _ _ h => h) (Or.inl ⟨by rfl, ?_⟩) hHeld ?_ ?_
        rotate_left
        ·rintro w' ⟨s0, s1, s2⟩
         go_simp
         with_reducible rfl
        rotate_left
        ·simp only [Act.put, List.setIfInBounds_toArray, List.set_cons_zero, List.set_cons_succ, i64_w, i32_w]
         rfl
        refine pA 2 (some 14) (bA 29 7) HT_.out ?_
        refine pA 3 (some 15) (bA 29 15) HT_.out ?_
        refine pA 4 (some 16) (bA 29 31) HT_.out ?_
        refine take_ (i := 5) (N := some 17) (v := ?_) (a' := ?_) (bA 29 63) rfl rfl (take_ofW HT_.out HW_.out (by kernel_rfl)) (fun _ _ _ h => h) (Or.inl ⟨by rfl, ?_⟩) hHeld ?_ ?_
        rotate_left
        ·rintro w' ⟨s0, s1, s2⟩
         go_simp
         with_reducible rfl
        rotate_left
        ·simp only [Act.put, List.setIfInBounds_toArray, List.set_cons_zero, List.set_cons_succ, i64_w, i32_w]
         rfl
        refine pA 6 (some 18) (bA 29 127) HT_.out ?_
        refine pA 7 (some 19) (bA 29 255) HT_.out ?_
        refine pA 8 (some 20) (bA 29 511) HT_.out ?_
        refine pU 9 (some 21) (bA 29 1023) HT_.out ?_
        refine pU 10 (some 22) (bA 29 2047) HT_.out ?_
        refine pU 11 (some 23) (bA 29 4095) HT_.out ?_
        refine pU 12 (some 24) (bA 29 8191) HT_.out ?_
        refine pA 13 (some 25) (bA 29 16383) HT_.out ?_
        refine pA 14 (some 26) (bA 29 32767) HT_.out ?_
        refine pU 15 (some 27) (bA 29 65535) HT_.out ?_
        refine pU 16 (some 28) (bA 29 131071) HT_.out ?_
        refine pU 17 (some 29) (bA 29 262143) HT_.out ?_
        refine pU 18 (some 30) (bA 29 524287) HT_.out ?_
        refine pU 19 (some 31) (bA 29 1048575) HT_.out ?_
        refine pU 20 (some 32) (bA 29 2097151) HT_.out ?_
        refine pU 21 (some 33) (bA 29 4194303) HT_.out ?_
        refine pU 22 (some 34) (bA 29 8388607) HT_.out ?_
        refine pU 23 (some 35) (bA 29 16777215) HT_.out ?_
        refine pU 24 (some 36) (bA 29 33554431) HT_.out ?_
        refine pU 25 (some 37) (bA 29 67108863) HT_.out ?_
        refine pU 26 (some 38) (bA 29 134217727) HT_.out ?_
        refine pU 27 (some 39) (bA 29 268435455) HT_.out ?_
        refine pA 28 (some 40) (bA 29 536870911) HT_.out ?_
        refine done_ (done_of HT_.out (by kernel_rfl)) ?_
        try go_wp2
        go_ret
        exact ⟨by first | rfl | (simp [errW_none, errW_some] <;> rfl) | (simp [*, errW_none, errW_some] <;> rfl), (belS HB.out)⟩
       ·rw [if_neg c10] at H
        have c10b0 : decide (4294967295 < ((rd_T31 l0 x7_1).f0)) = false := decide_eq_false c10
        clear c10
        replace H := Option.bind_eq_some_iff.mp H
        obtain ⟨t131, A150, H⟩ := H
        replace H : (if t131 = true then (if x7_1 > 0 then (if 0 ≤ (wrap64 (x7_1 - 1)) then (if (wrap64 (x7_1 - 1)) < (l0.length : Int) then (if ((rd_T31 l0 (wrap64 (x7_1 - 1))).f0) ≥ ((rd_T31 l0 x7_1).f0) then (some false) else (down_Right.l0 k1 l0 l0 (l0.length : Int) (wrap64 (x7_1 + 1)))) else (none)) else (none)) else (down_Right.l0 k1 l0 l0 (l0.length : Int) (wrap64 (x7_1 + 1)))) else (some false)) = some r := H
        have A15 := Aside0.mk A150
        clear A150
        by_cases c16 : t131 = true
        ·subst c16
         have H1 : (if x7_1 > 0 then (if 0 ≤ (wrap64 (x7_1 - 1)) then (if (wrap64 (x7_1 - 1)) < (l0.length : Int) then (if ((rd_T31 l0 (wrap64 (x7_1 - 1))).f0) ≥ ((rd_T31 l0 x7_1).f0) then (some false) else (down_Right.l0 k1 l0 l0 (l0.length : Int) (wrap64 (x7_1 + 1)))) else (none)) else (none)) else (down_Right.l0 k1 l0 l0 (l0.length : Int) (wrap64 (x7_1 + 1)))) = some r := by rw [if_pos rfl] at H; exact H
         clear H
         have H := H1
         clear H1
         by_cases c17 : x7_1 > 0
         ·rw [if_pos c17] at H
          have c17b0 : decide (0 < x7_1) = true := decide_eq_true c17
          clear c17
          obtain ⟨ji18, hji18⟩ : ∃ j_ : Int, (wrap64 (x7_1 - 1)) = j_ := ⟨_, rfl⟩
          replace H : (if 0 ≤ (ji18) then (if (ji18) < (l0.length : Int) then (if ((rd_T31 l0 (ji18)).f0) ≥ ((rd_T31 l0 x7_1).f0) then (some false) else (down_Right.l0 k1 l0 l0 (l0.length : Int) (wrap64 (x7_1 + 1)))) else (none)) else (none)) = some r := by first | (rw [hji18] at H; exact H) | (simp only [hji18] at H ⊢; exact H)
          (try rw [hji18] at A15)
          have hji18w : (IntKind.i64.wrap (x7_1 - 1)) = ji18 := (i64_w _).trans hji18
          by_cases c19 : 0 ≤ (ji18)
          ·rw [if_pos c19] at H
           have c19b0 : decide (0 ≤ (ji18)) = true := decide_eq_true c19
           clear c19
           by_cases c20 : (ji18) < (l0.length : Int)
           ·rw [if_pos c20] at H
            have c20b0 : decide ((ji18) < (l0.length : Int)) = true := decide_eq_true c20
            clear c20
            by_cases c21 : ((rd_T31 l0 (ji18)).f0) ≥ ((rd_T31 l0 x7_1).f0)
            ·rw [if_pos c21] at H
             have c21b0 : decide (((rd_T31 l0 x7_1).f0) ≤ ((rd_T31 l0 (ji18)).f0)) = true := decide_eq_true c21
             clear c21
             obtain rfl := Option.some.inj H
             have p129 : 0 ≤ (x7_1 : Int) := of_decide_eq_true (by first | (with_reducible assumption) | assumption)
             have q129 : x7_1 < (l0.length : Int) := of_decide_eq_true (by first | (with_reducible assumption) | assumption)
             obtain ⟨ad129, e129, hx129_0, hx129_1, hx129_2⟩ := at_T31 HR0.out x7_1 p129 q129
             cases e129
             replace hx129_0 := cellB HB.out hx129_0
             replace hx129_1 := cellB HB.out hx129_1
             replace hx129_2 := cellB HB.out hx129_2
             replace p129 := eq_true p129
             replace q129 := eq_true q129
             try go_wp2_with (first | ((with_reducible refine gate_dst (N := 4) rfl ?_); refine box_event ?hg (N := 4) ?hd (cs := #[.int .i64 0, .int .i64 0, .int .i64 0]) (t := 31) ?hr ?_; (case hd => rfl); (case hg => rfl); (case hr => first | (go_simp; done) | (go_simp; rfl)); intro gb130 hg w22 hbox hb; have n0_ := Aside0.mk (below_step (belN HB.out) hb); have n1_ := Aside0.mk (hbox); have n2_ := Aside0.mk (szB hg HB.out); have n3_ := Aside0.mk (szB hg HB.out); clear HB; have HB := n0_; have BK130 := n1_; have GW130 := n2_; have GE130 := n3_; clear n0_ n1_ n2_ n3_; clear hb hbox hg; have hcz23_0 : w22.cell? ⟨gb130, 0, none⟩ = some (.int .i64 0) := (blk_cell BK130.out 0).trans rfl; have hcz23_1 : w22.cell? ⟨gb130, 1, none⟩ = some (.int .i64 0) := (blk_cell BK130.out 1).trans rfl; have hcz23_2 : w22.cell? ⟨gb130, 2, none⟩ = some (.int .i64 0) := (blk_cell BK130.out 2).trans rfl; have hfz23_0 := blk_frozen BK130.out 0; have hfz23_1 := blk_frozen BK130.out 1; have hfz23_2 := blk_frozen BK130.out 2))
             have n0_ : Aside0 ((((w22.setCell ⟨gb130, 0, none⟩ (.int .i64 ((rd_T31 l0 x7_1).f0))).setCell ⟨gb130, 1, none⟩ (.int .i64 ((rd_T31 l0 x7_1).f1.f0))).setCell ⟨gb130, 2, none⟩ (.int .i64 ((rd_T31 l0 x7_1).f1.f1))).heap[gb130]? = some (.cells #[.int .i64 ((rd_T31 l0 x7_1).f0), .int .i64 ((rd_T31 l0 x7_1).f1.f0), .int .i64 ((rd_T31 l0 x7_1).f1.f1)] 31 (0, 0))) := ⟨by (with_reducible repeat (first | refine blk_drewN ?_ _ | refine blk_drew ?_ | refine blk_alloc ?_ _)); refine blk_put (cs := #[.int .i64 ((rd_T31 l0 x7_1).f0), .int .i64 ((rd_T31 l0 x7_1).f1.f0), .int .i64 0]) ?_ 2 _ rfl; (with_reducible repeat (first | refine blk_drewN ?_ _ | refine blk_drew ?_ | refine blk_alloc ?_ _)); refine blk_put (cs := #[.int .i64 ((rd_T31 l0 x7_1).f0), .int .i64 0, .int .i64 0]) ?_ 1 _ rfl; (with_reducible repeat (first | refine blk_drewN ?_ _ | refine blk_drew ?_ | refine blk_alloc ?_ _)); refine blk_put (cs := #[.int .i64 0, .int .i64 0, .int .i64 0]) ?_ 0 _ rfl; (with_reducible repeat (first | refine blk_drewN ?_ _ | refine blk_drew ?_ | refine blk_alloc ?_ _)); exact BK130.out⟩
             have n1_ : Aside0 (Below w.heap.size w (((w22.setCell ⟨gb130, 0, none⟩ (.int .i64 ((rd_T31 l0 x7_1).f0))).setCell ⟨gb130, 1, none⟩ (.int .i64 ((rd_T31 l0 x7_1).f1.f0))).setCell ⟨gb130, 2, none⟩ (.int .i64 ((rd_T31 l0 x7_1).f1.f1)))) := ⟨(belS HB.out)⟩
             (try clear BK130)
             (try clear HB)
             generalize (((w22.setCell ⟨gb130, 0, none⟩ (.int .i64 ((rd_T31 l0 x7_1).f0))).setCell ⟨gb130, 1, none⟩ (.int .i64 ((rd_T31 l0 x7_1).f1.f0))).setCell ⟨gb130, 2, none⟩ (.int .i64 ((rd_T31 l0 x7_1).f1.f1))) = w24 at n0_ n1_ ⊢
             have BK130 := n0_
             have HB := n1_
             clear n0_ n1_
             have n0_ := Aside0.mk (blk_drew BK130.out)
             have n1_ := Aside0.mk (below_drew1 HB.out)
             clear BK130
             clear HB
             have BK130 := n0_
             have HB := n1_
             clear n0_ n1_
             have p132 : 0 ≤ ((ji18) : Int) := of_decide_eq_true (by first | (with_reducible assumption) | assumption)
             have q132 : (ji18) < (l0.length : Int) := of_decide_eq_true (by first | (with_reducible assumption) | assumption)
             obtain ⟨ad132, e132, hx132_0, hx132_1, hx132_2⟩ := at_T31 HR0.out (ji18) p132 q132
             have hw132_2 := hx132_2
             have hw132_1 := hx132_1
             have hw132_0 := hx132_0
             obtain rfl : ad129 = ad132 := (by injection e132)
             replace hx132_0 := cellB HB.out hx132_0
             replace hx132_1 := cellB HB.out hx132_1
             replace hx132_2 := cellB HB.out hx132_2
             replace p132 := eq_true p132
             replace q132 := eq_true q132
             refine start_ (n := 29) (S := fun w' => w'.cell? ⟨gb130, 0, none⟩ = some (.int .i64 ((rd_T31 l0 x7_1).f0)) ∧ w'.cell? ⟨gb130, 1, none⟩ = some (.int .i64 ((rd_T31 l0 x7_1).f1.f0)) ∧ w'.cell? ⟨gb130, 2, none⟩ = some (.int .i64 ((rd_T31 l0 x7_1).f1.f1)) ∧ w'.cell? (ad129.add (((ji18)).toNat * 3)) = some (.int .i64 ((rd_T31 l0 (ji18)).f0)) ∧ w'.cell? ⟨(ad129.add (((ji18)).toNat * 3)).block, (ad129.add (((ji18)).toNat * 3)).off + 1, none⟩ = some (.int .i64 ((rd_T31 l0 (ji18)).f1.f0)) ∧ w'.cell? ⟨(ad129.add (((ji18)).toNat * 3)).block, (ad129.add (((ji18)).toNat * 3)).off + 2, none⟩ = some (.int .i64 ((rd_T31 l0 (ji18)).f1.f1))) (ds := []) #[false, false, false, false, false, false, false, false, false, false, false, false, false, false, false, false, false, false, false, false, false, false, false, false, false, false, false, false, false] (by kernel_rfl) rfl rfl ⟨(blk_cell BK130.out 0).trans rfl, (blk_cell BK130.out 1).trans rfl, (blk_cell BK130.out 2).trans rfl, (cellB HB.out hw132_0), (cellB HB.out hw132_1), (cellB HB.out hw132_2)⟩ (fun hHeld => ?_); refine with_tabW down_Right.tab4 down_Right.bits4 (fun HT_ HW_ => ?_)
             generalize w24.drew = w25 at BK130 HB hx132_0 hx132_1 hx132_2 hHeld ⊢
             refine pA 0 (some 12) (bA 29 1) HT_.out ?_
             refine take_ (i := 1) (N := some 13) (v := ?_) (a' := ?_) (bA 29 3) rfl rfl (take_ofW HT_.out HW_.out (by kernel_rfl)) (fun _ _ _ h => h) (Or.inl ⟨by rfl, ?_⟩) hHeld ?_ ?_
             rotate_left
             ·rintro w' ⟨s0, s1, s2, s3, s4, s5⟩
              go_simp
              with_reducible rfl
             rotate_left
             ·simp only [Act.put, List.setIfInBounds_toArray, List.set_cons_zero, List.set_cons_succ, i64_w, i32_w]
              rfl
             refine pA 2 (some 14) (bA 29 7) HT_.out ?_
             refine pA 3 (some 15) (bA 29 15) HT_.out ?_
             refine pA 4 (some 16) (bA 29 31) HT_.out ?_
             refine take_ (i := 5) (N := some 17) (v := ?_) (a' := ?_) (bA 29 63) rfl rfl (take_ofW HT_.out HW_.out (by kernel_rfl)) (fun _ _ _ h => h) (Or.inl ⟨by rfl, ?_⟩) hHeld ?_ ?_
             rotate_left
             ·rintro w' ⟨s0, s1, s2, s3, s4, s5⟩
              go_simp
              with_reducible rfl
             rotate_left
             ·simp only [Act.put, List.setIfInBounds_toArray, List.set_cons_zero, List.set_cons_succ, i64_w, i32_w]
              rfl
             refine pA 6 (some 18) (bA 29 127) HT_.out ?_
             refine pA 7 (some 19) (bA 29 255) HT_.out ?_
             refine pA 8 (some 20) (bA 29 511) HT_.out ?_
             refine pA 9 (some 21) (bA 29 1023) HT_.out ?_
             refine take_ (i := 10) (N := some 22) (v := ?_) (a' := ?_) (bA 29 2047) rfl rfl (take_ofW HT_.out HW_.out (by kernel_rfl)) (fun _ _ _ h => h) (Or.inl ⟨by rfl, ?_⟩) hHeld ?_ ?_
             rotate_left
             ·rintro w' ⟨s0, s1, s2, s3, s4, s5⟩
              go_simp
              with_reducible rfl
             rotate_left
             ·simp only [Act.put, List.setIfInBounds_toArray, List.set_cons_zero, List.set_cons_succ, i64_w, i32_w]
              rfl
             refine one_ (i := 11) (N := some 23) (bA 29 4095) rfl rfl (one_of HT_.out (by kernel_rfl)) (by decide) (fun K hK => ?_)
             refine goes_ Try.func31 (by kernel_rfl) rfl #[.agg #[.int .i64 ((rd_T31 l0 x7_1).f1.f0), .int .i64 ((rd_T31 l0 x7_1).f1.f1)]] (by rfl) rfl rfl argN ?_
             with_reducible refine (rat_Right.calls k1 ((rd_T31 l0 x7_1).f1.f0) ((rd_T31 l0 x7_1).f1.f1) true _ A15.out).mono ?_
             rintro e w26 ⟨rfl, hb⟩
             refine ⟨_, rfl, ?_⟩
             have n0_ := Aside0.mk (bkB BK130.out hb)
             have n1_ := Aside0.mk (below_step (belS HB.out) hb)
             clear BK130
             clear HB
             have BK130 := n0_
             have HB := n1_
             clear n0_ n1_
             (try clear hb)
             refine hK.out _ _ ⟨(blk_cell BK130.out 0).trans rfl, (blk_cell BK130.out 1).trans rfl, (blk_cell BK130.out 2).trans rfl, (cellB HB.out hw132_0), (cellB HB.out hw132_1), (cellB HB.out hw132_2)⟩ (fun hHeld => ?_)
             clear hK K
             refine norm_ (a' := ?_) ?_ ?_
             rotate_left
             ·show Act.put _ (some 23) _ = _
              simp only [Act.put, List.setIfInBounds_toArray, List.set_cons_zero, List.set_cons_succ, i64_w, i32_w]
              rfl
             refine pA 12 (some 24) (bA 29 8191) HT_.out ?_
             refine pA 13 (some 25) (bA 29 16383) HT_.out ?_
             refine pA 14 (some 26) (bA 29 32767) HT_.out ?_
             refine pA 15 (some 27) (bA 29 65535) HT_.out ?_
             refine pA 16 (some 28) (bA 29 131071) HT_.out ?_
             refine pA 17 (some 29) (bA 29 262143) HT_.out ?_
             refine pA 18 (some 30) (bA 29 524287) HT_.out ?_
             refine pA 19 (some 31) (bA 29 1048575) HT_.out ?_
             refine pA 20 (some 32) (bA 29 2097151) HT_.out ?_
             refine pA 21 (some 33) (bA 29 4194303) HT_.out ?_
             refine pA 22 (some 34) (bA 29 8388607) HT_.out ?_
             refine pA 24 (some 36) (bA 29 25165823) HT_.out ?_
             refine take_ (i := 23) (N := some 35) (v := ?_) (a' := ?_) (bA 29 33554431) rfl rfl (take_ofW HT_.out HW_.out (by kernel_rfl)) (fun _ _ _ h => h) (Or.inl ⟨by rfl, ?_⟩) hHeld ?_ ?_
             rotate_left
             ·rintro w' ⟨s0, s1, s2, s3, s4, s5⟩
              go_simp
              with_reducible rfl
             rotate_left
             ·simp only [Act.put, List.setIfInBounds_toArray, List.set_cons_zero, List.set_cons_succ, i64_w, i32_w]
              rfl
             refine take_ (i := 25) (N := some 37) (v := ?_) (a' := ?_) (bA 29 67108863) rfl rfl (take_ofW HT_.out HW_.out (by kernel_rfl)) (fun _ _ _ h => h) (Or.inl ⟨by rfl, ?_⟩) hHeld ?_ ?_
             rotate_left
             ·rintro w' ⟨s0, s1, s2, s3, s4, s5⟩
              go_simp
              with_reducible rfl
             rotate_left
             ·simp only [Act.put, List.setIfInBounds_toArray, List.set_cons_zero, List.set_cons_succ, i64_w, i32_w]
              rfl
             refine pA 26 (some 38) (bA 29 134217727) HT_.out ?_
             refine pA 27 (some 39) (bA 29 268435455) HT_.out ?_
             refine pA 28 (some 40) (bA 29 536870911) HT_.out ?_
             refine done_ (done_of HT_.out (by kernel_rfl)) ?_
             try go_wp2
             go_ret
             exact ⟨by first | rfl | (simp [errW_none, errW_some] <;> rfl) | (simp only [← hji18]; first | rfl | (simp [errW_none, errW_some] <;> rfl)) | (simp [*, errW_none, errW_some] <;> rfl), (belS HB.out)⟩
            ·rw [if_neg c21] at H
             have c21b0 : decide (((rd_T31 l0 x7_1).f0) ≤ ((rd_T31 l0 (ji18)).f0)) = false := decide_eq_false c21
             clear c21
             have H' := Aside0.mk H
             clear H
             have p129 : 0 ≤ (x7_1 : Int) := of_decide_eq_true (by first | (with_reducible assumption) | assumption)
             have q129 : x7_1 < (l0.length : Int) := of_decide_eq_true (by first | (with_reducible assumption) | assumption)
             obtain ⟨ad129, e129, hx129_0, hx129_1, hx129_2⟩ := at_T31 HR0.out x7_1 p129 q129
             cases e129
             replace hx129_0 := cellB HB.out hx129_0
             replace hx129_1 := cellB HB.out hx129_1
             replace hx129_2 := cellB HB.out hx129_2
             replace p129 := eq_true p129
             replace q129 := eq_true q129
             try go_wp2_with (first | ((with_reducible refine gate_dst (N := 4) rfl ?_); refine box_event ?hg (N := 4) ?hd (cs := #[.int .i64 0, .int .i64 0, .int .i64 0]) (t := 31) ?hr ?_; (case hd => rfl); (case hg => rfl); (case hr => first | (go_simp; done) | (go_simp; rfl)); intro gb130 hg w27 hbox hb; have n0_ := Aside0.mk (below_step (belN HB.out) hb); have n1_ := Aside0.mk (hbox); have n2_ := Aside0.mk (szB hg HB.out); have n3_ := Aside0.mk (szB hg HB.out); clear HB; have HB := n0_; have BK130 := n1_; have GW130 := n2_; have GE130 := n3_; clear n0_ n1_ n2_ n3_; clear hb hbox hg; have hcz28_0 : w27.cell? ⟨gb130, 0, none⟩ = some (.int .i64 0) := (blk_cell BK130.out 0).trans rfl; have hcz28_1 : w27.cell? ⟨gb130, 1, none⟩ = some (.int .i64 0) := (blk_cell BK130.out 1).trans rfl; have hcz28_2 : w27.cell? ⟨gb130, 2, none⟩ = some (.int .i64 0) := (blk_cell BK130.out 2).trans rfl; have hfz28_0 := blk_frozen BK130.out 0; have hfz28_1 := blk_frozen BK130.out 1; have hfz28_2 := blk_frozen BK130.out 2))
             have n0_ : Aside0 ((((w27.setCell ⟨gb130, 0, none⟩ (.int .i64 ((rd_T31 l0 x7_1).f0))).setCell ⟨gb130, 1, none⟩ (.int .i64 ((rd_T31 l0 x7_1).f1.f0))).setCell ⟨gb130, 2, none⟩ (.int .i64 ((rd_T31 l0 x7_1).f1.f1))).heap[gb130]? = some (.cells #[.int .i64 ((rd_T31 l0 x7_1).f0), .int .i64 ((rd_T31 l0 x7_1).f1.f0), .int .i64 ((rd_T31 l0 x7_1).f1.f1)] 31 (0, 0))) := ⟨by (with_reducible repeat (first | refine blk_drewN ?_ _ | refine blk_drew ?_ | refine blk_alloc ?_ _)); refine blk_put (cs := #[.int .i64 ((rd_T31 l0 x7_1).f0), .int .i64 ((rd_T31 l0 x7_1).f1.f0), .int .i64 0]) ?_ 2 _ rfl; (with_reducible repeat (first | refine blk_drewN ?_ _ | refine blk_drew ?_ | refine blk_alloc ?_ _)); refine blk_put (cs := #[.int .i64 ((rd_T31 l0 x7_1).f0), .int .i64 0, .int .i64 0]) ?_ 1 _ rfl; (with_reducible repeat (first | refine blk_drewN ?_ _ | refine blk_drew ?_ | refine blk_alloc ?_ _)); refine blk_put (cs := #[.int .i64 0, .int .i64 0, .int .i64 0]) ?_ 0 _ rfl; (with_reducible repeat (first | refine blk_drewN ?_ _ | refine blk_drew ?_ | refine blk_alloc ?_ _)); exact BK130.out⟩
             have n1_ : Aside0 (Below w.heap.size w (((w27.setCell ⟨gb130, 0, none⟩ (.int .i64 ((rd_T31 l0 x7_1).f0))).setCell ⟨gb130, 1, none⟩ (.int .i64 ((rd_T31 l0 x7_1).f1.f0))).setCell ⟨gb130, 2, none⟩ (.int .i64 ((rd_T31 l0 x7_1).f1.f1)))) := ⟨(belS HB.out)⟩
             (try clear BK130)
             (try clear HB)
             generalize (((w27.setCell ⟨gb130, 0, none⟩ (.int .i64 ((rd_T31 l0 x7_1).f0))).setCell ⟨gb130, 1, none⟩ (.int .i64 ((rd_T31 l0 x7_1).f1.f0))).setCell ⟨gb130, 2, none⟩ (.int .i64 ((rd_T31 l0 x7_1).f1.f1))) = w29 at n0_ n1_ ⊢
             have BK130 := n0_
             have HB := n1_
             clear n0_ n1_
             have n0_ := Aside0.mk (blk_drew BK130.out)
             have n1_ := Aside0.mk (below_drew1 HB.out)
             clear BK130
             clear HB
             have BK130 := n0_
             have HB := n1_
             clear n0_ n1_
             have p132 : 0 ≤ ((ji18) : Int) := of_decide_eq_true (by first | (with_reducible assumption) | assumption)
             have q132 : (ji18) < (l0.length : Int) := of_decide_eq_true (by first | (with_reducible assumption) | assumption)
             obtain ⟨ad132, e132, hx132_0, hx132_1, hx132_2⟩ := at_T31 HR0.out (ji18) p132 q132
             have hw132_2 := hx132_2
             have hw132_1 := hx132_1
             have hw132_0 := hx132_0
             obtain rfl : ad129 = ad132 := (by injection e132)
             replace hx132_0 := cellB HB.out hx132_0
             replace hx132_1 := cellB HB.out hx132_1
             replace hx132_2 := cellB HB.out hx132_2
             replace p132 := eq_true p132
             replace q132 := eq_true q132
             refine start_ (n := 29) (S := fun w' => w'.cell? ⟨gb130, 0, none⟩ = some (.int .i64 ((rd_T31 l0 x7_1).f0)) ∧ w'.cell? ⟨gb130, 1, none⟩ = some (.int .i64 ((rd_T31 l0 x7_1).f1.f0)) ∧ w'.cell? ⟨gb130, 2, none⟩ = some (.int .i64 ((rd_T31 l0 x7_1).f1.f1)) ∧ w'.cell? (ad129.add (((ji18)).toNat * 3)) = some (.int .i64 ((rd_T31 l0 (ji18)).f0)) ∧ w'.cell? ⟨(ad129.add (((ji18)).toNat * 3)).block, (ad129.add (((ji18)).toNat * 3)).off + 1, none⟩ = some (.int .i64 ((rd_T31 l0 (ji18)).f1.f0)) ∧ w'.cell? ⟨(ad129.add (((ji18)).toNat * 3)).block, (ad129.add (((ji18)).toNat * 3)).off + 2, none⟩ = some (.int .i64 ((rd_T31 l0 (ji18)).f1.f1))) (ds := []) #[false, false, false, false, false, false, false, false, false, false, false, false, false, false, false, false, false, false, false, false, false, false, false, false, false, false, false, false, false] (by kernel_rfl) rfl rfl ⟨(blk_cell BK130.out 0).trans rfl, (blk_cell BK130.out 1).trans rfl, (blk_cell BK130.out 2).trans rfl, (cellB HB.out hw132_0), (cellB HB.out hw132_1), (cellB HB.out hw132_2)⟩ (fun hHeld => ?_); refine with_tabW down_Right.tab4 down_Right.bits4 (fun HT_ HW_ => ?_)
             generalize w29.drew = w30 at BK130 HB hx132_0 hx132_1 hx132_2 hHeld ⊢
             refine pA 0 (some 12) (bA 29 1) HT_.out ?_
             refine take_ (i := 1) (N := some 13) (v := ?_) (a' := ?_) (bA 29 3) rfl rfl (take_ofW HT_.out HW_.out (by kernel_rfl)) (fun _ _ _ h => h) (Or.inl ⟨by rfl, ?_⟩) hHeld ?_ ?_
             rotate_left
             ·rintro w' ⟨s0, s1, s2, s3, s4, s5⟩
              go_simp
              with_reducible rfl
             rotate_left
             ·simp only [Act.put, List.setIfInBounds_toArray, List.set_cons_zero, List.set_cons_succ, i64_w, i32_w]
              rfl
             refine pA 2 (some 14) (bA 29 7) HT_.out ?_
             refine pA 3 (some 15) (bA 29 15) HT_.out ?_
             refine pA 4 (some 16) (bA 29 31) HT_.out ?_
             refine take_ (i := 5) (N := some 17) (v := ?_) (a' := ?_) (bA 29 63) rfl rfl (take_ofW HT_.out HW_.out (by kernel_rfl)) (fun _ _ _ h => h) (Or.inl ⟨by rfl, ?_⟩) hHeld ?_ ?_
             rotate_left
             ·rintro w' ⟨s0, s1, s2, s3, s4, s5⟩
              go_simp
              with_reducible rfl
             rotate_left
             ·simp only [Act.put, List.setIfInBounds_toArray, List.set_cons_zero, List.set_cons_succ, i64_w, i32_w]
              rfl
             refine pA 6 (some 18) (bA 29 127) HT_.out ?_
             refine pA 7 (some 19) (bA 29 255) HT_.out ?_
             refine pA 8 (some 20) (bA 29 511) HT_.out ?_
             refine pA 9 (some 21) (bA 29 1023) HT_.out ?_
             refine take_ (i := 10) (N := some 22) (v := ?_) (a' := ?_) (bA 29 2047) rfl rfl (take_ofW HT_.out HW_.out (by kernel_rfl)) (fun _ _ _ h => h) (Or.inl ⟨by rfl, ?_⟩) hHeld ?_ ?_
             rotate_left
             ·rintro w' ⟨s0, s1, s2, s3, s4, s5⟩
              go_simp
              with_reducible rfl
             rotate_left
             ·simp only [Act.put, List.setIfInBounds_toArray, List.set_cons_zero, List.set_cons_succ, i64_w, i32_w]
              rfl
             refine one_ (i := 11) (N := some 23) (bA 29 4095) rfl rfl (one_of HT_.out (by kernel_rfl)) (by decide) (fun K hK => ?_)
             refine goes_ Try.func31 (by kernel_rfl) rfl #[.agg #[.int .i64 ((rd_T31 l0 x7_1).f1.f0), .int .i64 ((rd_T31 l0 x7_1).f1.f1)]] (by rfl) rfl rfl argN ?_
             with_reducible refine (rat_Right.calls k1 ((rd_T31 l0 x7_1).f1.f0) ((rd_T31 l0 x7_1).f1.f1) true _ A15.out).mono ?_
             rintro e w31 ⟨rfl, hb⟩
             refine ⟨_, rfl, ?_⟩
             have n0_ := Aside0.mk (bkB BK130.out hb)
             have n1_ := Aside0.mk (below_step (belS HB.out) hb)
             clear BK130
             clear HB
             have BK130 := n0_
             have HB := n1_
             clear n0_ n1_
             (try clear hb)
             refine hK.out _ _ ⟨(blk_cell BK130.out 0).trans rfl, (blk_cell BK130.out 1).trans rfl, (blk_cell BK130.out 2).trans rfl, (cellB HB.out hw132_0), (cellB HB.out hw132_1), (cellB HB.out hw132_2)⟩ (fun hHeld => ?_)
             clear hK K
             refine norm_ (a' := ?_) ?_ ?_
             rotate_left
             ·show Act.put _ (some 23) _ = _
              simp only [Act.put, List.setIfInBounds_toArray, List.set_cons_zero, List.set_cons_succ, i64_w, i32_w]
              rfl
             refine pA 12 (some 24) (bA 29 8191) HT_.out ?_
             refine pA 13 (some 25) (bA 29 16383) HT_.out ?_
             refine pA 14 (some 26) (bA 29 32767) HT_.out ?_
             refine pA 15 (some 27) (bA 29 65535) HT_.out ?_
             refine pA 16 (some 28) (bA 29 131071) HT_.out ?_
             refine pA 17 (some 29) (bA 29 262143) HT_.out ?_
             refine pA 18 (some 30) (bA 29 524287) HT_.out ?_
             refine pA 19 (some 31) (bA 29 1048575) HT_.out ?_
             refine pA 20 (some 32) (bA 29 2097151) HT_.out ?_
             refine pA 21 (some 33) (bA 29 4194303) HT_.out ?_
             refine pA 22 (some 34) (bA 29 8388607) HT_.out ?_
             refine pA 24 (some 36) (bA 29 25165823) HT_.out ?_
             refine take_ (i := 23) (N := some 35) (v := ?_) (a' := ?_) (bA 29 33554431) rfl rfl (take_ofW HT_.out HW_.out (by kernel_rfl)) (fun _ _ _ h => h) (Or.inl ⟨by rfl, ?_⟩) hHeld ?_ ?_
             rotate_left
             ·rintro w' ⟨s0, s1, s2, s3, s4, s5⟩
              go_simp
              with_reducible rfl
             rotate_left
             ·simp only [Act.put, List.setIfInBounds_toArray, List.set_cons_zero, List.set_cons_succ, i64_w, i32_w]
              rfl
             refine take_ (i := 25) (N := some 37) (v := ?_) (a' := ?_) (bA 29 67108863) rfl rfl (take_ofW HT_.out HW_.out (by kernel_rfl)) (fun _ _ _ h => h) (Or.inl ⟨by rfl, ?_⟩) hHeld ?_ ?_
             rotate_left
             ·rintro w' ⟨s0, s1, s2, s3, s4, s5⟩
              go_simp
              with_reducible rfl
             rotate_left
             ·simp only [Act.put, List.setIfInBounds_toArray, List.set_cons_zero, List.set_cons_succ, i64_w, i32_w]
              rfl
             refine pA 26 (some 38) (bA 29 134217727) HT_.out ?_
             refine pA 27 (some 39) (bA 29 268435455) HT_.out ?_
             refine pA 28 (some 40) (bA 29 536870911) HT_.out ?_
             refine done_ (done_of HT_.out (by kernel_rfl)) ?_
             try go_wp2
             go_roundg k1
             case measure => have := HK1.out; omega
             case rel => exact ⟨(wrap64 (x7_1 + 1)), (by first | rfl | (simp; done) | (simp [*]; done)), H', ⟨by have := HK1.out; omega⟩, ⟨(belS HB.out)⟩⟩
           ·rw [if_neg c20] at H
            exact absurd H (by simp)
          ·rw [if_neg c19] at H
           exact absurd H (by simp)
         ·rw [if_neg c17] at H
          have c17b0 : decide (0 < x7_1) = false := decide_eq_false c17
          clear c17
          have H' := Aside0.mk H
          clear H
          have p129 : 0 ≤ (x7_1 : Int) := of_decide_eq_true (by first | (with_reducible assumption) | assumption)
          have q129 : x7_1 < (l0.length : Int) := of_decide_eq_true (by first | (with_reducible assumption) | assumption)
          obtain ⟨ad129, e129, hx129_0, hx129_1, hx129_2⟩ := at_T31 HR0.out x7_1 p129 q129
          cases e129
          replace hx129_0 := cellB HB.out hx129_0
          replace hx129_1 := cellB HB.out hx129_1
          replace hx129_2 := cellB HB.out hx129_2
          replace p129 := eq_true p129
          replace q129 := eq_true q129
          try go_wp2_with (first | ((with_reducible refine gate_dst (N := 4) rfl ?_); refine box_event ?hg (N := 4) ?hd (cs := #[.int .i64 0, .int .i64 0, .int .i64 0]) (t := 31) ?hr ?_; (case hd => rfl); (case hg => rfl); (case hr => first | (go_simp; done) | (go_simp; rfl)); intro gb130 hg w32 hbox hb; have n0_ := Aside0.mk (below_step (belN HB.out) hb); have n1_ := Aside0.mk (hbox); have n2_ := Aside0.mk (szB hg HB.out); have n3_ := Aside0.mk (szB hg HB.out); clear HB; have HB := n0_; have BK130 := n1_; have GW130 := n2_; have GE130 := n3_; clear n0_ n1_ n2_ n3_; clear hb hbox hg; have hcz33_0 : w32.cell? ⟨gb130, 0, none⟩ = some (.int .i64 0) := (blk_cell BK130.out 0).trans rfl; have hcz33_1 : w32.cell? ⟨gb130, 1, none⟩ = some (.int .i64 0) := (blk_cell BK130.out 1).trans rfl; have hcz33_2 : w32.cell? ⟨gb130, 2, none⟩ = some (.int .i64 0) := (blk_cell BK130.out 2).trans rfl; have hfz33_0 := blk_frozen BK130.out 0; have hfz33_1 := blk_frozen BK130.out 1; have hfz33_2 := blk_frozen BK130.out 2))
          have n0_ : Aside0 ((((w32.setCell ⟨gb130, 0, none⟩ (.int .i64 ((rd_T31 l0 x7_1).f0))).setCell ⟨gb130, 1, none⟩ (.int .i64 ((rd_T31 l0 x7_1).f1.f0))).setCell ⟨gb130, 2, none⟩ (.int .i64 ((rd_T31 l0 x7_1).f1.f1))).heap[gb130]? = some (.cells #[.int .i64 ((rd_T31 l0 x7_1).f0), .int .i64 ((rd_T31 l0 x7_1).f1.f0), .int .i64 ((rd_T31 l0 x7_1).f1.f1)] 31 (0, 0))) := ⟨by (with_reducible repeat (first | refine blk_drewN ?_ _ | refine blk_drew ?_ | refine blk_alloc ?_ _)); refine blk_put (cs := #[.int .i64 ((rd_T31 l0 x7_1).f0), .int .i64 ((rd_T31 l0 x7_1).f1.f0), .int .i64 0]) ?_ 2 _ rfl; (with_reducible repeat (first | refine blk_drewN ?_ _ | refine blk_drew ?_ | refine blk_alloc ?_ _)); refine blk_put (cs := #[.int .i64 ((rd_T31 l0 x7_1).f0), .int .i64 0, .int .i64 0]) ?_ 1 _ rfl; (with_reducible repeat (first | refine blk_drewN ?_ _ | refine blk_drew ?_ | refine blk_alloc ?_ _)); refine blk_put (cs := #[.int .i64 0, .int .i64 0, .int .i64 0]) ?_ 0 _ rfl; (with_reducible repeat (first | refine blk_drewN ?_ _ | refine blk_drew ?_ | refine blk_alloc ?_ _)); exact BK130.out⟩
          have n1_ : Aside0 (Below w.heap.size w (((w32.setCell ⟨gb130, 0, none⟩ (.int .i64 ((rd_T31 l0 x7_1).f0))).setCell ⟨gb130, 1, none⟩ (.int .i64 ((rd_T31 l0 x7_1).f1.f0))).setCell ⟨gb130, 2, none⟩ (.int .i64 ((rd_T31 l0 x7_1).f1.f1)))) := ⟨(belS HB.out)⟩
          (try clear BK130)
          (try clear HB)
          generalize (((w32.setCell ⟨gb130, 0, none⟩ (.int .i64 ((rd_T31 l0 x7_1).f0))).setCell ⟨gb130, 1, none⟩ (.int .i64 ((rd_T31 l0 x7_1).f1.f0))).setCell ⟨gb130, 2, none⟩ (.int .i64 ((rd_T31 l0 x7_1).f1.f1))) = w34 at n0_ n1_ ⊢
          have BK130 := n0_
          have HB := n1_
          clear n0_ n1_
          have n0_ := Aside0.mk (blk_drew BK130.out)
          have n1_ := Aside0.mk (below_drew1 HB.out)
          clear BK130
          clear HB
          have BK130 := n0_
          have HB := n1_
          clear n0_ n1_
          refine start_ (n := 29) (S := fun w' => w'.cell? ⟨gb130, 0, none⟩ = some (.int .i64 ((rd_T31 l0 x7_1).f0)) ∧ w'.cell? ⟨gb130, 1, none⟩ = some (.int .i64 ((rd_T31 l0 x7_1).f1.f0)) ∧ w'.cell? ⟨gb130, 2, none⟩ = some (.int .i64 ((rd_T31 l0 x7_1).f1.f1))) (ds := []) #[false, false, false, false, false, false, false, false, false, false, false, false, false, false, false, false, false, false, false, false, false, false, false, false, false, false, false, false, false] (by kernel_rfl) rfl rfl ⟨(blk_cell BK130.out 0).trans rfl, (blk_cell BK130.out 1).trans rfl, (blk_cell BK130.out 2).trans rfl⟩ (fun hHeld => ?_); refine with_tabW down_Right.tab4 down_Right.bits4 (fun HT_ HW_ => ?_)
          generalize w34.drew = w35 at BK130 HB hHeld ⊢
          refine pA 0 (some 12) (bA 29 1) HT_.out ?_
          refine take_ (i := 1) (N := some 13) (v := ?_) (a' := ?_) (bA 29 3) rfl rfl (take_ofW HT_.out HW_.out (by kernel_rfl)) (fun _ _ _ h => h) (Or.inl ⟨by rfl, ?_⟩) hHeld ?_ ?_
          rotate_left
          ·rintro w' ⟨s0, s1, s2⟩
           go_simp
           with_reducible rfl
          rotate_left
          ·simp only [Act.put, List.setIfInBounds_toArray, List.set_cons_zero, List.set_cons_succ, i64_w, i32_w]
           rfl
          refine pA 2 (some 14) (bA 29 7) HT_.out ?_
          refine pA 3 (some 15) (bA 29 15) HT_.out ?_
          refine pA 4 (some 16) (bA 29 31) HT_.out ?_
          refine take_ (i := 5) (N := some 17) (v := ?_) (a' := ?_) (bA 29 63) rfl rfl (take_ofW HT_.out HW_.out (by kernel_rfl)) (fun _ _ _ h => h) (Or.inl ⟨by rfl, ?_⟩) hHeld ?_ ?_
          rotate_left
          ·rintro w' ⟨s0, s1, s2⟩
           go_simp
           with_reducible rfl
          rotate_left
          ·simp only [Act.put, List.setIfInBounds_toArray, List.set_cons_zero, List.set_cons_succ, i64_w, i32_w]
           rfl
          refine pA 6 (some 18) (bA 29 127) HT_.out ?_
          refine pA 7 (some 19) (bA 29 255) HT_.out ?_
          refine pA 8 (some 20) (bA 29 511) HT_.out ?_
          refine pA 9 (some 21) (bA 29 1023) HT_.out ?_
          refine take_ (i := 10) (N := some 22) (v := ?_) (a' := ?_) (bA 29 2047) rfl rfl (take_ofW HT_.out HW_.out (by kernel_rfl)) (fun _ _ _ h => h) (Or.inl ⟨by rfl, ?_⟩) hHeld ?_ ?_
          rotate_left
          ·rintro w' ⟨s0, s1, s2⟩
           go_simp
           with_reducible rfl
          rotate_left
          ·simp only [Act.put, List.setIfInBounds_toArray, List.set_cons_zero, List.set_cons_succ, i64_w, i32_w]
           rfl
          refine one_ (i := 11) (N := some 23) (bA 29 4095) rfl rfl (one_of HT_.out (by kernel_rfl)) (by decide) (fun K hK => ?_)
          refine goes_ Try.func31 (by kernel_rfl) rfl #[.agg #[.int .i64 ((rd_T31 l0 x7_1).f1.f0), .int .i64 ((rd_T31 l0 x7_1).f1.f1)]] (by rfl) rfl rfl argN ?_
          with_reducible refine (rat_Right.calls k1 ((rd_T31 l0 x7_1).f1.f0) ((rd_T31 l0 x7_1).f1.f1) true _ A15.out).mono ?_
          rintro e w36 ⟨rfl, hb⟩
          refine ⟨_, rfl, ?_⟩
          have n0_ := Aside0.mk (bkB BK130.out hb)
          have n1_ := Aside0.mk (below_step (belS HB.out) hb)
          clear BK130
          clear HB
          have BK130 := n0_
          have HB := n1_
          clear n0_ n1_
          (try clear hb)
          refine hK.out _ _ ⟨(blk_cell BK130.out 0).trans rfl, (blk_cell BK130.out 1).trans rfl, (blk_cell BK130.out 2).trans rfl⟩ (fun hHeld => ?_)
          clear hK K
          refine norm_ (a' := ?_) ?_ ?_
          rotate_left
          ·show Act.put _ (some 23) _ = _
           simp only [Act.put, List.setIfInBounds_toArray, List.set_cons_zero, List.set_cons_succ, i64_w, i32_w]
           rfl
          refine pA 12 (some 24) (bA 29 8191) HT_.out ?_
          refine pA 13 (some 25) (bA 29 16383) HT_.out ?_
          refine pA 14 (some 26) (bA 29 32767) HT_.out ?_
          refine pA 15 (some 27) (bA 29 65535) HT_.out ?_
          refine pA 16 (some 28) (bA 29 131071) HT_.out ?_
          refine pA 17 (some 29) (bA 29 262143) HT_.out ?_
          refine pU 18 (some 30) (bA 29 524287) HT_.out ?_
          refine pU 19 (some 31) (bA 29 1048575) HT_.out ?_
          refine pU 20 (some 32) (bA 29 2097151) HT_.out ?_
          refine pU 21 (some 33) (bA 29 4194303) HT_.out ?_
          refine pU 22 (some 34) (bA 29 8388607) HT_.out ?_
          refine pU 23 (some 35) (bA 29 16777215) HT_.out ?_
          refine pU 24 (some 36) (bA 29 33554431) HT_.out ?_
          refine pU 25 (some 37) (bA 29 67108863) HT_.out ?_
          refine pU 26 (some 38) (bA 29 134217727) HT_.out ?_
          refine pA 27 (some 39) (bA 29 268435455) HT_.out ?_
          refine pA 28 (some 40) (bA 29 536870911) HT_.out ?_
          refine done_ (done_of HT_.out (by kernel_rfl)) ?_
          try go_wp2
          go_roundg k1
          case measure => have := HK1.out; omega
          case rel => exact ⟨(wrap64 (x7_1 + 1)), (by first | rfl | (simp; done) | (simp [*]; done)), H', ⟨by have := HK1.out; omega⟩, ⟨(belS HB.out)⟩⟩
        ·replace c16 := Bool.eq_false_iff.mpr c16
         subst c16
         have H1 : (some false) = some r := by rw [if_neg (show ¬ (false = true) by decide)] at H; exact H
         clear H
         have H := H1
         clear H1
         obtain rfl := Option.some.inj H
         have p129 : 0 ≤ (x7_1 : Int) := of_decide_eq_true (by first | (with_reducible assumption) | assumption)
         have q129 : x7_1 < (l0.length : Int) := of_decide_eq_true (by first | (with_reducible assumption) | assumption)
         obtain ⟨ad129, e129, hx129_0, hx129_1, hx129_2⟩ := at_T31 HR0.out x7_1 p129 q129
         cases e129
         replace hx129_0 := cellB HB.out hx129_0
         replace hx129_1 := cellB HB.out hx129_1
         replace hx129_2 := cellB HB.out hx129_2
         replace p129 := eq_true p129
         replace q129 := eq_true q129
         try go_wp2_with (first | ((with_reducible refine gate_dst (N := 4) rfl ?_); refine box_event ?hg (N := 4) ?hd (cs := #[.int .i64 0, .int .i64 0, .int .i64 0]) (t := 31) ?hr ?_; (case hd => rfl); (case hg => rfl); (case hr => first | (go_simp; done) | (go_simp; rfl)); intro gb130 hg w37 hbox hb; have n0_ := Aside0.mk (below_step (belN HB.out) hb); have n1_ := Aside0.mk (hbox); have n2_ := Aside0.mk (szB hg HB.out); have n3_ := Aside0.mk (szB hg HB.out); clear HB; have HB := n0_; have BK130 := n1_; have GW130 := n2_; have GE130 := n3_; clear n0_ n1_ n2_ n3_; clear hb hbox hg; have hcz38_0 : w37.cell? ⟨gb130, 0, none⟩ = some (.int .i64 0) := (blk_cell BK130.out 0).trans rfl; have hcz38_1 : w37.cell? ⟨gb130, 1, none⟩ = some (.int .i64 0) := (blk_cell BK130.out 1).trans rfl; have hcz38_2 : w37.cell? ⟨gb130, 2, none⟩ = some (.int .i64 0) := (blk_cell BK130.out 2).trans rfl; have hfz38_0 := blk_frozen BK130.out 0; have hfz38_1 := blk_frozen BK130.out 1; have hfz38_2 := blk_frozen BK130.out 2))
         have n0_ : Aside0 ((((w37.setCell ⟨gb130, 0, none⟩ (.int .i64 ((rd_T31 l0 x7_1).f0))).setCell ⟨gb130, 1, none⟩ (.int .i64 ((rd_T31 l0 x7_1).f1.f0))).setCell ⟨gb130, 2, none⟩ (.int .i64 ((rd_T31 l0 x7_1).f1.f1))).heap[gb130]? = some (.cells #[.int .i64 ((rd_T31 l0 x7_1).f0), .int .i64 ((rd_T31 l0 x7_1).f1.f0), .int .i64 ((rd_T31 l0 x7_1).f1.f1)] 31 (0, 0))) := ⟨by (with_reducible repeat (first | refine blk_drewN ?_ _ | refine blk_drew ?_ | refine blk_alloc ?_ _)); refine blk_put (cs := #[.int .i64 ((rd_T31 l0 x7_1).f0), .int .i64 ((rd_T31 l0 x7_1).f1.f0), .int .i64 0]) ?_ 2 _ rfl; (with_reducible repeat (first | refine blk_drewN ?_ _ | refine blk_drew ?_ | refine blk_alloc ?_ _)); refine blk_put (cs := #[.int .i64 ((rd_T31 l0 x7_1).f0), .int .i64 0, .int .i64 0]) ?_ 1 _ rfl; (with_reducible repeat (first | refine blk_drewN ?_ _ | refine blk_drew ?_ | refine blk_alloc ?_ _)); refine blk_put (cs := #[.int .i64 0, .int .i64 0, .int .i64 0]) ?_ 0 _ rfl; (with_reducible repeat (first | refine blk_drewN ?_ _ | refine blk_drew ?_ | refine blk_alloc ?_ _)); exact BK130.out⟩
         have n1_ : Aside0 (Below w.heap.size w (((w37.setCell ⟨gb130, 0, none⟩ (.int .i64 ((rd_T31 l0 x7_1).f0))).setCell ⟨gb130, 1, none⟩ (.int .i64 ((rd_T31 l0 x7_1).f1.f0))).setCell ⟨gb130, 2, none⟩ (.int .i64 ((rd_T31 l0 x7_1).f1.f1)))) := ⟨(belS HB.out)⟩
         (try clear BK130)
         (try clear HB)
         generalize (((w37.setCell ⟨gb130, 0, none⟩ (.int .i64 ((rd_T31 l0 x7_1).f0))).setCell ⟨gb130, 1, none⟩ (.int .i64 ((rd_T31 l0 x7_1).f1.f0))).setCell ⟨gb130, 2, none⟩ (.int .i64 ((rd_T31 l0 x7_1).f1.f1))) = w39 at n0_ n1_ ⊢
         have BK130 := n0_
         have HB := n1_
         clear n0_ n1_
         have n0_ := Aside0.mk (blk_drew BK130.out)
         have n1_ := Aside0.mk (below_drew1 HB.out)
         clear BK130
         clear HB
         have BK130 := n0_
         have HB := n1_
         clear n0_ n1_
         refine start_ (n := 29) (S := fun w' => w'.cell? ⟨gb130, 0, none⟩ = some (.int .i64 ((rd_T31 l0 x7_1).f0)) ∧ w'.cell? ⟨gb130, 1, none⟩ = some (.int .i64 ((rd_T31 l0 x7_1).f1.f0)) ∧ w'.cell? ⟨gb130, 2, none⟩ = some (.int .i64 ((rd_T31 l0 x7_1).f1.f1))) (ds := []) #[false, false, false, false, false, false, false, false, false, false, false, false, false, false, false, false, false, false, false, false, false, false, false, false, false, false, false, false, false] (by kernel_rfl) rfl rfl ⟨(blk_cell BK130.out 0).trans rfl, (blk_cell BK130.out 1).trans rfl, (blk_cell BK130.out 2).trans rfl⟩ (fun hHeld => ?_); refine with_tabW down_Right.tab4 down_Right.bits4 (fun HT_ HW_ => ?_)
         generalize w39.drew = w40 at BK130 HB hHeld ⊢
         refine pA 0 (some 12) (bA 29 1) HT_.out ?_
         refine take_ (i := 1) (N := some 13) (v := ?_) (a' := ?_) (bA 29 3) rfl rfl (take_ofW HT_.out HW_.out (by kernel_rfl)) (fun _ _ _ h => h) (Or.inl ⟨by rfl, ?_⟩) hHeld ?_ ?_
         rotate_left
         ·rintro w' ⟨s0, s1, s2⟩
          go_simp
          with_reducible rfl
         rotate_left
         ·simp only [Act.put, List.setIfInBounds_toArray, List.set_cons_zero, List.set_cons_succ, i64_w, i32_w]
          rfl
         refine pA 2 (some 14) (bA 29 7) HT_.out ?_
         refine pA 3 (some 15) (bA 29 15) HT_.out ?_
         refine pA 4 (some 16) (bA 29 31) HT_.out ?_
         refine take_ (i := 5) (N := some 17) (v := ?_) (a' := ?_) (bA 29 63) rfl rfl (take_ofW HT_.out HW_.out (by kernel_rfl)) (fun _ _ _ h => h) (Or.inl ⟨by rfl, ?_⟩) hHeld ?_ ?_
         rotate_left
         ·rintro w' ⟨s0, s1, s2⟩
          go_simp
          with_reducible rfl
         rotate_left
         ·simp only [Act.put, List.setIfInBounds_toArray, List.set_cons_zero, List.set_cons_succ, i64_w, i32_w]
          rfl
         refine pA 6 (some 18) (bA 29 127) HT_.out ?_
         refine pA 7 (some 19) (bA 29 255) HT_.out ?_
         refine pA 8 (some 20) (bA 29 511) HT_.out ?_
         refine pA 9 (some 21) (bA 29 1023) HT_.out ?_
         refine take_ (i := 10) (N := some 22) (v := ?_) (a' := ?_) (bA 29 2047) rfl rfl (take_ofW HT_.out HW_.out (by kernel_rfl)) (fun _ _ _ h => h) (Or.inl ⟨by rfl, ?_⟩) hHeld ?_ ?_
         rotate_left
         ·rintro w' ⟨s0, s1, s2⟩
          go_simp
          with_reducible rfl
         rotate_left
         ·simp only [Act.put, List.setIfInBounds_toArray, List.set_cons_zero, List.set_cons_succ, i64_w, i32_w]
          rfl
         refine one_ (i := 11) (N := some 23) (bA 29 4095) rfl rfl (one_of HT_.out (by kernel_rfl)) (by decide) (fun K hK => ?_)
         refine goes_ Try.func31 (by kernel_rfl) rfl #[.agg #[.int .i64 ((rd_T31 l0 x7_1).f1.f0), .int .i64 ((rd_T31 l0 x7_1).f1.f1)]] (by rfl) rfl rfl argN ?_
         with_reducible refine (rat_Right.calls k1 ((rd_T31 l0 x7_1).f1.f0) ((rd_T31 l0 x7_1).f1.f1) false _ A15.out).mono ?_
         rintro e w41 ⟨rfl, hb⟩
         refine ⟨_, rfl, ?_⟩
         have n0_ := Aside0.mk (bkB BK130.out hb)
         have n1_ := Aside0.mk (below_step (belS HB.out) hb)
         clear BK130
         clear HB
         have BK130 := n0_
         have HB := n1_
         clear n0_ n1_
         (try clear hb)
         refine hK.out _ _ ⟨(blk_cell BK130.out 0).trans rfl, (blk_cell BK130.out 1).trans rfl, (blk_cell BK130.out 2).trans rfl⟩ (fun hHeld => ?_)
         clear hK K
         refine norm_ (a' := ?_) ?_ ?_
         rotate_left
         ·show Act.put _ (some 23) _ = _
          simp only [Act.put, List.setIfInBounds_toArray, List.set_cons_zero, List.set_cons_succ, i64_w, i32_w]
          rfl
         refine pA 12 (some 24) (bA 29 8191) HT_.out ?_
         refine pA 13 (some 25) (bA 29 16383) HT_.out ?_
         refine pA 14 (some 26) (bA 29 32767) HT_.out ?_
         refine pU 15 (some 27) (bA 29 65535) HT_.out ?_
         refine pU 16 (some 28) (bA 29 131071) HT_.out ?_
         refine pU 17 (some 29) (bA 29 262143) HT_.out ?_
         refine pU 18 (some 30) (bA 29 524287) HT_.out ?_
         refine pU 19 (some 31) (bA 29 1048575) HT_.out ?_
         refine pU 20 (some 32) (bA 29 2097151) HT_.out ?_
         refine pU 21 (some 33) (bA 29 4194303) HT_.out ?_
         refine pU 22 (some 34) (bA 29 8388607) HT_.out ?_
         refine pU 23 (some 35) (bA 29 16777215) HT_.out ?_
         refine pU 24 (some 36) (bA 29 33554431) HT_.out ?_
         refine pU 25 (some 37) (bA 29 67108863) HT_.out ?_
         refine pU 26 (some 38) (bA 29 134217727) HT_.out ?_
         refine pU 27 (some 39) (bA 29 268435455) HT_.out ?_
         refine pA 28 (some 40) (bA 29 536870911) HT_.out ?_
         refine done_ (done_of HT_.out (by kernel_rfl)) ?_
         try go_wp2
         go_ret
         exact ⟨by first | rfl | (simp [errW_none, errW_some] <;> rfl) | (simp [*, errW_none, errW_some] <;> rfl), (belS HB.out)⟩
     ·rw [if_neg c4] at H
      exact absurd H (by simp)
    ·rw [if_neg c3] at H
     exact absurd H (by simp)
   ·rw [if_neg c2] at H
    have c2b0 : decide (x7_1 < (l0.length : Int)) = false := decide_eq_false c2
    clear c2
    obtain rfl := Option.some.inj H
    go_wp2
    go_ret
    exact ⟨by first | rfl | (simp [errW_none, errW_some] <;> rfl) | (simp [*, errW_none, errW_some] <;> rfl), (belN HB.out)⟩

/-! ### fold_Right: function 21 -/
def fold_Right.f (a0 : Int) : Option (Bool) := if a0 ≥ 1 then (some (decide (a0 ≤ 7))) else (some false)
set_option maxHeartbeats 8000000 in
set_option maxRecDepth 100000 in
theorem fold_Right.calls (a0 : Int) (r : Bool) (w : World) (h : fold_Right.f a0 = some r) :
    Calls Try.prog 21 #[.int .i64 a0] w fun e w' => e = .returned (.bool r) ∧ Drawn0 w w' := by
  have H : (if a0 ≥ 1 then (some (decide (a0 ≤ 7))) else (some false)) = some r := h
  clear h
  by_cases c2 : a0 ≥ 1
  · rw [if_pos c2] at H
    have c2b0 : decide (1 ≤ a0) = true := decide_eq_true c2
    clear c2
    obtain rfl := Option.some.inj H
    go_enter Try.func21, Try.ntmps21
    go_wp2
    go_ret
    exact ⟨by first | rfl | (simp; done) | (simp [*]; done), by repeat (first | exact Drawn0.refl _ | apply Drawn0.step)⟩
  · rw [if_neg c2] at H
    have c2b0 : decide (1 ≤ a0) = false := decide_eq_false c2
    clear c2
    obtain rfl := Option.some.inj H
    go_enter Try.func21, Try.ntmps21
    go_wp2
    go_ret
    exact ⟨by first | rfl | (simp; done) | (simp [*]; done), by repeat (first | exact Drawn0.refl _ | apply Drawn0.step)⟩

/-! ### down_fill: function 23 -/
def down_fill.l0 : Nat → Int → Int → Bool → List (S53) → Int → Option ((List (S53)))
 | 0, _, _, _, _, _ => none
 | k + 1, x1, x2, x3, x9, x10 => if x3 = true then (if x10 ≤ x1 then (if x9.length < 4398046511104 then (down_fill.l0 k x1 x2 x3 (x9 ++ [(⟨x10, ([] : List (S29))⟩ : S53)]) (wrap64 (x10 + x2))) else (none)) else (some x9)) else (some x9)
def down_fill.f (k : Nat) (a0 : Int) (a1 : Int) (a2 : Int) (a3 : Bool) : Option ((List (S53))) := down_fill.l0 k a1 a2 a3 ([] : List (S53)) a0
theorem down_fill.mono_l : ∀ k, (∀ y0 y1 y2 y3 y4, LeO (down_fill.l0 k y0 y1 y2 y3 y4) (down_fill.l0 (k + 1) y0 y1 y2 y3 y4))
 | 0 => fun _ _ _ _ _ r h => by simp [down_fill.l0] at h
 | k + 1 => by
  have ih0 := down_fill.mono_l k
  ·intro y0 y1 y2 y3 y4
   unfold down_fill.l0
   repeat' first
   | (with_reducible exact ih0 _ _ _ _ _)
   | (with_reducible exact LeO.refl _)
   | (with_reducible exact LeO.none _)
   | (with_reducible refine LeO.ite ?_ ?_)
   | (with_reducible refine LeO.bind ?_ (fun _ => ?_))
   | exact ih0 _ _ _ _ _
   | exact LeO.none _
   | refine LeO.ite ?_ ?_
   | refine LeO.bind ?_ (fun _ => ?_)
theorem down_fill.mono : ∀ a0 a1 a2 a3 k, LeO (down_fill.f k a0 a1 a2 a3) (down_fill.f (k + 1) a0 a1 a2 a3) := by
 intro a0 a1 a2 a3 k
 have ih0 := down_fill.mono_l k
 unfold down_fill.f
 repeat' first
   | (with_reducible exact ih0 _ _ _ _ _)
   | (with_reducible exact LeO.refl _)
   | (with_reducible exact LeO.none _)
   | (with_reducible refine LeO.ite ?_ ?_)
   | (with_reducible refine LeO.bind ?_ (fun _ => ?_))
   | exact ih0 _ _ _ _ _
   | exact LeO.none _
   | refine LeO.ite ?_ ?_
   | refine LeO.bind ?_ (fun _ => ?_)
set_option maxHeartbeats 8000000 in
set_option maxRecDepth 100000 in
theorem down_fill.calls (k : Nat) (a0 : Int) (a1 : Int) (a2 : Int) (a3 : Bool) (r : List (S53)) (w : World) (h : down_fill.f k a0 a1 a2 a3 = some r) :
  Calls Try.prog 23 #[.int .i64 a0, .int .i64 a1, .int .i64 a2, .bool a3] w fun e w' => ∃ v0_ : Value, e = .returned (v0_) ∧ Kd.S k53 53 w' w.heap.size (fun _ => True) v0_ r ∧ Below w.heap.size w w' := by
 have hu53 := Try.underlying53
 have HB := Aside0.mk (Below.refl w.heap.size w)
 have H : (down_fill.l0 k a1 a2 a3 ([] : List (S53)) a0) = some r := h
 clear h
 have H' := Aside0.mk H
 clear H
 go_enter Try.func23, Try.ntmps23
 go_wp2
 go_loopg [9, 10] k (fun kq v9 v10 w' => ∃ (x9_1 : List (S53)) (x10_1 : Int), v10 = .int .i64 x10_1 ∧ Aside0 (down_fill.l0 kq a1 a2 a3 x9_1 x10_1 = some r) ∧ Aside0 (kq ≤ k) ∧ Aside0 (Kd.S k53 53 w' w.heap.size (fun _ => True) v9 x9_1) ∧ Aside0 (Below w.heap.size w w'))
 case atStart => exact ⟨(([] : List (S53))), (a0), (by first | rfl | (simp; done) | (simp [*]; done)), H', ⟨Nat.le_refl _⟩, ⟨by first | exact Kd.S_nil _ _ _ _ _ | exact Kd.N_nil _ _ _ _ _ | exact Kd.V_nil _ _ _ _ _ | exact Kd.Q_nil _ _ _ _ _ | exact Kd.R_nil _ _ _ _ _⟩, ⟨(belN HB.out)⟩⟩
 case round =>
  clear H'
  try clear c2
  try clear p2
  obtain ⟨x9_1, x10_1, rfl, HA, HK1, HO_9, HB⟩ := hrel
  cases gk with
  | zero => exact absurd HA.out (by simp [down_fill.l0])
  | succ k1 =>
   have H := HA.out
   clear HA
   simp only [down_fill.l0] at H
   by_cases c5 : a3 = true
   ·subst c5
    have H1 : (if x10_1 ≤ a1 then (if x9_1.length < 4398046511104 then (down_fill.l0 k1 a1 a2 true (x9_1 ++ [(⟨x10_1, ([] : List (S29))⟩ : S53)]) (wrap64 (x10_1 + a2))) else (none)) else (some x9_1)) = some r := by rw [if_pos rfl] at H; exact H
    clear H
    have H := H1
    clear H1
    by_cases c6 : x10_1 ≤ a1
    ·rw [if_pos c6] at H
     have c6b0 : decide (x10_1 ≤ a1) = true := decide_eq_true c6
     clear c6
     by_cases c7 : x9_1.length < 4398046511104
     ·rw [if_pos c7] at H
      have LMc7 := Aside0.mk c7
      clear c7
      obtain ⟨y133, hy133⟩ : ∃ y_ : List (S53), y_ = (x9_1 ++ [(⟨x10_1, ([] : List (S29))⟩ : S53)]) := ⟨_, rfl⟩
      replace H : (down_fill.l0 k1 a1 a2 true y133 (wrap64 (x10_1 + a2))) = some r := by first | (rw [hy133]; with_reducible exact H) | (have H2_ := (Option.bind_some _ _).symm.trans H; rw [hy133]; with_reducible exact H2_) | (have H2_ := (Option.bind_some _ _).symm.trans H; with_reducible exact H2_) | with_reducible exact H | (rw [hy133]; exact H) | exact H
      have Ny133 := Aside0.mk hy133
      clear hy133
      have H' := Aside0.mk H
      clear H
      go_wp2_with (first | ((with_reducible refine gate_builtin (b := .append) (xs := #[.tmp 21, .tmp 24]) rfl ?_); at_builtin; refine Kd.S_append k53 (w0 := w) w.heap.size rfl (.tmp 21) (.tmp 24) 49 53 (.agg #[(.int .i64 0), (.slice none 0 0)]) 32 rfl Try.underlying49 info53 rfl (by decide) (by omega) u9 x9_1 (⟨x10_1, ([] : List (S29))⟩ : S53) [.int .i64 x10_1, .slice none 0 0] (fun _ => True) (fun _ => False) rfl rfl ?aP (fun k_ hk_ => hk_.elim) ?aF ?aO ?aB ?aS ?aL ?_; (case aP => exact k53_mkM _ _ _ (⟨x10_1, ([] : List (S29))⟩ : S53) (Kd.R_nil _ _ _ _ _)); (case aB => exact (belN HB.out)); (case aF => exact (fun _ _ => trivial)); (case aO => exact (by (with_reducible repeat (first | apply Kd.S_alloc | apply Kd.S_drewN | apply Kd.S_drew)); exact Kd.S_mono HO_9.out (fun k_ hk => ⟨trivial, fun e_ => e_⟩))); (case aS => exact (below_size (belN HB.out))); (case aL => have := LMc7.out; omega); intro v134 w8 ho hb hg hat; rw [← Ny133.out] at ho; have n0_ := Aside0.mk (hb); have n1_ := Aside0.mk (ho); clear HB; clear HO_9; have HB := n0_; have HO135 := n1_; clear n0_ n1_; clear ho hb hg hat))
      go_roundg k1
      case measure => have := HK1.out; omega
      case rel => exact ⟨(y133), (wrap64 (x10_1 + a2)), (by first | rfl | (simp; done) | (simp [*]; done)), H', ⟨by have := HK1.out; omega⟩, ⟨by (with_reducible repeat (first | apply Kd.S_alloc | apply Kd.S_drewN | apply Kd.S_drew)); exact HO135.out⟩, ⟨(belN HB.out)⟩⟩
     ·rw [if_neg c7] at H
      exact absurd H (by simp)
    ·rw [if_neg c6] at H
     have c6b0 : decide (x10_1 ≤ a1) = false := decide_eq_false c6
     clear c6
     obtain rfl := Option.some.inj H
     go_wp2
     go_ret
     exact ⟨_, by first | rfl | (simp [errW_none, errW_some] <;> rfl) | (simp [*, errW_none, errW_some] <;> rfl), by (with_reducible repeat (first | apply Kd.S_alloc | apply Kd.S_drewN | apply Kd.S_drew)); exact HO_9.out, (belN HB.out)⟩
   ·replace c5 := Bool.eq_false_iff.mpr c5
    subst c5
    have H1 : (some x9_1) = some r := by rw [if_neg (show ¬ (false = true) by decide)] at H; exact H
    clear H
    have H := H1
    clear H1
    obtain rfl := Option.some.inj H
    go_wp2
    go_ret
    exact ⟨_, by first | rfl | (simp [errW_none, errW_some] <;> rfl) | (simp [*, errW_none, errW_some] <;> rfl), by (with_reducible repeat (first | apply Kd.S_alloc | apply Kd.S_drewN | apply Kd.S_drew)); exact HO_9.out, (belN HB.out)⟩

end Go.Proofs.Ytlmhgjnlbokceaa.PDownTells

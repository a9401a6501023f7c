/- The walk of the Go functions that a law reaches, told as plain functions; a program of this session has written it. No condition beyond the statement's own. -/
import Derived.Test.YtlmhgjnlbokceaaPDownOnex0
import Derived.Test.YtlmhgjnlbokceaaPDownOnex2
import Derived.Test.YtlmhgjnlbokceaaPDownOnex3
import Derived.Test.YtlmhgjnlbokceaaPDownOnex10
import Derived.Test.YtlmhgjnlbokceaaPDownOnex13
namespace Go.Proofs.Ytlmhgjnlbokceaa.PDownOne
open Go.RowKit Go.Proofs.YtlmhgjnlbokceaaW.PrintWords Go.Proofs.YtlmhgjnlbokceaaW.PrintLast Go.Proofs.YtlmhgjnlbokceaaW.PrintMore
attribute [local go_sem] max2_int min2_int max_two min_two max_three min_three max_four min_four   -- for this text's walks alone
set_option linter.unusedVariables false
set_option linter.unusedSimpArgs false

attribute [local go_sem high] eqA31
/-! ### marigraphlaw21_DownOne: function 6 -/
mutual
def marigraphlaw21_DownOne.l0 : Nat → List (S31) → List Int → Int → Int → Option (Bool)
 | 0, _, _, _, _ => none
 | k + 1, x5, x19, x20, x21 => if x21 < x20 then (if 0 ≤ x21 then (if x21 < (x19.length : Int) then ((down_Do.f k x5 0 1000 1 (rd x19 x21) false).bind fun bt322 => (if bt322.2 = 0 then ((marigraphref21_Same.f k bt322.1 x5).bind fun t326 => (if t326 = true then (marigraphlaw21_DownOne.l0 k x5 x19 x20 (wrap64 (x21 + 1))) else (some false))) else (some false))) else (none)) else (none)) else ((down_Do.f k x5 0 1000 1001 3 false).bind fun bt327 => (if (x5.length : Int) = 0 then (if bt327.2 = 0 then (if (bt327.1.length : Int) = 0 then ((marigraphlaw21_known.f k).bind fun t331 => (some t331)) else (some false)) else (some false)) else (marigraphlaw21_DownOne.l1 k x5 bt327.1 bt327.2 ([] : List (S29)) 0)))
def marigraphlaw21_DownOne.l1 : Nat → List (S31) → List (S31) → Int → List (S29) → Int → Option (Bool)
 | 0, _, _, _, _, _ => none
 | k + 1, x5, x10, x11, x12, x13 => if x13 < (x5.length : Int) then (if 0 ≤ x13 then (if x12.length < 8796093022208 then (marigraphlaw21_DownOne.l1 k x5 x10 x11 (x12 ++ [(⟨(rd_T31 x5 x13).f1.f0, (rd_T31 x5 x13).f1.f1⟩ : S29)]) (wrap64 (x13 + 1))) else (none)) else (none)) else ((marigraphref20_Do.f k 3 x12).bind fun bt336 => (if x11 = 0 then (if bt336.2.2 = 0 then (if (x10.length : Int) = 1 then (if 0 < (x10.length : Int) then (if (((rd_T31 x10 0).f0) == 0 && ((((rd_T31 x10 0).f1.f0) == bt336.1 && (((rd_T31 x10 0).f1.f1) == bt336.2.1)))) = true then ((marigraphlaw21_known.f k).bind fun t341 => (some t341)) else (some false)) else (none)) else (some false)) else (some false)) else (some false)))
end
def marigraphlaw21_DownOne.f (k : Nat) (l0 : List Int) (l1 : List Int) : Option (Bool) := (marigraphkeep_Samples.f k l0 l1 12).bind fun t315 => ((some (([1, 2, 3, 4, 6, 7] : List Int) : List Int)).bind fun y318 => (marigraphlaw21_DownOne.l0 k t315 y318 (y318.length : Int) 0))
theorem marigraphlaw21_DownOne.mono_l : ∀ k, (∀ y0 y1 y2 y3, LeO (marigraphlaw21_DownOne.l0 k y0 y1 y2 y3) (marigraphlaw21_DownOne.l0 (k + 1) y0 y1 y2 y3)) ∧ (∀ y0 y1 y2 y3 y4, LeO (marigraphlaw21_DownOne.l1 k y0 y1 y2 y3 y4) (marigraphlaw21_DownOne.l1 (k + 1) y0 y1 y2 y3 y4))
 | 0 => ⟨fun _ _ _ _ r h => by simp [marigraphlaw21_DownOne.l0] at h, fun _ _ _ _ _ r h => by simp [marigraphlaw21_DownOne.l1] at h⟩
 | k + 1 => by
  obtain ⟨ih0, ih1⟩ := marigraphlaw21_DownOne.mono_l k
  refine ⟨?_, ?_⟩
  ·intro y0 y1 y2 y3
   unfold marigraphlaw21_DownOne.l0
   repeat' first
   | (with_reducible exact ih0 _ _ _ _)
   | (with_reducible exact ih1 _ _ _ _ _)
   | (with_reducible exact down_Do.mono _ _ _ _ _ _ _)
   | (with_reducible exact marigraphkeep_Samples.mono _ _ _ _)
   | (with_reducible exact marigraphlaw21_known.mono _)
   | (with_reducible exact marigraphref20_Do.mono _ _ _)
   | (with_reducible exact marigraphref21_Same.mono _ _ _)
   | (with_reducible exact LeO.refl _)
   | (with_reducible exact LeO.none _)
   | (with_reducible refine LeO.ite ?_ ?_)
   | (with_reducible refine LeO.bind ?_ (fun _ => ?_))
   | exact ih0 _ _ _ _
   | exact ih1 _ _ _ _ _
   | exact down_Do.mono _ _ _ _ _ _ _
   | exact marigraphkeep_Samples.mono _ _ _ _
   | exact marigraphlaw21_known.mono _
   | exact marigraphref20_Do.mono _ _ _
   | exact marigraphref21_Same.mono _ _ _
   | exact LeO.none _
   | refine LeO.ite ?_ ?_
   | refine LeO.bind ?_ (fun _ => ?_)
  ·intro y0 y1 y2 y3 y4
   unfold marigraphlaw21_DownOne.l1
   repeat' first
   | (with_reducible exact ih0 _ _ _ _)
   | (with_reducible exact ih1 _ _ _ _ _)
   | (with_reducible exact down_Do.mono _ _ _ _ _ _ _)
   | (with_reducible exact marigraphkeep_Samples.mono _ _ _ _)
   | (with_reducible exact marigraphlaw21_known.mono _)
   | (with_reducible exact marigraphref20_Do.mono _ _ _)
   | (with_reducible exact marigraphref21_Same.mono _ _ _)
   | (with_reducible exact LeO.refl _)
   | (with_reducible exact LeO.none _)
   | (with_reducible refine LeO.ite ?_ ?_)
   | (with_reducible refine LeO.bind ?_ (fun _ => ?_))
   | exact ih0 _ _ _ _
   | exact ih1 _ _ _ _ _
   | exact down_Do.mono _ _ _ _ _ _ _
   | exact marigraphkeep_Samples.mono _ _ _ _
   | exact marigraphlaw21_known.mono _
   | exact marigraphref20_Do.mono _ _ _
   | exact marigraphref21_Same.mono _ _ _
   | exact LeO.none _
   | refine LeO.ite ?_ ?_
   | refine LeO.bind ?_ (fun _ => ?_)
theorem marigraphlaw21_DownOne.mono : ∀ a0 a1 k, LeO (marigraphlaw21_DownOne.f k a0 a1) (marigraphlaw21_DownOne.f (k + 1) a0 a1) := by
 intro a0 a1 k
 obtain ⟨ih0, ih1⟩ := marigraphlaw21_DownOne.mono_l k
 unfold marigraphlaw21_DownOne.f
 repeat' first
   | (with_reducible exact ih0 _ _ _ _)
   | (with_reducible exact ih1 _ _ _ _ _)
   | (with_reducible exact down_Do.mono _ _ _ _ _ _ _)
   | (with_reducible exact marigraphkeep_Samples.mono _ _ _ _)
   | (with_reducible exact marigraphlaw21_known.mono _)
   | (with_reducible exact marigraphref20_Do.mono _ _ _)
   | (with_reducible exact marigraphref21_Same.mono _ _ _)
   | (with_reducible exact LeO.refl _)
   | (with_reducible exact LeO.none _)
   | (with_reducible refine LeO.ite ?_ ?_)
   | (with_reducible refine LeO.bind ?_ (fun _ => ?_))
   | exact ih0 _ _ _ _
   | exact ih1 _ _ _ _ _
   | exact down_Do.mono _ _ _ _ _ _ _
   | exact marigraphkeep_Samples.mono _ _ _ _
   | exact marigraphlaw21_known.mono _
   | exact marigraphref20_Do.mono _ _ _
   | exact marigraphref21_Same.mono _ _ _
   | exact LeO.none _
   | refine LeO.ite ?_ ?_
   | refine LeO.bind ?_ (fun _ => ?_)
def marigraphlaw21_DownOne.T18 : Bool × List (List Nat × List Nat) := (true, [([], []), ([0], [0]), ([1], [1]), ([2], [2]), ([3, 2], [2, 3]), ([2, 4], [2, 4]), ([5, 2], [5]), ([6], [6]), ([7, 6], [6, 7]), ([8, 6], [6, 8]), ([6, 9], [6, 9]), ([10, 6], [10]), ([11], [11]), ([12, 11], [11, 12]), ([13, 11], [11, 13]), ([11], [11]), ([15, 11], [11, 15]), ([14, 16, 11], [11, 14, 16]), ([11, 17], [11, 17]), ([18, 11], [18]), ([19, 19], [19]), ([19, 20], [19, 20]), ([21, 20, 0, 1, 2, 3, 4, 5, 6, 7, 8, 9, 10, 11, 12, 13, 14, 15, 16, 17, 18, 19, 20, 21], [21])])
def marigraphlaw21_DownOne.B18 : List Nat := [0, 1, 3, 7, 15, 31, 63, 127, 255, 511, 1023, 2047, 4095, 8191, 16383, 4095, 36863, 131071, 262143, 524287, 1048575, 2097151, 4194303]
theorem marigraphlaw21_DownOne.tab18 : rtab .any (opsOf Try.f6 18) = marigraphlaw21_DownOne.T18 := by kernel_rfl
theorem marigraphlaw21_DownOne.bits18 : waitsOk marigraphlaw21_DownOne.T18.2 marigraphlaw21_DownOne.B18 = true := by kernel_rfl
set_option maxHeartbeats 8000000 in
set_option maxRecDepth 100000 in
theorem marigraphlaw21_DownOne.calls (k : Nat) (A0 : Option Addr) (c0 : Nat) (l0 : List Int) (A1 : Option Addr) (c1 : Nat) (l1 : List Int) (r : Bool) (w : World) (hr0 : Kd.C (Kd.int .i64) w A0 l0.length l0) (hc0 : l0.length ≤ c0) (hr1 : Kd.C (Kd.int .i64) w A1 l1.length l1) (hc1 : l1.length ≤ c1) (h : marigraphlaw21_DownOne.f k l0 l1 = some r) :
  Calls Try.prog 6 #[.slice A0 l0.length c0, .slice A1 l1.length c1] w fun e w' => e = .returned (.bool r) ∧ Below w.heap.size w w' := by
 have hu29 := Try.underlying29
 have hu31 := Try.underlying31
 have HR0 := Aside0.mk hr0
 have HC0 := Aside0.mk hc0
 clear hr0 hc0
 have HR1 := Aside0.mk hr1
 have HC1 := Aside0.mk hc1
 clear hr1 hc1
 have HB := Aside0.mk (Below.refl w.heap.size w)
 have H : ((marigraphkeep_Samples.f k l0 l1 12).bind fun t315 => ((some (([1, 2, 3, 4, 6, 7] : List Int) : List Int)).bind fun y318 => (marigraphlaw21_DownOne.l0 k t315 y318 (y318.length : Int) 0))) = some r := h
 clear h
 replace H := Option.bind_eq_some_iff.mp H
 obtain ⟨t315, A30, H⟩ := H
 replace H : ((some (([1, 2, 3, 4, 6, 7] : List Int) : List Int)).bind fun y318 => (marigraphlaw21_DownOne.l0 k t315 y318 (y318.length : Int) 0)) = some r := H
 have A3 := Aside0.mk A30
 clear A30
 obtain ⟨y318, hy318⟩ : ∃ y_ : List Int, y_ = (([1, 2, 3, 4, 6, 7] : List Int)) := ⟨_, rfl⟩
 replace H : (marigraphlaw21_DownOne.l0 k t315 y318 (y318.length : Int) 0) = some r := by first | (rw [hy318]; with_reducible exact H) | (have H2_ := (Option.bind_some _ _).symm.trans H; rw [hy318]; with_reducible exact H2_) | (have H2_ := (Option.bind_some _ _).symm.trans H; with_reducible exact H2_) | with_reducible exact H | (rw [hy318]; exact H) | exact H
 have Ny318 := Aside0.mk hy318
 clear hy318
 have H' := Aside0.mk H
 clear H
 go_enter Try.func6, Try.ntmps6
 go_wp2_with (first | ((with_reducible refine gate_callee (f := 7) rfl ?_); refine goesL_ (some 18) rfl rfl Try.func7 (by kernel_rfl) rfl #[.slice A0 l0.length c0, .slice A1 l1.length c1, .int .i64 12] rfl argN ?_; (with_reducible refine (marigraphkeep_Samples.calls k _ _ l0 _ _ l1 12 t315 _ ?side1 ?side2 ?side3 ?side4 A3.out).mono ?_); (case side1 => repeat (first | exact HR0.out | (with_reducible refine Kd.C_alloc ?_ _) | (with_reducible refine Kd.C_drewN ?_ _) | (with_reducible refine Kd.C_drew ?_))); (case side2 => exact HC0.out); (case side3 => repeat (first | exact HR1.out | (with_reducible refine Kd.C_alloc ?_ _) | (with_reducible refine Kd.C_drewN ?_ _) | (with_reducible refine Kd.C_drew ?_))); (case side4 => exact HC1.out); rintro e w4 ⟨v316, rfl, ho0, hb⟩; refine ⟨_, rfl, ?_⟩; have n0_ := Aside0.mk (Kd.R_lower ho0 (below_size (belN HB.out))); have n1_ := Aside0.mk (below_step (belN HB.out) hb); clear HB; have HO317 := n0_; have HB := n1_; clear n0_ n1_; (try clear hb); (try clear hk); (try clear ho0)) | ((with_reducible refine gate_dst (N := 19) rfl ?_); (try (refine gate_guard (by rfl) ?_; dsimp only)); refine Kd.R_lit (Kd.int .i64) _ 3 ?hg (N := 19) ?hd (xs := ([1, 2, 3, 4, 6, 7] : List Int)) (inner := [.int .i64 1, .int .i64 2, .int .i64 3, .int .i64 4, .int .i64 6, .int .i64 7]) (ok := fun _ => True) (okp := fun _ => True) ?hr ?hp (fun _ hk => hk) trivial (Below.refl _ _) (Nat.le_refl _) (by simp) ?_; (case hd => rfl); (case hg => rfl); (case hr => first | (go_simp; done) | (go_simp; rfl)); (case hp => exact (Reps.one (show Kd.M (Kd.int .i64) _ _ _ 1 [.int .i64 1] from rfl) (Reps.one (show Kd.M (Kd.int .i64) _ _ _ 2 [.int .i64 2] from rfl) (Reps.one (show Kd.M (Kd.int .i64) _ _ _ 3 [.int .i64 3] from rfl) (Reps.one (show Kd.M (Kd.int .i64) _ _ _ 4 [.int .i64 4] from rfl) (Reps.one (show Kd.M (Kd.int .i64) _ _ _ 6 [.int .i64 6] from rfl) (Reps.one (show Kd.M (Kd.int .i64) _ _ _ 7 [.int .i64 7] from rfl) (Reps.none _ _)))))))); intro v319 w5 ho6 hb hg_ hnew_; clear hg_ hnew_; (first | rw [← Ny318.out] at ho6 | (simp only [Int.reduceToNat] at ho6; rw [← Ny318.out] at ho6)); have n0_ := Aside0.mk (Kd.R_below (rowN HO317.out) hb); have n1_ := Aside0.mk (Kd.R_lower ho6 (below_size (belN HB.out))); have n2_ := Aside0.mk (below_step (belN HB.out) hb); clear HO317; clear HB; have HO317 := n0_; have HO320 := n1_; have HB := n2_; clear n0_ n1_ n2_; clear hb ho6; obtain ⟨Ao7, co7, eo7⟩ := Kd.R_slice HO320.out; subst eo7))
 go_loopg [21] k (fun kq v21 w' => ∃ (x21_1 : Int), v21 = .int .i64 x21_1 ∧ Aside0 (marigraphlaw21_DownOne.l0 kq t315 y318 (y318.length : Int) x21_1 = some r) ∧ Aside0 (kq ≤ k) ∧ Aside0 (Kd.R k31 31 w' w.heap.size (fun _ => True) v316 t315) ∧ Aside0 (Kd.R (Kd.int .i64) 3 w' w.heap.size (fun _ => True) (.slice Ao7 y318.length co7) y318) ∧ Aside0 (Below w.heap.size w w'))
 case atStart => exact ⟨(0), (by first | rfl | (simp; done) | (simp [*]; done)), H', ⟨Nat.le_refl _⟩, ⟨(rowN HO317.out)⟩, ⟨(rowN HO320.out)⟩, ⟨(belN HB.out)⟩⟩
 case round =>
  clear H'
  try clear c1
  try clear p2
  try clear c6
  try clear c7
  obtain ⟨x21_1, rfl, HA, HK1, HO_5, HO_19, HB⟩ := hrel
  cases gk with
  | zero => exact absurd HA.out (by simp [marigraphlaw21_DownOne.l0])
  | succ k1 =>
   have H := HA.out
   clear HA
   simp only [marigraphlaw21_DownOne.l0] at H
   by_cases c8 : x21_1 < (y318.length : Int)
   ·rw [if_pos c8] at H
    have c8b0 : decide (x21_1 < (y318.length : Int)) = true := decide_eq_true c8
    clear c8
    by_cases c9 : 0 ≤ x21_1
    ·rw [if_pos c9] at H
     have c9b0 : decide (0 ≤ x21_1) = true := decide_eq_true c9
     clear c9
     by_cases c10 : x21_1 < (y318.length : Int)
     ·rw [if_pos c10] at H
      have c10b0 : decide (x21_1 < (y318.length : Int)) = true := decide_eq_true c10
      clear c10
      replace H := Option.bind_eq_some_iff.mp H
      obtain ⟨⟨t322, t323⟩, A110, H⟩ := H
      replace H : (if t323 = 0 then ((marigraphref21_Same.f k1 t322 t315).bind fun t326 => (if t326 = true then (marigraphlaw21_DownOne.l0 k1 t315 y318 (y318.length : Int) (wrap64 (x21_1 + 1))) else (some false))) else (some false)) = some r := H
      have A11 := Aside0.mk A110
      clear A110
      by_cases c12 : t323 = 0
      ·rw [if_pos c12] at H
       have c12b0 : (t323 == 0) = true := beq_iff_eq.mpr c12
       have c12b1 : (t323 != 0) = false := bne_eq_false_iff_eq.mpr c12
       clear c12
       replace H := Option.bind_eq_some_iff.mp H
       obtain ⟨t326, A130, H⟩ := H
       replace H : (if t326 = true then (marigraphlaw21_DownOne.l0 k1 t315 y318 (y318.length : Int) (wrap64 (x21_1 + 1))) else (some false)) = some r := H
       have A13 := Aside0.mk A130
       clear A130
       by_cases c14 : t326 = true
       ·subst c14
        have H1 : (marigraphlaw21_DownOne.l0 k1 t315 y318 (y318.length : Int) (wrap64 (x21_1 + 1))) = some r := by rw [if_pos rfl] at H; exact H
        clear H
        have H := H1
        clear H1
        have H' := Aside0.mk H
        clear H
        have p321 : 0 ≤ (x21_1 : Int) := of_decide_eq_true (by first | (with_reducible assumption) | assumption)
        have q321 : x21_1 < (y318.length : Int) := of_decide_eq_true (by first | (with_reducible assumption) | assumption)
        obtain ⟨ad321, e321, hx321_0⟩ := Kd.at_int (Kd.R_reads' HO_19.out).2.2 x21_1 p321 q321
        cases e321
        replace p321 := eq_true p321
        replace q321 := eq_true q321
        obtain ⟨Ao15, co15, eo15⟩ := Kd.R_slice HO_5.out
        subst eo15
        go_wp2_with (first | ((with_reducible refine gate_callee (f := 12) rfl ?_); refine goesL_ (some 28) rfl rfl Try.func12 (by kernel_rfl) rfl #[.slice Ao15 t315.length co15, .int .i64 0, .int .i64 1000, .int .i64 1, .int .i64 (rd y318 x21_1), .bool false] rfl argN ?_; (with_reducible refine (down_Do.calls k1 _ _ t315 0 1000 1 (rd y318 x21_1) false t322 t323 _ ?side1 ?side2 A11.out).mono ?_); (case side1 => repeat (first | exact (Kd.R_reads' HO_5.out).2.2 | (with_reducible refine Kd.C_alloc ?_ _) | (with_reducible refine Kd.C_drewN ?_ _) | (with_reducible refine Kd.C_drew ?_))); (case side2 => exact (Kd.R_reads' HO_5.out).2.1); rintro e w16 ⟨v324, rfl, ho0, hb⟩; refine ⟨_, rfl, ?_⟩; have n0_ := Aside0.mk (Kd.R_elder' (rowN HO_5.out) (Kd.R_base ho0) hb); have n1_ := Aside0.mk (Kd.R_below (rowN HO_19.out) hb); have n2_ := Aside0.mk (Kd.R_lower (Kd.R_new' ho0 (Kd.R_lt (rowN HO_5.out))) (below_size (belN HB.out))); have n3_ := Aside0.mk (below_step (belN HB.out) hb); clear HO_5; clear HO_19; clear HB; have HO_5 := n0_; have HO_19 := n1_; have HO325 := n2_; have HB := n3_; clear n0_ n1_ n2_ n3_; (try clear hb); (try clear hk); (try clear ho0); obtain ⟨Ao17, co17, eo17⟩ := Kd.R_slice HO325.out; subst eo17) | (go_at_call 15; (with_reducible refine (marigraphref21_Same.calls k1 _ _ t322 _ _ t315 true _ ?side1 ?side2 ?side3 ?side4 A13.out).mono ?_); (case side1 => repeat (first | exact (Kd.R_reads' HO325.out).2.2 | (with_reducible refine Kd.C_alloc ?_ _) | (with_reducible refine Kd.C_drewN ?_ _) | (with_reducible refine Kd.C_drew ?_))); (case side2 => exact (Kd.R_reads' HO325.out).2.1); (case side3 => repeat (first | exact (Kd.R_reads' HO_5.out).2.2 | (with_reducible refine Kd.C_alloc ?_ _) | (with_reducible refine Kd.C_drewN ?_ _) | (with_reducible refine Kd.C_drew ?_))); (case side4 => exact (Kd.R_reads' HO_5.out).2.1); rintro e w' ⟨rfl, ⟨nd, rfl⟩⟩))
        go_roundg k1
        case measure => have := HK1.out; omega
        case rel => exact ⟨(wrap64 (x21_1 + 1)), (by first | rfl | (simp; done) | (simp [*]; done)), H', ⟨by have := HK1.out; omega⟩, ⟨by (with_reducible repeat (first | apply Kd.R_alloc | apply Kd.R_drewN | apply Kd.R_drew)); exact Kd.R_mono HO_5.out (fun _ hk => trivial)⟩, ⟨(rowN HO_19.out)⟩, ⟨(belN HB.out)⟩⟩
       ·replace c14 := Bool.eq_false_iff.mpr c14
        subst c14
        have H1 : (some false) = some r := by rw [if_neg (show ¬ (false = true) by decide)] at H; exact H
        clear H
        have H := H1
        clear H1
        obtain rfl := Option.some.inj H
        have p321 : 0 ≤ (x21_1 : Int) := of_decide_eq_true (by first | (with_reducible assumption) | assumption)
        have q321 : x21_1 < (y318.length : Int) := of_decide_eq_true (by first | (with_reducible assumption) | assumption)
        obtain ⟨ad321, e321, hx321_0⟩ := Kd.at_int (Kd.R_reads' HO_19.out).2.2 x21_1 p321 q321
        cases e321
        replace p321 := eq_true p321
        replace q321 := eq_true q321
        obtain ⟨Ao18, co18, eo18⟩ := Kd.R_slice HO_5.out
        subst eo18
        go_wp2_with (first | ((with_reducible refine gate_callee (f := 12) rfl ?_); refine goesL_ (some 28) rfl rfl Try.func12 (by kernel_rfl) rfl #[.slice Ao18 t315.length co18, .int .i64 0, .int .i64 1000, .int .i64 1, .int .i64 (rd y318 x21_1), .bool false] rfl argN ?_; (with_reducible refine (down_Do.calls k1 _ _ t315 0 1000 1 (rd y318 x21_1) false t322 t323 _ ?side1 ?side2 A11.out).mono ?_); (case side1 => repeat (first | exact (Kd.R_reads' HO_5.out).2.2 | (with_reducible refine Kd.C_alloc ?_ _) | (with_reducible refine Kd.C_drewN ?_ _) | (with_reducible refine Kd.C_drew ?_))); (case side2 => exact (Kd.R_reads' HO_5.out).2.1); rintro e w19 ⟨v324, rfl, ho0, hb⟩; refine ⟨_, rfl, ?_⟩; have n0_ := Aside0.mk (Kd.R_elder' (rowN HO_5.out) (Kd.R_base ho0) hb); have n1_ := Aside0.mk (Kd.R_below (rowN HO_19.out) hb); have n2_ := Aside0.mk (Kd.R_lower (Kd.R_new' ho0 (Kd.R_lt (rowN HO_5.out))) (below_size (belN HB.out))); have n3_ := Aside0.mk (below_step (belN HB.out) hb); clear HO_5; clear HO_19; clear HB; have HO_5 := n0_; have HO_19 := n1_; have HO325 := n2_; have HB := n3_; clear n0_ n1_ n2_ n3_; (try clear hb); (try clear hk); (try clear ho0); obtain ⟨Ao20, co20, eo20⟩ := Kd.R_slice HO325.out; subst eo20) | (go_at_call 15; (with_reducible refine (marigraphref21_Same.calls k1 _ _ t322 _ _ t315 false _ ?side1 ?side2 ?side3 ?side4 A13.out).mono ?_); (case side1 => repeat (first | exact (Kd.R_reads' HO325.out).2.2 | (with_reducible refine Kd.C_alloc ?_ _) | (with_reducible refine Kd.C_drewN ?_ _) | (with_reducible refine Kd.C_drew ?_))); (case side2 => exact (Kd.R_reads' HO325.out).2.1); (case side3 => repeat (first | exact (Kd.R_reads' HO_5.out).2.2 | (with_reducible refine Kd.C_alloc ?_ _) | (with_reducible refine Kd.C_drewN ?_ _) | (with_reducible refine Kd.C_drew ?_))); (case side4 => exact (Kd.R_reads' HO_5.out).2.1); rintro e w' ⟨rfl, ⟨nd, rfl⟩⟩))
        go_ret
        exact ⟨by first | rfl | (simp [errW_none, errW_some] <;> rfl) | (simp [*, errW_none, errW_some] <;> rfl), (belN HB.out)⟩
      ·rw [if_neg c12] at H
       have c12b0 : (t323 == 0) = false := beq_eq_false_iff_ne.mpr c12
       have c12b1 : (t323 != 0) = true := bne_iff_ne.mpr c12
       obtain rfl := Option.some.inj H
       have p321 : 0 ≤ (x21_1 : Int) := of_decide_eq_true (by first | (with_reducible assumption) | assumption)
       have q321 : x21_1 < (y318.length : Int) := of_decide_eq_true (by first | (with_reducible assumption) | assumption)
       obtain ⟨ad321, e321, hx321_0⟩ := Kd.at_int (Kd.R_reads' HO_19.out).2.2 x21_1 p321 q321
       cases e321
       replace p321 := eq_true p321
       replace q321 := eq_true q321
       obtain ⟨Ao21, co21, eo21⟩ := Kd.R_slice HO_5.out
       subst eo21
       go_wp2_with (first | ((with_reducible refine gate_callee (f := 12) rfl ?_); refine goesL_ (some 28) rfl rfl Try.func12 (by kernel_rfl) rfl #[.slice Ao21 t315.length co21, .int .i64 0, .int .i64 1000, .int .i64 1, .int .i64 (rd y318 x21_1), .bool false] rfl argN ?_; (with_reducible refine (down_Do.calls k1 _ _ t315 0 1000 1 (rd y318 x21_1) false t322 t323 _ ?side1 ?side2 A11.out).mono ?_); (case side1 => repeat (first | exact (Kd.R_reads' HO_5.out).2.2 | (with_reducible refine Kd.C_alloc ?_ _) | (with_reducible refine Kd.C_drewN ?_ _) | (with_reducible refine Kd.C_drew ?_))); (case side2 => exact (Kd.R_reads' HO_5.out).2.1); rintro e w22 ⟨v324, rfl, ho0, hb⟩; refine ⟨_, rfl, ?_⟩; have n0_ := Aside0.mk (Kd.R_elder' (rowN HO_5.out) (Kd.R_base ho0) hb); have n1_ := Aside0.mk (Kd.R_below (rowN HO_19.out) hb); have n2_ := Aside0.mk (Kd.R_lower (Kd.R_new' ho0 (Kd.R_lt (rowN HO_5.out))) (below_size (belN HB.out))); have n3_ := Aside0.mk (below_step (belN HB.out) hb); clear HO_5; clear HO_19; clear HB; have HO_5 := n0_; have HO_19 := n1_; have HO325 := n2_; have HB := n3_; clear n0_ n1_ n2_ n3_; (try clear hb); (try clear hk); (try clear ho0)))
       go_ret
       exact ⟨by first | rfl | (simp [errW_none, errW_some] <;> rfl) | (simp [*, errW_none, errW_some] <;> rfl), (belN HB.out)⟩
     ·rw [if_neg c10] at H
      exact absurd H (by simp)
    ·rw [if_neg c9] at H
     exact absurd H (by simp)
   ·rw [if_neg c8] at H
    have c8b0 : decide (x21_1 < (y318.length : Int)) = false := decide_eq_false c8
    clear c8
    replace H := Option.bind_eq_some_iff.mp H
    obtain ⟨⟨t327, t328⟩, A230, H⟩ := H
    replace H : (if (t315.length : Int) = 0 then (if t328 = 0 then (if (t327.length : Int) = 0 then ((marigraphlaw21_known.f k1).bind fun t331 => (some t331)) else (some false)) else (some false)) else (marigraphlaw21_DownOne.l1 k1 t315 t327 t328 ([] : List (S29)) 0)) = some r := H
    have A23 := Aside0.mk A230
    clear A230
    by_cases c24 : (t315.length : Int) = 0
    ·rw [if_pos c24] at H
     have c24b0 : ((t315.length : Int) == 0) = true := beq_iff_eq.mpr c24
     have c24b1 : ((t315.length : Int) != 0) = false := bne_eq_false_iff_eq.mpr c24
     clear c24
     by_cases c25 : t328 = 0
     ·rw [if_pos c25] at H
      have c25b0 : (t328 == 0) = true := beq_iff_eq.mpr c25
      have c25b1 : (t328 != 0) = false := bne_eq_false_iff_eq.mpr c25
      clear c25
      by_cases c26 : (t327.length : Int) = 0
      ·rw [if_pos c26] at H
       have c26b0 : ((t327.length : Int) == 0) = true := beq_iff_eq.mpr c26
       have c26b1 : ((t327.length : Int) != 0) = false := bne_eq_false_iff_eq.mpr c26
       clear c26
       replace H := Option.bind_eq_some_iff.mp H
       obtain ⟨t331, A270, H⟩ := H
       replace H : (some t331) = some r := H
       have A27 := Aside0.mk A270
       clear A270
       obtain rfl := Option.some.inj H
       obtain ⟨Ao28, co28, eo28⟩ := Kd.R_slice HO_5.out
       subst eo28
       go_wp2_with (first | ((with_reducible refine gate_callee (f := 12) rfl ?_); refine goesL_ (some 42) rfl rfl Try.func12 (by kernel_rfl) rfl #[.slice Ao28 t315.length co28, .int .i64 0, .int .i64 1000, .int .i64 1001, .int .i64 3, .bool false] rfl argN ?_; (with_reducible refine (down_Do.calls k1 _ _ t315 0 1000 1001 3 false t327 t328 _ ?side1 ?side2 A23.out).mono ?_); (case side1 => repeat (first | exact (Kd.R_reads' HO_5.out).2.2 | (with_reducible refine Kd.C_alloc ?_ _) | (with_reducible refine Kd.C_drewN ?_ _) | (with_reducible refine Kd.C_drew ?_))); (case side2 => exact (Kd.R_reads' HO_5.out).2.1); rintro e w29 ⟨v329, rfl, ho0, hb⟩; refine ⟨_, rfl, ?_⟩; have n0_ := Aside0.mk (Kd.R_elder' (rowN HO_5.out) (Kd.R_base ho0) hb); have n1_ := Aside0.mk (Kd.R_below (rowN HO_19.out) hb); have n2_ := Aside0.mk (Kd.R_lower (Kd.R_new' ho0 (Kd.R_lt (rowN HO_5.out))) (below_size (belN HB.out))); have n3_ := Aside0.mk (below_step (belN HB.out) hb); clear HO_5; clear HO_19; clear HB; have HO_5 := n0_; have HO_19 := n1_; have HO330 := n2_; have HB := n3_; clear n0_ n1_ n2_ n3_; (try clear hb); (try clear hk); (try clear ho0); obtain ⟨Ao30, co30, eo30⟩ := Kd.R_slice HO330.out; subst eo30) | (go_at_call 10; (with_reducible refine (marigraphlaw21_known.calls k1  t331 _ A27.out).mono ?_); rintro e w31 ⟨rfl, hb⟩; have n0_ := Aside0.mk (Kd.R_below (rowN HO_5.out) hb); have n1_ := Aside0.mk (Kd.R_below (rowN HO_19.out) hb); have n2_ := Aside0.mk (Kd.R_below (rowN HO330.out) hb); have n3_ := Aside0.mk (below_step (belN HB.out) hb); clear HO_5; clear HO_19; clear HO330; clear HB; have HO_5 := n0_; have HO_19 := n1_; have HO330 := n2_; have HB := n3_; clear n0_ n1_ n2_ n3_; (try clear hb); (try clear hk)))
       go_ret
       exact ⟨by first | rfl | (simp [errW_none, errW_some] <;> rfl) | (simp [*, errW_none, errW_some] <;> rfl), (belN HB.out)⟩
      ·rw [if_neg c26] at H
       have c26b0 : ((t327.length : Int) == 0) = false := beq_eq_false_iff_ne.mpr c26
       have c26b1 : ((t327.length : Int) != 0) = true := bne_iff_ne.mpr c26
       have c26b2 : ¬ (t327 = []) := fun h_ => c26 (by rw [h_]; rfl)
       obtain rfl := Option.some.inj H
       obtain ⟨Ao32, co32, eo32⟩ := Kd.R_slice HO_5.out
       subst eo32
       go_wp2_with (first | ((with_reducible refine gate_callee (f := 12) rfl ?_); refine goesL_ (some 42) rfl rfl Try.func12 (by kernel_rfl) rfl #[.slice Ao32 t315.length co32, .int .i64 0, .int .i64 1000, .int .i64 1001, .int .i64 3, .bool false] rfl argN ?_; (with_reducible refine (down_Do.calls k1 _ _ t315 0 1000 1001 3 false t327 t328 _ ?side1 ?side2 A23.out).mono ?_); (case side1 => repeat (first | exact (Kd.R_reads' HO_5.out).2.2 | (with_reducible refine Kd.C_alloc ?_ _) | (with_reducible refine Kd.C_drewN ?_ _) | (with_reducible refine Kd.C_drew ?_))); (case side2 => exact (Kd.R_reads' HO_5.out).2.1); rintro e w33 ⟨v329, rfl, ho0, hb⟩; refine ⟨_, rfl, ?_⟩; have n0_ := Aside0.mk (Kd.R_elder' (rowN HO_5.out) (Kd.R_base ho0) hb); have n1_ := Aside0.mk (Kd.R_below (rowN HO_19.out) hb); have n2_ := Aside0.mk (Kd.R_lower (Kd.R_new' ho0 (Kd.R_lt (rowN HO_5.out))) (below_size (belN HB.out))); have n3_ := Aside0.mk (below_step (belN HB.out) hb); clear HO_5; clear HO_19; clear HB; have HO_5 := n0_; have HO_19 := n1_; have HO330 := n2_; have HB := n3_; clear n0_ n1_ n2_ n3_; (try clear hb); (try clear hk); (try clear ho0); obtain ⟨Ao34, co34, eo34⟩ := Kd.R_slice HO330.out; subst eo34))
       go_ret
       exact ⟨by first | rfl | (simp [errW_none, errW_some] <;> rfl) | (simp [*, errW_none, errW_some] <;> rfl), (belN HB.out)⟩
     ·rw [if_neg c25] at H
      have c25b0 : (t328 == 0) = false := beq_eq_false_iff_ne.mpr c25
      have c25b1 : (t328 != 0) = true := bne_iff_ne.mpr c25
      obtain rfl := Option.some.inj H
      obtain ⟨Ao35, co35, eo35⟩ := Kd.R_slice HO_5.out
      subst eo35
      go_wp2_with (first | ((with_reducible refine gate_callee (f := 12) rfl ?_); refine goesL_ (some 42) rfl rfl Try.func12 (by kernel_rfl) rfl #[.slice Ao35 t315.length co35, .int .i64 0, .int .i64 1000, .int .i64 1001, .int .i64 3, .bool false] rfl argN ?_; (with_reducible refine (down_Do.calls k1 _ _ t315 0 1000 1001 3 false t327 t328 _ ?side1 ?side2 A23.out).mono ?_); (case side1 => repeat (first | exact (Kd.R_reads' HO_5.out).2.2 | (with_reducible refine Kd.C_alloc ?_ _) | (with_reducible refine Kd.C_drewN ?_ _) | (with_reducible refine Kd.C_drew ?_))); (case side2 => exact (Kd.R_reads' HO_5.out).2.1); rintro e w36 ⟨v329, rfl, ho0, hb⟩; refine ⟨_, rfl, ?_⟩; have n0_ := Aside0.mk (Kd.R_elder' (rowN HO_5.out) (Kd.R_base ho0) hb); have n1_ := Aside0.mk (Kd.R_below (rowN HO_19.out) hb); have n2_ := Aside0.mk (Kd.R_lower (Kd.R_new' ho0 (Kd.R_lt (rowN HO_5.out))) (below_size (belN HB.out))); have n3_ := Aside0.mk (below_step (belN HB.out) hb); clear HO_5; clear HO_19; clear HB; have HO_5 := n0_; have HO_19 := n1_; have HO330 := n2_; have HB := n3_; clear n0_ n1_ n2_ n3_; (try clear hb); (try clear hk); (try clear ho0)))
      go_ret
      exact ⟨by first | rfl | (simp [errW_none, errW_some] <;> rfl) | (simp [*, errW_none, errW_some] <;> rfl), (belN HB.out)⟩
    ·rw [if_neg c24] at H
     have c24b0 : ((t315.length : Int) == 0) = false := beq_eq_false_iff_ne.mpr c24
     have c24b1 : ((t315.length : Int) != 0) = true := bne_iff_ne.mpr c24
     have c24b2 : ¬ (t315 = []) := fun h_ => c24 (by rw [h_]; rfl)
     have H' := Aside0.mk H
     clear H
     obtain ⟨Ao37, co37, eo37⟩ := Kd.R_slice HO_5.out
     subst eo37
     go_wp2_with (first | ((with_reducible refine gate_callee (f := 12) rfl ?_); refine goesL_ (some 42) rfl rfl Try.func12 (by kernel_rfl) rfl #[.slice Ao37 t315.length co37, .int .i64 0, .int .i64 1000, .int .i64 1001, .int .i64 3, .bool false] rfl argN ?_; (with_reducible refine (down_Do.calls k1 _ _ t315 0 1000 1001 3 false t327 t328 _ ?side1 ?side2 A23.out).mono ?_); (case side1 => repeat (first | exact (Kd.R_reads' HO_5.out).2.2 | (with_reducible refine Kd.C_alloc ?_ _) | (with_reducible refine Kd.C_drewN ?_ _) | (with_reducible refine Kd.C_drew ?_))); (case side2 => exact (Kd.R_reads' HO_5.out).2.1); rintro e w38 ⟨v329, rfl, ho0, hb⟩; refine ⟨_, rfl, ?_⟩; have n0_ := Aside0.mk (Kd.R_elder' (rowN HO_5.out) (Kd.R_base ho0) hb); have n1_ := Aside0.mk (Kd.R_below (rowN HO_19.out) hb); have n2_ := Aside0.mk (Kd.R_lower (Kd.R_new' ho0 (Kd.R_lt (rowN HO_5.out))) (below_size (belN HB.out))); have n3_ := Aside0.mk (below_step (belN HB.out) hb); clear HO_5; clear HO_19; clear HB; have HO_5 := n0_; have HO_19 := n1_; have HO330 := n2_; have HB := n3_; clear n0_ n1_ n2_ n3_; (try clear hb); (try clear hk); (try clear ho0)))
     go_loopg [12, 13] k1 (fun kq v12 v13 w' => ∃ (x12_2 : List (S29)) (x13_2 : Int), v13 = .int .i64 x13_2 ∧ Aside0 (marigraphlaw21_DownOne.l1 kq t315 t327 t328 x12_2 x13_2 = some r) ∧ Aside0 (kq ≤ k1) ∧ Aside0 (Kd.R k31 31 w' w.heap.size (fun k_ => some k_ ≠ (v329 : Value).ownBlock) (.slice Ao37 t315.length co37) t315) ∧ Aside0 (Kd.R k31 31 w' w.heap.size (fun k_ => some k_ ≠ ((.slice Ao37 t315.length co37) : Value).ownBlock) v329 t327) ∧ Aside0 (Kd.R k29 29 w' w.heap.size (fun _ => True) v12 x12_2) ∧ Aside0 (Below w.heap.size w w'))
     case atStart => exact ⟨(([] : List (S29))), (0), (by first | rfl | (simp; done) | (simp [*]; done)), H', ⟨Nat.le_refl _⟩, ⟨by (with_reducible repeat (first | apply Kd.R_alloc | apply Kd.R_drewN | apply Kd.R_drew)); exact Kd.R_mono HO_5.out (fun _ hk => hk.2)⟩, ⟨by (with_reducible repeat (first | apply Kd.R_alloc | apply Kd.R_drewN | apply Kd.R_drew)); exact Kd.R_mono HO330.out (fun _ hk => hk.2)⟩, ⟨by first | exact Kd.R_nil _ _ _ _ _ | exact Kd.N_nil _ _ _ _ _ | exact Kd.V_nil _ _ _ _ _ | exact Kd.Q_nil _ _ _ _ _ | exact Kd.S_nil _ _ _ _ _⟩, ⟨(belN HB.out)⟩⟩
     case round =>
      clear H'
      try clear c1
      try clear c2
      try clear p2
      try clear p3
      try clear q3
      try clear hx3
      try clear c6
      try clear p6
      try clear c7
      try clear c8
      try clear c8b0
      try clear c9
      try clear c9b0
      try clear c10
      try clear c10b0
      try clear c12
      try clear c12b0
      try clear c12b1
      try clear c14
      try clear c24
      try clear c24b0
      try clear c24b1
      try clear c24b2
      try clear c25
      try clear c25b0
      try clear c25b1
      try clear c26
      try clear c26b0
      try clear c26b1
      try clear c26b2
      try clear p32
      try clear q32
      try clear hx32
      try clear hx321_0
      try clear p2
      try clear p321
      try clear q321
      obtain ⟨x12_2, x13_2, rfl, HA, HK2, HO_5, HO_10, HO_12, HB⟩ := hrel
      cases gk with
      | zero => exact absurd HA.out (by simp [marigraphlaw21_DownOne.l1])
      | succ k2 =>
       have H := HA.out
       clear HA
       simp only [marigraphlaw21_DownOne.l1] at H
       by_cases c39 : x13_2 < (t315.length : Int)
       ·rw [if_pos c39] at H
        have c39b0 : decide (x13_2 < (t315.length : Int)) = true := decide_eq_true c39
        clear c39
        by_cases c40 : 0 ≤ x13_2
        ·rw [if_pos c40] at H
         have c40b0 : decide (0 ≤ x13_2) = true := decide_eq_true c40
         clear c40
         by_cases c41 : x12_2.length < 8796093022208
         ·rw [if_pos c41] at H
          have LMc41 := Aside0.mk c41
          clear c41
          obtain ⟨y333, hy333⟩ : ∃ y_ : List (S29), y_ = (x12_2 ++ [(⟨(rd_T31 t315 x13_2).f1.f0, (rd_T31 t315 x13_2).f1.f1⟩ : S29)]) := ⟨_, rfl⟩
          replace H : (marigraphlaw21_DownOne.l1 k2 t315 t327 t328 y333 (wrap64 (x13_2 + 1))) = some r := by first | (rw [hy333]; with_reducible exact H) | (have H2_ := (Option.bind_some _ _).symm.trans H; rw [hy333]; with_reducible exact H2_) | (have H2_ := (Option.bind_some _ _).symm.trans H; with_reducible exact H2_) | with_reducible exact H | (rw [hy333]; exact H) | exact H
          have Ny333 := Aside0.mk hy333
          clear hy333
          have H' := Aside0.mk H
          clear H
          have p332 : 0 ≤ (x13_2 : Int) := of_decide_eq_true (by first | (with_reducible assumption) | assumption)
          have q332 : x13_2 < (t315.length : Int) := of_decide_eq_true (by first | (with_reducible assumption) | assumption)
          obtain ⟨ad332, e332, hx332_0, hx332_1, hx332_2⟩ := at_T31 (Kd.R_reads' HO_5.out).2.2 x13_2 p332 q332
          cases e332
          replace p332 := eq_true p332
          replace q332 := eq_true q332
          go_wp2_with (first | ((with_reducible refine gate_builtin (b := .append) (xs := #[.tmp 64, .tmp 70]) rfl ?_); (try (refine gate_guard (by rfl) ?_; dsimp only)); at_builtin; refine Kd.R_append k29 (w0 := w) w.heap.size rfl (.tmp 64) (.tmp 70) 43 29 (.agg #[(.int .i64 0), (.int .i64 0)]) 16 rfl Try.underlying43 info29 rfl (by decide) (by omega) u12 x12_2 (⟨(rd_T31 t315 x13_2).f1.f0, (rd_T31 t315 x13_2).f1.f1⟩ : S29) [.int .i64 ((rd_T31 t315 x13_2).f1.f0), .int .i64 ((rd_T31 t315 x13_2).f1.f1)] (fun _ => True) (fun _ => False) rfl rfl ?aP (fun _ hk => hk.elim) ?aF ?aO ?aB ?aS ?aL ?_; (case aP => exact k29_mkM _ _ _ (⟨(rd_T31 t315 x13_2).f1.f0, (rd_T31 t315 x13_2).f1.f1⟩ : S29)); (case aB => exact (belN HB.out)); (case aF => exact (fun _ _ => trivial)); (case aO => exact (rowN HO_12.out)); (case aS => exact (below_size (belN HB.out))); (case aL => have := LMc41.out; omega); intro v334 w42 ho hb hg hat; rw [← Ny333.out] at ho; have n0_ := Aside0.mk (Kd.R_over' (rowN HO_5.out) (Kd.R_typed (rowN HO_12.out)) (by decide) hg); have n1_ := Aside0.mk (Kd.R_over' (rowN HO_10.out) (Kd.R_typed (rowN HO_12.out)) (by decide) hg); have n2_ := Aside0.mk (hb); have n3_ := Aside0.mk (ho); clear HO_5; clear HO_10; clear HB; clear HO_12; have HO_5 := n0_; have HO_10 := n1_; have HB := n2_; have HO335 := n3_; clear n0_ n1_ n2_ n3_; clear ho hb hg hat))
          go_roundg k2
          case measure => have := HK1.out; have := HK2.out; omega
          case rel => exact ⟨(y333), (wrap64 (x13_2 + 1)), (by first | rfl | (simp; done) | (simp [*]; done)), H', ⟨by have := HK1.out; have := HK2.out; omega⟩, ⟨(rowN HO_5.out)⟩, ⟨(rowN HO_10.out)⟩, ⟨(rowN HO335.out)⟩, ⟨(belN HB.out)⟩⟩
         ·rw [if_neg c41] at H
          exact absurd H (by simp)
        ·rw [if_neg c40] at H
         exact absurd H (by simp)
       ·rw [if_neg c39] at H
        have c39b0 : decide (x13_2 < (t315.length : Int)) = false := decide_eq_false c39
        clear c39
        replace H := Option.bind_eq_some_iff.mp H
        obtain ⟨⟨t336, t337, t338⟩, A430, H⟩ := H
        replace H : (if t328 = 0 then (if t338 = 0 then (if (t327.length : Int) = 1 then (if 0 < (t327.length : Int) then (if (((rd_T31 t327 0).f0) == 0 && ((((rd_T31 t327 0).f1.f0) == t336 && (((rd_T31 t327 0).f1.f1) == t337)))) = true then ((marigraphlaw21_known.f k2).bind fun t341 => (some t341)) else (some false)) else (none)) else (some false)) else (some false)) else (some false)) = some r := H
        have A43 := Aside0.mk A430
        clear A430
        by_cases c44 : t328 = 0
        ·rw [if_pos c44] at H
         have c44b0 : (t328 == 0) = true := beq_iff_eq.mpr c44
         have c44b1 : (t328 != 0) = false := bne_eq_false_iff_eq.mpr c44
         clear c44
         by_cases c45 : t338 = 0
         ·rw [if_pos c45] at H
          have c45b0 : (t338 == 0) = true := beq_iff_eq.mpr c45
          have c45b1 : (t338 != 0) = false := bne_eq_false_iff_eq.mpr c45
          clear c45
          by_cases c46 : (t327.length : Int) = 1
          ·rw [if_pos c46] at H
           have c46b0 : ((t327.length : Int) == 1) = true := beq_iff_eq.mpr c46
           have c46b1 : ((t327.length : Int) != 1) = false := bne_eq_false_iff_eq.mpr c46
           clear c46
           by_cases c47 : 0 < (t327.length : Int)
           ·rw [if_pos c47] at H
            have c47b0 : decide (0 < (t327.length : Int)) = true := decide_eq_true c47
            have c47b1 : decide (0 < t327.length) = true := decide_eq_true (by omega)
            clear c47
            by_cases c48 : (((rd_T31 t327 0).f0) == 0 && ((((rd_T31 t327 0).f1.f0) == t336 && (((rd_T31 t327 0).f1.f1) == t337)))) = true
            ·rw [if_pos c48] at H
             have c48b0 : (((rd_T31 t327 0).f0) == 0 && ((((rd_T31 t327 0).f1.f0) == t336 && (((rd_T31 t327 0).f1.f1) == t337)))) = true := c48
             (try (have c48b1 : decide (((rd_T31 t327 0).f0) = 0 && ((((rd_T31 t327 0).f1.f0) == t336 && (((rd_T31 t327 0).f1.f1) == t337)))) = true := by simpa using c48))
             (try (have c48b2 : (((rd_T31 t327 0).f0) == 0 && ((((rd_T31 t327 0).f1.f0) == t336 && (((rd_T31 t327 0).f1.f1) == t337)))) = true := by simpa using c48))
             clear c48
             replace H := Option.bind_eq_some_iff.mp H
             obtain ⟨t341, A490, H⟩ := H
             replace H : (some t341) = some r := H
             have A49 := Aside0.mk A490
             clear A490
             obtain rfl := Option.some.inj H
             obtain ⟨Ao50, co50, eo50⟩ := Kd.R_slice HO_12.out
             subst eo50
             try go_wp2_with (first | ((with_reducible refine gate_callee (f := 16) rfl ?_); refine goesL_ (some 74) rfl rfl Try.func16 (by kernel_rfl) rfl #[.int .i64 3, .slice Ao50 x12_2.length co50] rfl argN ?_; (with_reducible refine (marigraphref20_Do.calls k2 3 _ _ x12_2 t336 t337 t338 _ ?side1 ?side2 A43.out).mono ?_); (case side1 => repeat (first | exact (Kd.R_reads' HO_12.out).2.2 | (with_reducible refine Kd.C_alloc ?_ _) | (with_reducible refine Kd.C_drewN ?_ _) | (with_reducible refine Kd.C_drew ?_))); (case side2 => exact (Kd.R_reads' HO_12.out).2.1); rintro e w51 ⟨rfl, hb⟩; refine ⟨_, rfl, ?_⟩; have n0_ := Aside0.mk (Kd.R_below (rowN HO_5.out) hb); have n1_ := Aside0.mk (Kd.R_below (rowN HO_10.out) hb); have n2_ := Aside0.mk (Kd.R_below (rowN HO_12.out) hb); have n3_ := Aside0.mk (below_step (belN HB.out) hb); clear HO_5; clear HO_10; clear HO_12; clear HB; have HO_5 := n0_; have HO_10 := n1_; have HO_12 := n2_; have HB := n3_; clear n0_ n1_ n2_ n3_; (try clear hb); (try clear hk)) | ((with_reducible refine gate_dst (N := 14) rfl ?_); (try (refine gate_guard (by rfl) ?_; dsimp only)); refine box_event ?hg (N := 14) ?hd (cs := #[.int .i64 0, .int .i64 0]) (t := 29) ?hr ?_; (case hd => rfl); (case hg => rfl); (case hr => first | (go_simp; done) | (go_simp; rfl)); intro gb339 hg w52 hbox hb; have n0_ := Aside0.mk (Kd.R_below (rowN HO_5.out) hb); have n1_ := Aside0.mk (Kd.R_below (rowN HO_10.out) hb); have n2_ := Aside0.mk (Kd.R_below (Kd.R_elderB (rowN HO_12.out) gb339 (Nat.le_of_eq hg.symm)) hb); have n3_ := Aside0.mk (below_step (belN HB.out) hb); have n4_ := Aside0.mk (hbox); have n5_ := Aside0.mk (szB hg HB.out); have n6_ := Aside0.mk (szB hg HB.out); clear HO_5; clear HO_10; clear HO_12; clear HB; have HO_5 := n0_; have HO_10 := n1_; have HO_12 := n2_; have HB := n3_; have BK339 := n4_; have GW339 := n5_; have GE339 := n6_; clear n0_ n1_ n2_ n3_ n4_ n5_ n6_; clear hb hbox hg; have hcz53_0 : w52.cell? ⟨gb339, 0, none⟩ = some (.int .i64 0) := (blk_cell BK339.out 0).trans rfl; have hcz53_1 : w52.cell? ⟨gb339, 1, none⟩ = some (.int .i64 0) := (blk_cell BK339.out 1).trans rfl; have hfz53_0 := blk_frozen BK339.out 0; have hfz53_1 := blk_frozen BK339.out 1))
             have n0_ : Aside0 (Kd.R k31 31 ((w52.setCell ⟨gb339, 0, none⟩ (.int .i64 t336)).setCell ⟨gb339, 1, none⟩ (.int .i64 t337)) w.heap.size (fun k_ => some k_ ≠ (v329 : Value).ownBlock) (.slice Ao37 t315.length co37) t315) := ⟨by (with_reducible repeat (first | apply Kd.R_alloc | apply Kd.R_drewN | apply Kd.R_drew)); exact Kd.R_mono (Kd.R_far (p := ⟨gb339, 1, none⟩) (Kd.R_far (p := ⟨gb339, 0, none⟩) (Kd.R_types HO_5.out BK339.out (by decide)) (fun _ hk => hk.2) (.int .i64 t336)) (fun _ hk => hk.2) (.int .i64 t337)) (fun _ hk => hk.1)⟩
             have n1_ : Aside0 (Kd.R k31 31 ((w52.setCell ⟨gb339, 0, none⟩ (.int .i64 t336)).setCell ⟨gb339, 1, none⟩ (.int .i64 t337)) w.heap.size (fun k_ => some k_ ≠ (.slice Ao37 t315.length co37 : Value).ownBlock) v329 t327) := ⟨by (with_reducible repeat (first | apply Kd.R_alloc | apply Kd.R_drewN | apply Kd.R_drew)); exact Kd.R_mono (Kd.R_far (p := ⟨gb339, 1, none⟩) (Kd.R_far (p := ⟨gb339, 0, none⟩) (Kd.R_types HO_10.out BK339.out (by decide)) (fun _ hk => hk.2) (.int .i64 t336)) (fun _ hk => hk.2) (.int .i64 t337)) (fun _ hk => hk.1)⟩
             have n2_ : Aside0 (Kd.R k29 29 ((w52.setCell ⟨gb339, 0, none⟩ (.int .i64 t336)).setCell ⟨gb339, 1, none⟩ (.int .i64 t337)) w.heap.size (fun k_ => k_ ≠ gb339) (.slice Ao50 x12_2.length co50) x12_2) := ⟨by (with_reducible repeat (first | apply Kd.R_alloc | apply Kd.R_drewN | apply Kd.R_drew)); exact Kd.R_mono (Kd.R_far (p := ⟨gb339, 1, none⟩) (Kd.R_far (p := ⟨gb339, 0, none⟩) (Kd.R_mono HO_12.out (fun k_ hk => (⟨hk, hk.2⟩ : _ ∧ k_ ≠ gb339))) (fun _ hk => hk.2) (.int .i64 t336)) (fun _ hk => hk.2) (.int .i64 t337)) (fun _ hk => hk.1.2)⟩
             have n3_ : Aside0 (((w52.setCell ⟨gb339, 0, none⟩ (.int .i64 t336)).setCell ⟨gb339, 1, none⟩ (.int .i64 t337)).heap[gb339]? = some (.cells #[.int .i64 t336, .int .i64 t337] 29 (0, 0))) := ⟨by (with_reducible repeat (first | refine blk_drewN ?_ _ | refine blk_drew ?_ | refine blk_alloc ?_ _)); refine blk_put (cs := #[.int .i64 t336, .int .i64 0]) ?_ 1 _ rfl; (with_reducible repeat (first | refine blk_drewN ?_ _ | refine blk_drew ?_ | refine blk_alloc ?_ _)); refine blk_put (cs := #[.int .i64 0, .int .i64 0]) ?_ 0 _ rfl; (with_reducible repeat (first | refine blk_drewN ?_ _ | refine blk_drew ?_ | refine blk_alloc ?_ _)); exact BK339.out⟩
             have n4_ : Aside0 (Below w.heap.size w ((w52.setCell ⟨gb339, 0, none⟩ (.int .i64 t336)).setCell ⟨gb339, 1, none⟩ (.int .i64 t337))) := ⟨(belS HB.out)⟩
             (try clear HO_5)
             (try clear HO_10)
             (try clear HO_12)
             (try clear BK339)
             (try clear HB)
             generalize ((w52.setCell ⟨gb339, 0, none⟩ (.int .i64 t336)).setCell ⟨gb339, 1, none⟩ (.int .i64 t337)) = w54 at n0_ n1_ n2_ n3_ n4_ ⊢
             have HO_5 := n0_
             have HO_10 := n1_
             have HO_12 := n2_
             have BK339 := n3_
             have HB := n4_
             clear n0_ n1_ n2_ n3_ n4_
             have n0_ := Aside0.mk (Kd.R_drew HO_5.out)
             have n1_ := Aside0.mk (Kd.R_drew HO_10.out)
             have n2_ := Aside0.mk (Kd.R_drew HO_12.out)
             have n3_ := Aside0.mk (blk_drew BK339.out)
             have n4_ := Aside0.mk (below_drew1 HB.out)
             clear HO_5
             clear HO_10
             clear HO_12
             clear BK339
             clear HB
             have HO_5 := n0_
             have HO_10 := n1_
             have HO_12 := n2_
             have BK339 := n3_
             have HB := n4_
             clear n0_ n1_ n2_ n3_ n4_
             obtain ⟨Ao56, co56, eo56⟩ := Kd.R_slice HO_10.out
             (first | subst eo56 | (injection eo56 with f1_ f2_ f3_; have f4_ := f1_.symm; have f5_ := f3_.symm; clear f1_ f2_ f3_; subst f4_; subst f5_))
             have p340 : 0 ≤ (0 : Int) := (by omega)
             have q340 : 0 < (t327.length : Int) := of_decide_eq_true (by first | (with_reducible assumption) | assumption)
             obtain ⟨ad340, e340, hx340_0, hx340_1, hx340_2⟩ := at_T31 (Kd.R_reads' HO_10.out).2.2 0 p340 q340
             cases e340
             have qi340 : (0 < t327.length) = True := eq_true (by omega)
             (try rw [show ((0 : Int)).toNat = 0 from rfl] at hx340_0)
             (try rw [show 0 * 3 = 0 from rfl] at hx340_0)
             (try rw [Addr.add_zero'] at hx340_0)
             (try rw [show ((0 : Int)).toNat = 0 from rfl] at hx340_1)
             (try rw [show 0 * 3 = 0 from rfl] at hx340_1)
             (try rw [Addr.add_zero'] at hx340_1)
             (try rw [show ((0 : Int)).toNat = 0 from rfl] at hx340_2)
             (try rw [show 0 * 3 = 0 from rfl] at hx340_2)
             (try rw [Addr.add_zero'] at hx340_2)
             replace p340 := eq_true p340
             replace q340 := eq_true q340
             refine start_ (n := 23) (S := fun w' => w'.cell? ⟨gb339, 0, none⟩ = some (.int .i64 t336) ∧ w'.cell? ⟨gb339, 1, none⟩ = some (.int .i64 t337) ∧ w'.cell? ad340 = some (.int .i64 ((rd_T31 t327 0).f0)) ∧ w'.cell? ⟨ad340.block, ad340.off + 1, none⟩ = some (.int .i64 ((rd_T31 t327 0).f1.f0)) ∧ w'.cell? ⟨ad340.block, ad340.off + 2, none⟩ = some (.int .i64 ((rd_T31 t327 0).f1.f1))) (ds := []) #[false, false, false, false, false, false, false, false, false, false, false, false, false, false, false, false, false, false, false, false, false, false, false] (by kernel_rfl) rfl rfl ⟨(blk_cell BK339.out 0).trans rfl, (blk_cell BK339.out 1).trans rfl, hx340_0, hx340_1, hx340_2⟩ (fun hHeld => ?_); refine with_tabW marigraphlaw21_DownOne.tab18 marigraphlaw21_DownOne.bits18 (fun HT_ HW_ => ?_)
             generalize w54.drew = w55 at HO_5 HO_10 HO_12 BK339 HB hx340_0 hx340_1 hx340_2 hHeld ⊢
             refine pA 0 (some 77) (bA 23 1) HT_.out ?_
             refine pA 1 (some 78) (bA 23 3) HT_.out ?_
             refine pA 2 (some 79) (bA 23 7) HT_.out ?_
             refine pA 3 (some 80) (bA 23 15) HT_.out ?_
             refine pA 4 (some 81) (bA 23 31) HT_.out ?_
             refine pA 5 (some 82) (bA 23 63) HT_.out ?_
             refine pA 6 (some 83) (bA 23 127) HT_.out ?_
             refine pA 7 (some 84) (bA 23 255) HT_.out ?_
             refine pA 8 (some 85) (bA 23 511) HT_.out ?_
             refine pA 9 (some 86) (bA 23 1023) HT_.out ?_
             refine pA 10 (some 87) (bA 23 2047) HT_.out ?_
             refine pA 11 (some 88) (bA 23 4095) HT_.out ?_
             refine pA 12 (some 89) (bA 23 8191) HT_.out ?_
             refine pA 13 (some 90) (bA 23 16383) HT_.out ?_
             refine take_ (i := 14) (N := some 91) (v := ?_) (a' := ?_) (bA 23 32767) rfl rfl (take_ofW HT_.out HW_.out (by kernel_rfl)) (fun _ _ _ h => h) (Or.inl ⟨by rfl, ?_⟩) hHeld ?_ ?_
             rotate_left
             ·rintro w' ⟨s0, s1, s2, s3, s4⟩
              go_simp
              with_reducible rfl
             rotate_left
             ·simp only [Act.put, List.setIfInBounds_toArray, List.set_cons_zero, List.set_cons_succ, i64_w, i32_w]
              rfl
             refine take_ (i := 15) (N := some 92) (v := ?_) (a' := ?_) (bA 23 65535) rfl rfl (take_ofW HT_.out HW_.out (by kernel_rfl)) (fun _ _ _ h => h) (Or.inl ⟨by rfl, ?_⟩) hHeld ?_ ?_
             rotate_left
             ·rintro w' ⟨s0, s1, s2, s3, s4⟩
              go_simp
              with_reducible rfl
             rotate_left
             ·simp only [Act.put, List.setIfInBounds_toArray, List.set_cons_zero, List.set_cons_succ, i64_w, i32_w]
              rfl
             refine pA 16 (some 93) (bA 23 131071) HT_.out ?_
             refine pA 17 (some 94) (bA 23 262143) HT_.out ?_
             refine pA 18 (some 95) (bA 23 524287) HT_.out ?_
             refine pA 19 (some 96) (bA 23 1048575) HT_.out ?_
             refine one_ (i := 20) (N := some 97) (bA 23 2097151) rfl rfl (one_of HT_.out (by kernel_rfl)) (by decide) (fun K hK => ?_)
             refine goes_ Try.func10 (by kernel_rfl) rfl #[] (by rfl) rfl rfl argN ?_
             with_reducible refine (marigraphlaw21_known.calls k2  t341 _ A49.out).mono ?_
             rintro e w57 ⟨rfl, hb⟩
             have HS2_ := (hb.cell (World.block_lt_of_cell? _ _ (hHeld.2.2.1))).trans (hHeld.2.2.1)
             have HS3_ := (hb.cell (World.block_lt_of_cell? _ _ (hHeld.2.2.2.1))).trans (hHeld.2.2.2.1)
             have HS4_ := (hb.cell (World.block_lt_of_cell? _ _ (hHeld.2.2.2.2))).trans (hHeld.2.2.2.2)
             refine ⟨_, rfl, ?_⟩
             have n0_ := Aside0.mk (Kd.R_below (rowN HO_5.out) hb)
             have n1_ := Aside0.mk (Kd.R_below (rowN HO_10.out) hb)
             have n2_ := Aside0.mk (Kd.R_below (rowN HO_12.out) hb)
             have n3_ := Aside0.mk (bkB BK339.out hb)
             have n4_ := Aside0.mk (below_step (belS HB.out) hb)
             clear HO_5
             clear HO_10
             clear HO_12
             clear BK339
             clear HB
             have HO_5 := n0_
             have HO_10 := n1_
             have HO_12 := n2_
             have BK339 := n3_
             have HB := n4_
             clear n0_ n1_ n2_ n3_ n4_
             (try clear hb)
             (try clear hk)
             refine hK.out _ _ ⟨(blk_cell BK339.out 0).trans rfl, (blk_cell BK339.out 1).trans rfl, HS2_, HS3_, HS4_⟩ (fun hHeld => ?_)
             clear hK K
             refine norm_ (a' := ?_) ?_ ?_
             rotate_left
             ·show Act.put _ (some 97) _ = _
              simp only [Act.put, List.setIfInBounds_toArray, List.set_cons_zero, List.set_cons_succ, i64_w, i32_w]
              rfl
             refine pA 21 (some 98) (bA 23 4194303) HT_.out ?_
             refine pA 22 (some 4) (bA 23 8388607) HT_.out ?_
             refine done_ (done_of HT_.out (by kernel_rfl)) ?_
             try go_wp2
             go_ret
             exact ⟨by first | rfl | (simp [errW_none, errW_some] <;> rfl) | (simp [*, errW_none, errW_some] <;> rfl), (belS HB.out)⟩
            ·rw [if_neg c48] at H
             have c48b0 : (((rd_T31 t327 0).f0) == 0 && ((((rd_T31 t327 0).f1.f0) == t336 && (((rd_T31 t327 0).f1.f1) == t337)))) = false := by simpa using c48
             (try (have c48b1 : decide (((rd_T31 t327 0).f0) = 0 && ((((rd_T31 t327 0).f1.f0) == t336 && (((rd_T31 t327 0).f1.f1) == t337)))) = false := by simpa using c48))
             (try (have c48b2 : (((rd_T31 t327 0).f0) == 0 && ((((rd_T31 t327 0).f1.f0) == t336 && (((rd_T31 t327 0).f1.f1) == t337)))) = false := by simpa using c48))
             (try (have c48b3 : ¬ (((rd_T31 t327 0).f0) = 0 && ((((rd_T31 t327 0).f1.f0) == t336 && (((rd_T31 t327 0).f1.f1) == t337)))) := by simpa using c48))
             clear c48
             obtain rfl := Option.some.inj H
             obtain ⟨Ao58, co58, eo58⟩ := Kd.R_slice HO_12.out
             subst eo58
             try go_wp2_with (first | ((with_reducible refine gate_callee (f := 16) rfl ?_); refine goesL_ (some 74) rfl rfl Try.func16 (by kernel_rfl) rfl #[.int .i64 3, .slice Ao58 x12_2.length co58] rfl argN ?_; (with_reducible refine (marigraphref20_Do.calls k2 3 _ _ x12_2 t336 t337 t338 _ ?side1 ?side2 A43.out).mono ?_); (case side1 => repeat (first | exact (Kd.R_reads' HO_12.out).2.2 | (with_reducible refine Kd.C_alloc ?_ _) | (with_reducible refine Kd.C_drewN ?_ _) | (with_reducible refine Kd.C_drew ?_))); (case side2 => exact (Kd.R_reads' HO_12.out).2.1); rintro e w59 ⟨rfl, hb⟩; refine ⟨_, rfl, ?_⟩; have n0_ := Aside0.mk (Kd.R_below (rowN HO_5.out) hb); have n1_ := Aside0.mk (Kd.R_below (rowN HO_10.out) hb); have n2_ := Aside0.mk (Kd.R_below (rowN HO_12.out) hb); have n3_ := Aside0.mk (below_step (belN HB.out) hb); clear HO_5; clear HO_10; clear HO_12; clear HB; have HO_5 := n0_; have HO_10 := n1_; have HO_12 := n2_; have HB := n3_; clear n0_ n1_ n2_ n3_; (try clear hb); (try clear hk)) | ((with_reducible refine gate_dst (N := 14) rfl ?_); (try (refine gate_guard (by rfl) ?_; dsimp only)); refine box_event ?hg (N := 14) ?hd (cs := #[.int .i64 0, .int .i64 0]) (t := 29) ?hr ?_; (case hd => rfl); (case hg => rfl); (case hr => first | (go_simp; done) | (go_simp; rfl)); intro gb339 hg w60 hbox hb; have n0_ := Aside0.mk (Kd.R_below (rowN HO_5.out) hb); have n1_ := Aside0.mk (Kd.R_below (rowN HO_10.out) hb); have n2_ := Aside0.mk (Kd.R_below (Kd.R_elderB (rowN HO_12.out) gb339 (Nat.le_of_eq hg.symm)) hb); have n3_ := Aside0.mk (below_step (belN HB.out) hb); have n4_ := Aside0.mk (hbox); have n5_ := Aside0.mk (szB hg HB.out); have n6_ := Aside0.mk (szB hg HB.out); clear HO_5; clear HO_10; clear HO_12; clear HB; have HO_5 := n0_; have HO_10 := n1_; have HO_12 := n2_; have HB := n3_; have BK339 := n4_; have GW339 := n5_; have GE339 := n6_; clear n0_ n1_ n2_ n3_ n4_ n5_ n6_; clear hb hbox hg; have hcz61_0 : w60.cell? ⟨gb339, 0, none⟩ = some (.int .i64 0) := (blk_cell BK339.out 0).trans rfl; have hcz61_1 : w60.cell? ⟨gb339, 1, none⟩ = some (.int .i64 0) := (blk_cell BK339.out 1).trans rfl; have hfz61_0 := blk_frozen BK339.out 0; have hfz61_1 := blk_frozen BK339.out 1))
             have n0_ : Aside0 (Kd.R k31 31 ((w60.setCell ⟨gb339, 0, none⟩ (.int .i64 t336)).setCell ⟨gb339, 1, none⟩ (.int .i64 t337)) w.heap.size (fun k_ => some k_ ≠ (v329 : Value).ownBlock) (.slice Ao37 t315.length co37) t315) := ⟨by (with_reducible repeat (first | apply Kd.R_alloc | apply Kd.R_drewN | apply Kd.R_drew)); exact Kd.R_mono (Kd.R_far (p := ⟨gb339, 1, none⟩) (Kd.R_far (p := ⟨gb339, 0, none⟩) (Kd.R_types HO_5.out BK339.out (by decide)) (fun _ hk => hk.2) (.int .i64 t336)) (fun _ hk => hk.2) (.int .i64 t337)) (fun _ hk => hk.1)⟩
             have n1_ : Aside0 (Kd.R k31 31 ((w60.setCell ⟨gb339, 0, none⟩ (.int .i64 t336)).setCell ⟨gb339, 1, none⟩ (.int .i64 t337)) w.heap.size (fun k_ => some k_ ≠ (.slice Ao37 t315.length co37 : Value).ownBlock) v329 t327) := ⟨by (with_reducible repeat (first | apply Kd.R_alloc | apply Kd.R_drewN | apply Kd.R_drew)); exact Kd.R_mono (Kd.R_far (p := ⟨gb339, 1, none⟩) (Kd.R_far (p := ⟨gb339, 0, none⟩) (Kd.R_types HO_10.out BK339.out (by decide)) (fun _ hk => hk.2) (.int .i64 t336)) (fun _ hk => hk.2) (.int .i64 t337)) (fun _ hk => hk.1)⟩
             have n2_ : Aside0 (Kd.R k29 29 ((w60.setCell ⟨gb339, 0, none⟩ (.int .i64 t336)).setCell ⟨gb339, 1, none⟩ (.int .i64 t337)) w.heap.size (fun k_ => k_ ≠ gb339) (.slice Ao58 x12_2.length co58) x12_2) := ⟨by (with_reducible repeat (first | apply Kd.R_alloc | apply Kd.R_drewN | apply Kd.R_drew)); exact Kd.R_mono (Kd.R_far (p := ⟨gb339, 1, none⟩) (Kd.R_far (p := ⟨gb339, 0, none⟩) (Kd.R_mono HO_12.out (fun k_ hk => (⟨hk, hk.2⟩ : _ ∧ k_ ≠ gb339))) (fun _ hk => hk.2) (.int .i64 t336)) (fun _ hk => hk.2) (.int .i64 t337)) (fun _ hk => hk.1.2)⟩
             have n3_ : Aside0 (((w60.setCell ⟨gb339, 0, none⟩ (.int .i64 t336)).setCell ⟨gb339, 1, none⟩ (.int .i64 t337)).heap[gb339]? = some (.cells #[.int .i64 t336, .int .i64 t337] 29 (0, 0))) := ⟨by (with_reducible repeat (first | refine blk_drewN ?_ _ | refine blk_drew ?_ | refine blk_alloc ?_ _)); refine blk_put (cs := #[.int .i64 t336, .int .i64 0]) ?_ 1 _ rfl; (with_reducible repeat (first | refine blk_drewN ?_ _ | refine blk_drew ?_ | refine blk_alloc ?_ _)); refine blk_put (cs := #[.int .i64 0, .int .i64 0]) ?_ 0 _ rfl; (with_reducible repeat (first | refine blk_drewN ?_ _ | refine blk_drew ?_ | refine blk_alloc ?_ _)); exact BK339.out⟩
             have n4_ : Aside0 (Below w.heap.size w ((w60.setCell ⟨gb339, 0, none⟩ (.int .i64 t336)).setCell ⟨gb339, 1, none⟩ (.int .i64 t337))) := ⟨(belS HB.out)⟩
             (try clear HO_5)
             (try clear HO_10)
             (try clear HO_12)
             (try clear BK339)
             (try clear HB)
             generalize ((w60.setCell ⟨gb339, 0, none⟩ (.int .i64 t336)).setCell ⟨gb339, 1, none⟩ (.int .i64 t337)) = w62 at n0_ n1_ n2_ n3_ n4_ ⊢
             have HO_5 := n0_
             have HO_10 := n1_
             have HO_12 := n2_
             have BK339 := n3_
             have HB := n4_
             clear n0_ n1_ n2_ n3_ n4_
             have n0_ := Aside0.mk (Kd.R_drew HO_5.out)
             have n1_ := Aside0.mk (Kd.R_drew HO_10.out)
             have n2_ := Aside0.mk (Kd.R_drew HO_12.out)
             have n3_ := Aside0.mk (blk_drew BK339.out)
             have n4_ := Aside0.mk (below_drew1 HB.out)
             clear HO_5
             clear HO_10
             clear HO_12
             clear BK339
             clear HB
             have HO_5 := n0_
             have HO_10 := n1_
             have HO_12 := n2_
             have BK339 := n3_
             have HB := n4_
             clear n0_ n1_ n2_ n3_ n4_
             obtain ⟨Ao64, co64, eo64⟩ := Kd.R_slice HO_10.out
             (first | subst eo64 | (injection eo64 with f1_ f2_ f3_; have f4_ := f1_.symm; have f5_ := f3_.symm; clear f1_ f2_ f3_; subst f4_; subst f5_))
             have p340 : 0 ≤ (0 : Int) := (by omega)
             have q340 : 0 < (t327.length : Int) := of_decide_eq_true (by first | (with_reducible assumption) | assumption)
             obtain ⟨ad340, e340, hx340_0, hx340_1, hx340_2⟩ := at_T31 (Kd.R_reads' HO_10.out).2.2 0 p340 q340
             cases e340
             have qi340 : (0 < t327.length) = True := eq_true (by omega)
             (try rw [show ((0 : Int)).toNat = 0 from rfl] at hx340_0)
             (try rw [show 0 * 3 = 0 from rfl] at hx340_0)
             (try rw [Addr.add_zero'] at hx340_0)
             (try rw [show ((0 : Int)).toNat = 0 from rfl] at hx340_1)
             (try rw [show 0 * 3 = 0 from rfl] at hx340_1)
             (try rw [Addr.add_zero'] at hx340_1)
             (try rw [show ((0 : Int)).toNat = 0 from rfl] at hx340_2)
             (try rw [show 0 * 3 = 0 from rfl] at hx340_2)
             (try rw [Addr.add_zero'] at hx340_2)
             replace p340 := eq_true p340
             replace q340 := eq_true q340
             refine start_ (n := 23) (S := fun w' => w'.cell? ⟨gb339, 0, none⟩ = some (.int .i64 t336) ∧ w'.cell? ⟨gb339, 1, none⟩ = some (.int .i64 t337) ∧ w'.cell? ad340 = some (.int .i64 ((rd_T31 t327 0).f0)) ∧ w'.cell? ⟨ad340.block, ad340.off + 1, none⟩ = some (.int .i64 ((rd_T31 t327 0).f1.f0)) ∧ w'.cell? ⟨ad340.block, ad340.off + 2, none⟩ = some (.int .i64 ((rd_T31 t327 0).f1.f1))) (ds := []) #[false, false, false, false, false, false, false, false, false, false, false, false, false, false, false, false, false, false, false, false, false, false, false] (by kernel_rfl) rfl rfl ⟨(blk_cell BK339.out 0).trans rfl, (blk_cell BK339.out 1).trans rfl, hx340_0, hx340_1, hx340_2⟩ (fun hHeld => ?_); refine with_tabW marigraphlaw21_DownOne.tab18 marigraphlaw21_DownOne.bits18 (fun HT_ HW_ => ?_)
             generalize w62.drew = w63 at HO_5 HO_10 HO_12 BK339 HB hx340_0 hx340_1 hx340_2 hHeld ⊢
             refine pA 0 (some 77) (bA 23 1) HT_.out ?_
             refine pA 1 (some 78) (bA 23 3) HT_.out ?_
             refine pA 2 (some 79) (bA 23 7) HT_.out ?_
             refine pA 3 (some 80) (bA 23 15) HT_.out ?_
             refine pA 4 (some 81) (bA 23 31) HT_.out ?_
             refine pA 5 (some 82) (bA 23 63) HT_.out ?_
             refine pA 6 (some 83) (bA 23 127) HT_.out ?_
             refine pA 7 (some 84) (bA 23 255) HT_.out ?_
             refine pA 8 (some 85) (bA 23 511) HT_.out ?_
             refine pA 9 (some 86) (bA 23 1023) HT_.out ?_
             refine pA 10 (some 87) (bA 23 2047) HT_.out ?_
             refine pA 11 (some 88) (bA 23 4095) HT_.out ?_
             refine pA 12 (some 89) (bA 23 8191) HT_.out ?_
             refine pA 13 (some 90) (bA 23 16383) HT_.out ?_
             refine take_ (i := 14) (N := some 91) (v := ?_) (a' := ?_) (bA 23 32767) rfl rfl (take_ofW HT_.out HW_.out (by kernel_rfl)) (fun _ _ _ h => h) (Or.inl ⟨by rfl, ?_⟩) hHeld ?_ ?_
             rotate_left
             ·rintro w' ⟨s0, s1, s2, s3, s4⟩
              go_simp
              with_reducible rfl
             rotate_left
             ·simp only [Act.put, List.setIfInBounds_toArray, List.set_cons_zero, List.set_cons_succ, i64_w, i32_w]
              rfl
             refine take_ (i := 15) (N := some 92) (v := ?_) (a' := ?_) (bA 23 65535) rfl rfl (take_ofW HT_.out HW_.out (by kernel_rfl)) (fun _ _ _ h => h) (Or.inl ⟨by rfl, ?_⟩) hHeld ?_ ?_
             rotate_left
             ·rintro w' ⟨s0, s1, s2, s3, s4⟩
              go_simp
              with_reducible rfl
             rotate_left
             ·simp only [Act.put, List.setIfInBounds_toArray, List.set_cons_zero, List.set_cons_succ, i64_w, i32_w]
              rfl
             refine pA 16 (some 93) (bA 23 131071) HT_.out ?_
             refine pA 17 (some 94) (bA 23 262143) HT_.out ?_
             refine pA 18 (some 95) (bA 23 524287) HT_.out ?_
             refine pA 19 (some 96) (bA 23 1048575) HT_.out ?_
             refine pU 20 (some 97) (bA 23 2097151) HT_.out ?_
             refine pA 21 (some 98) (bA 23 4194303) HT_.out ?_
             refine pA 22 (some 4) (bA 23 8388607) HT_.out ?_
             refine done_ (done_of HT_.out (by kernel_rfl)) ?_
             try go_wp2
             go_ret
             exact ⟨by first | rfl | (simp [errW_none, errW_some] <;> rfl) | (simp [*, errW_none, errW_some] <;> rfl), (belS HB.out)⟩
           ·rw [if_neg c47] at H
            exact absurd H (by simp)
          ·rw [if_neg c46] at H
           have c46b0 : ((t327.length : Int) == 1) = false := beq_eq_false_iff_ne.mpr c46
           have c46b1 : ((t327.length : Int) != 1) = true := bne_iff_ne.mpr c46
           obtain rfl := Option.some.inj H
           obtain ⟨Ao65, co65, eo65⟩ := Kd.R_slice HO_12.out
           subst eo65
           try go_wp2_with (first | ((with_reducible refine gate_callee (f := 16) rfl ?_); refine goesL_ (some 74) rfl rfl Try.func16 (by kernel_rfl) rfl #[.int .i64 3, .slice Ao65 x12_2.length co65] rfl argN ?_; (with_reducible refine (marigraphref20_Do.calls k2 3 _ _ x12_2 t336 t337 t338 _ ?side1 ?side2 A43.out).mono ?_); (case side1 => repeat (first | exact (Kd.R_reads' HO_12.out).2.2 | (with_reducible refine Kd.C_alloc ?_ _) | (with_reducible refine Kd.C_drewN ?_ _) | (with_reducible refine Kd.C_drew ?_))); (case side2 => exact (Kd.R_reads' HO_12.out).2.1); rintro e w66 ⟨rfl, hb⟩; refine ⟨_, rfl, ?_⟩; have n0_ := Aside0.mk (Kd.R_below (rowN HO_5.out) hb); have n1_ := Aside0.mk (Kd.R_below (rowN HO_10.out) hb); have n2_ := Aside0.mk (Kd.R_below (rowN HO_12.out) hb); have n3_ := Aside0.mk (below_step (belN HB.out) hb); clear HO_5; clear HO_10; clear HO_12; clear HB; have HO_5 := n0_; have HO_10 := n1_; have HO_12 := n2_; have HB := n3_; clear n0_ n1_ n2_ n3_; (try clear hb); (try clear hk)) | ((with_reducible refine gate_dst (N := 14) rfl ?_); (try (refine gate_guard (by rfl) ?_; dsimp only)); refine box_event ?hg (N := 14) ?hd (cs := #[.int .i64 0, .int .i64 0]) (t := 29) ?hr ?_; (case hd => rfl); (case hg => rfl); (case hr => first | (go_simp; done) | (go_simp; rfl)); intro gb339 hg w67 hbox hb; have n0_ := Aside0.mk (Kd.R_below (rowN HO_5.out) hb); have n1_ := Aside0.mk (Kd.R_below (rowN HO_10.out) hb); have n2_ := Aside0.mk (Kd.R_below (Kd.R_elderB (rowN HO_12.out) gb339 (Nat.le_of_eq hg.symm)) hb); have n3_ := Aside0.mk (below_step (belN HB.out) hb); have n4_ := Aside0.mk (hbox); have n5_ := Aside0.mk (szB hg HB.out); have n6_ := Aside0.mk (szB hg HB.out); clear HO_5; clear HO_10; clear HO_12; clear HB; have HO_5 := n0_; have HO_10 := n1_; have HO_12 := n2_; have HB := n3_; have BK339 := n4_; have GW339 := n5_; have GE339 := n6_; clear n0_ n1_ n2_ n3_ n4_ n5_ n6_; clear hb hbox hg; have hcz68_0 : w67.cell? ⟨gb339, 0, none⟩ = some (.int .i64 0) := (blk_cell BK339.out 0).trans rfl; have hcz68_1 : w67.cell? ⟨gb339, 1, none⟩ = some (.int .i64 0) := (blk_cell BK339.out 1).trans rfl; have hfz68_0 := blk_frozen BK339.out 0; have hfz68_1 := blk_frozen BK339.out 1))
           have n0_ : Aside0 (Kd.R k31 31 ((w67.setCell ⟨gb339, 0, none⟩ (.int .i64 t336)).setCell ⟨gb339, 1, none⟩ (.int .i64 t337)) w.heap.size (fun k_ => some k_ ≠ (v329 : Value).ownBlock) (.slice Ao37 t315.length co37) t315) := ⟨by (with_reducible repeat (first | apply Kd.R_alloc | apply Kd.R_drewN | apply Kd.R_drew)); exact Kd.R_mono (Kd.R_far (p := ⟨gb339, 1, none⟩) (Kd.R_far (p := ⟨gb339, 0, none⟩) (Kd.R_types HO_5.out BK339.out (by decide)) (fun _ hk => hk.2) (.int .i64 t336)) (fun _ hk => hk.2) (.int .i64 t337)) (fun _ hk => hk.1)⟩
           have n1_ : Aside0 (Kd.R k31 31 ((w67.setCell ⟨gb339, 0, none⟩ (.int .i64 t336)).setCell ⟨gb339, 1, none⟩ (.int .i64 t337)) w.heap.size (fun k_ => some k_ ≠ (.slice Ao37 t315.length co37 : Value).ownBlock) v329 t327) := ⟨by (with_reducible repeat (first | apply Kd.R_alloc | apply Kd.R_drewN | apply Kd.R_drew)); exact Kd.R_mono (Kd.R_far (p := ⟨gb339, 1, none⟩) (Kd.R_far (p := ⟨gb339, 0, none⟩) (Kd.R_types HO_10.out BK339.out (by decide)) (fun _ hk => hk.2) (.int .i64 t336)) (fun _ hk => hk.2) (.int .i64 t337)) (fun _ hk => hk.1)⟩
           have n2_ : Aside0 (Kd.R k29 29 ((w67.setCell ⟨gb339, 0, none⟩ (.int .i64 t336)).setCell ⟨gb339, 1, none⟩ (.int .i64 t337)) w.heap.size (fun k_ => k_ ≠ gb339) (.slice Ao65 x12_2.length co65) x12_2) := ⟨by (with_reducible repeat (first | apply Kd.R_alloc | apply Kd.R_drewN | apply Kd.R_drew)); exact Kd.R_mono (Kd.R_far (p := ⟨gb339, 1, none⟩) (Kd.R_far (p := ⟨gb339, 0, none⟩) (Kd.R_mono HO_12.out (fun k_ hk => (⟨hk, hk.2⟩ : _ ∧ k_ ≠ gb339))) (fun _ hk => hk.2) (.int .i64 t336)) (fun _ hk => hk.2) (.int .i64 t337)) (fun _ hk => hk.1.2)⟩
           have n3_ : Aside0 (((w67.setCell ⟨gb339, 0, none⟩ (.int .i64 t336)).setCell ⟨gb339, 1, none⟩ (.int .i64 t337)).heap[gb339]? = some (.cells #[.int .i64 t336, .int .i64 t337] 29 (0, 0))) := ⟨by (with_reducible repeat (first | refine blk_drewN ?_ _ | refine blk_drew ?_ | refine blk_alloc ?_ _)); refine blk_put (cs := #[.int .i64 t336, .int .i64 0]) ?_ 1 _ rfl; (with_reducible repeat (first | refine blk_drewN ?_ _ | refine blk_drew ?_ | refine blk_alloc ?_ _)); refine blk_put (cs := #[.int .i64 0, .int .i64 0]) ?_ 0 _ rfl; (with_reducible repeat (first | refine blk_drewN ?_ _ | refine blk_drew ?_ | refine blk_alloc ?_ _)); exact BK339.out⟩
           have n4_ : Aside0 (Below w.heap.size w ((w67.setCell ⟨gb339, 0, none⟩ (.int .i64 t336)).setCell ⟨gb339, 1, none⟩ (.int .i64 t337))) := ⟨(belS HB.out)⟩
           (try clear HO_5)
           (try clear HO_10)
           (try clear HO_12)
           (try clear BK339)
           (try clear HB)
           generalize ((w67.setCell ⟨gb339, 0, none⟩ (.int .i64 t336)).setCell ⟨gb339, 1, none⟩ (.int .i64 t337)) = w69 at n0_ n1_ n2_ n3_ n4_ ⊢
           have HO_5 := n0_
           have HO_10 := n1_
           have HO_12 := n2_
           have BK339 := n3_
           have HB := n4_
           clear n0_ n1_ n2_ n3_ n4_
           have n0_ := Aside0.mk (Kd.R_drew HO_5.out)
           have n1_ := Aside0.mk (Kd.R_drew HO_10.out)
           have n2_ := Aside0.mk (Kd.R_drew HO_12.out)
           have n3_ := Aside0.mk (blk_drew BK339.out)
           have n4_ := Aside0.mk (below_drew1 HB.out)
           clear HO_5
           clear HO_10
           clear HO_12
           clear BK339
           clear HB
           have HO_5 := n0_
           have HO_10 := n1_
           have HO_12 := n2_
           have BK339 := n3_
           have HB := n4_
           clear n0_ n1_ n2_ n3_ n4_
           obtain ⟨Ao71, co71, eo71⟩ := Kd.R_slice HO_10.out
           (first | subst eo71 | (injection eo71 with f1_ f2_ f3_; have f4_ := f1_.symm; have f5_ := f3_.symm; clear f1_ f2_ f3_; subst f4_; subst f5_))
           refine start_ (n := 23) (S := fun w' => True) (ds := []) #[false, false, false, false, false, false, false, false, false, false, false, false, false, false, false, false, false, false, false, false, false, false, false] (by kernel_rfl) rfl rfl trivial (fun hHeld => ?_); refine with_tabW marigraphlaw21_DownOne.tab18 marigraphlaw21_DownOne.bits18 (fun HT_ HW_ => ?_)
           generalize w69.drew = w70 at HO_5 HO_10 HO_12 BK339 HB hHeld ⊢
           refine pA 0 (some 77) (bA 23 1) HT_.out ?_
           refine pA 1 (some 78) (bA 23 3) HT_.out ?_
           refine pA 2 (some 79) (bA 23 7) HT_.out ?_
           refine pA 3 (some 80) (bA 23 15) HT_.out ?_
           refine pA 4 (some 81) (bA 23 31) HT_.out ?_
           refine pA 5 (some 82) (bA 23 63) HT_.out ?_
           refine pA 6 (some 83) (bA 23 127) HT_.out ?_
           refine pA 7 (some 84) (bA 23 255) HT_.out ?_
           refine pA 8 (some 85) (bA 23 511) HT_.out ?_
           refine pA 9 (some 86) (bA 23 1023) HT_.out ?_
           refine pA 10 (some 87) (bA 23 2047) HT_.out ?_
           refine pA 11 (some 88) (bA 23 4095) HT_.out ?_
           refine pU 12 (some 89) (bA 23 8191) HT_.out ?_
           refine pU 13 (some 90) (bA 23 16383) HT_.out ?_
           refine pU 14 (some 91) (bA 23 32767) HT_.out ?_
           refine pU 15 (some 92) (bA 23 65535) HT_.out ?_
           refine pU 16 (some 93) (bA 23 131071) HT_.out ?_
           refine pU 17 (some 94) (bA 23 262143) HT_.out ?_
           refine pA 18 (some 95) (bA 23 524287) HT_.out ?_
           refine pA 19 (some 96) (bA 23 1048575) HT_.out ?_
           refine pU 20 (some 97) (bA 23 2097151) HT_.out ?_
           refine pA 21 (some 98) (bA 23 4194303) HT_.out ?_
           refine pA 22 (some 4) (bA 23 8388607) HT_.out ?_
           refine done_ (done_of HT_.out (by kernel_rfl)) ?_
           try go_wp2
           go_ret
           exact ⟨by first | rfl | (simp [errW_none, errW_some] <;> rfl) | (simp [*, errW_none, errW_some] <;> rfl), (belS HB.out)⟩
         ·rw [if_neg c45] at H
          have c45b0 : (t338 == 0) = false := beq_eq_false_iff_ne.mpr c45
          have c45b1 : (t338 != 0) = true := bne_iff_ne.mpr c45
          obtain rfl := Option.some.inj H
          obtain ⟨Ao72, co72, eo72⟩ := Kd.R_slice HO_12.out
          subst eo72
          try go_wp2_with (first | ((with_reducible refine gate_callee (f := 16) rfl ?_); refine goesL_ (some 74) rfl rfl Try.func16 (by kernel_rfl) rfl #[.int .i64 3, .slice Ao72 x12_2.length co72] rfl argN ?_; (with_reducible refine (marigraphref20_Do.calls k2 3 _ _ x12_2 t336 t337 t338 _ ?side1 ?side2 A43.out).mono ?_); (case side1 => repeat (first | exact (Kd.R_reads' HO_12.out).2.2 | (with_reducible refine Kd.C_alloc ?_ _) | (with_reducible refine Kd.C_drewN ?_ _) | (with_reducible refine Kd.C_drew ?_))); (case side2 => exact (Kd.R_reads' HO_12.out).2.1); rintro e w73 ⟨rfl, hb⟩; refine ⟨_, rfl, ?_⟩; have n0_ := Aside0.mk (Kd.R_below (rowN HO_5.out) hb); have n1_ := Aside0.mk (Kd.R_below (rowN HO_10.out) hb); have n2_ := Aside0.mk (Kd.R_below (rowN HO_12.out) hb); have n3_ := Aside0.mk (below_step (belN HB.out) hb); clear HO_5; clear HO_10; clear HO_12; clear HB; have HO_5 := n0_; have HO_10 := n1_; have HO_12 := n2_; have HB := n3_; clear n0_ n1_ n2_ n3_; (try clear hb); (try clear hk)) | ((with_reducible refine gate_dst (N := 14) rfl ?_); (try (refine gate_guard (by rfl) ?_; dsimp only)); refine box_event ?hg (N := 14) ?hd (cs := #[.int .i64 0, .int .i64 0]) (t := 29) ?hr ?_; (case hd => rfl); (case hg => rfl); (case hr => first | (go_simp; done) | (go_simp; rfl)); intro gb339 hg w74 hbox hb; have n0_ := Aside0.mk (Kd.R_below (rowN HO_5.out) hb); have n1_ := Aside0.mk (Kd.R_below (rowN HO_10.out) hb); have n2_ := Aside0.mk (Kd.R_below (Kd.R_elderB (rowN HO_12.out) gb339 (Nat.le_of_eq hg.symm)) hb); have n3_ := Aside0.mk (below_step (belN HB.out) hb); have n4_ := Aside0.mk (hbox); have n5_ := Aside0.mk (szB hg HB.out); have n6_ := Aside0.mk (szB hg HB.out); clear HO_5; clear HO_10; clear HO_12; clear HB; have HO_5 := n0_; have HO_10 := n1_; have HO_12 := n2_; have HB := n3_; have BK339 := n4_; have GW339 := n5_; have GE339 := n6_; clear n0_ n1_ n2_ n3_ n4_ n5_ n6_; clear hb hbox hg; have hcz75_0 : w74.cell? ⟨gb339, 0, none⟩ = some (.int .i64 0) := (blk_cell BK339.out 0).trans rfl; have hcz75_1 : w74.cell? ⟨gb339, 1, none⟩ = some (.int .i64 0) := (blk_cell BK339.out 1).trans rfl; have hfz75_0 := blk_frozen BK339.out 0; have hfz75_1 := blk_frozen BK339.out 1))
          have n0_ : Aside0 (Kd.R k31 31 ((w74.setCell ⟨gb339, 0, none⟩ (.int .i64 t336)).setCell ⟨gb339, 1, none⟩ (.int .i64 t337)) w.heap.size (fun k_ => some k_ ≠ (v329 : Value).ownBlock) (.slice Ao37 t315.length co37) t315) := ⟨by (with_reducible repeat (first | apply Kd.R_alloc | apply Kd.R_drewN | apply Kd.R_drew)); exact Kd.R_mono (Kd.R_far (p := ⟨gb339, 1, none⟩) (Kd.R_far (p := ⟨gb339, 0, none⟩) (Kd.R_types HO_5.out BK339.out (by decide)) (fun _ hk => hk.2) (.int .i64 t336)) (fun _ hk => hk.2) (.int .i64 t337)) (fun _ hk => hk.1)⟩
          have n1_ : Aside0 (Kd.R k31 31 ((w74.setCell ⟨gb339, 0, none⟩ (.int .i64 t336)).setCell ⟨gb339, 1, none⟩ (.int .i64 t337)) w.heap.size (fun k_ => some k_ ≠ (.slice Ao37 t315.length co37 : Value).ownBlock) v329 t327) := ⟨by (with_reducible repeat (first | apply Kd.R_alloc | apply Kd.R_drewN | apply Kd.R_drew)); exact Kd.R_mono (Kd.R_far (p := ⟨gb339, 1, none⟩) (Kd.R_far (p := ⟨gb339, 0, none⟩) (Kd.R_types HO_10.out BK339.out (by decide)) (fun _ hk => hk.2) (.int .i64 t336)) (fun _ hk => hk.2) (.int .i64 t337)) (fun _ hk => hk.1)⟩
          have n2_ : Aside0 (Kd.R k29 29 ((w74.setCell ⟨gb339, 0, none⟩ (.int .i64 t336)).setCell ⟨gb339, 1, none⟩ (.int .i64 t337)) w.heap.size (fun k_ => k_ ≠ gb339) (.slice Ao72 x12_2.length co72) x12_2) := ⟨by (with_reducible repeat (first | apply Kd.R_alloc | apply Kd.R_drewN | apply Kd.R_drew)); exact Kd.R_mono (Kd.R_far (p := ⟨gb339, 1, none⟩) (Kd.R_far (p := ⟨gb339, 0, none⟩) (Kd.R_mono HO_12.out (fun k_ hk => (⟨hk, hk.2⟩ : _ ∧ k_ ≠ gb339))) (fun _ hk => hk.2) (.int .i64 t336)) (fun _ hk => hk.2) (.int .i64 t337)) (fun _ hk => hk.1.2)⟩
          have n3_ : Aside0 (((w74.setCell ⟨gb339, 0, none⟩ (.int .i64 t336)).setCell ⟨gb339, 1, none⟩ (.int .i64 t337)).heap[gb339]? = some (.cells #[.int .i64 t336, .int .i64 t337] 29 (0, 0))) := ⟨by (with_reducible repeat (first | refine blk_drewN ?_ _ | refine blk_drew ?_ | refine blk_alloc ?_ _)); refine blk_put (cs := #[.int .i64 t336, .int .i64 0]) ?_ 1 _ rfl; (with_reducible repeat (first | refine blk_drewN ?_ _ | refine blk_drew ?_ | refine blk_alloc ?_ _)); refine blk_put (cs := #[.int .i64 0, .int .i64 0]) ?_ 0 _ rfl; (with_reducible repeat (first | refine blk_drewN ?_ _ | refine blk_drew ?_ | refine blk_alloc ?_ _)); exact BK339.out⟩
          have n4_ : Aside0 (Below w.heap.size w ((w74.setCell ⟨gb339, 0, none⟩ (.int .i64 t336)).setCell ⟨gb339, 1, none⟩ (.int .i64 t337))) := ⟨(belS HB.out)⟩
          (try clear HO_5)
          (try clear HO_10)
          (try clear HO_12)
          (try clear BK339)
          (try clear HB)
          generalize ((w74.setCell ⟨gb339, 0, none⟩ (.int .i64 t336)).setCell ⟨gb339, 1, none⟩ (.int .i64 t337)) = w76 at n0_ n1_ n2_ n3_ n4_ ⊢
          have HO_5 := n0_
          have HO_10 := n1_
          have HO_12 := n2_
          have BK339 := n3_
          have HB := n4_
          clear n0_ n1_ n2_ n3_ n4_
          have n0_ := Aside0.mk (Kd.R_drew HO_5.out)
          have n1_ := Aside0.mk (Kd.R_drew HO_10.out)
          have n2_ := Aside0.mk (Kd.R_drew HO_12.out)
          have n3_ := Aside0.mk (blk_drew BK339.out)
          have n4_ := Aside0.mk (below_drew1 HB.out)
          clear HO_5
          clear HO_10
          clear HO_12
          clear BK339
          clear HB
          have HO_5 := n0_
          have HO_10 := n1_
          have HO_12 := n2_
          have BK339 := n3_
          have HB := n4_
          clear n0_ n1_ n2_ n3_ n4_
          refine start_ (n := 23) (S := fun w' => True) (ds := []) #[false, false, false, false, false, false, false, false, false, false, false, false, false, false, false, false, false, false, false, false, false, false, false] (by kernel_rfl) rfl rfl trivial (fun hHeld => ?_); refine with_tabW marigraphlaw21_DownOne.tab18 marigraphlaw21_DownOne.bits18 (fun HT_ HW_ => ?_)
          generalize w76.drew = w77 at HO_5 HO_10 HO_12 BK339 HB hHeld ⊢
          refine pA 0 (some 77) (bA 23 1) HT_.out ?_
          refine pA 1 (some 78) (bA 23 3) HT_.out ?_
          refine pA 2 (some 79) (bA 23 7) HT_.out ?_
          refine pA 3 (some 80) (bA 23 15) HT_.out ?_
          refine pA 4 (some 81) (bA 23 31) HT_.out ?_
          refine pA 5 (some 82) (bA 23 63) HT_.out ?_
          refine pA 6 (some 83) (bA 23 127) HT_.out ?_
          refine pU 7 (some 84) (bA 23 255) HT_.out ?_
          refine pU 8 (some 85) (bA 23 511) HT_.out ?_
          refine pU 9 (some 86) (bA 23 1023) HT_.out ?_
          refine pA 10 (some 87) (bA 23 2047) HT_.out ?_
          refine pA 11 (some 88) (bA 23 4095) HT_.out ?_
          refine pU 12 (some 89) (bA 23 8191) HT_.out ?_
          refine pU 13 (some 90) (bA 23 16383) HT_.out ?_
          refine pU 14 (some 91) (bA 23 32767) HT_.out ?_
          refine pU 15 (some 92) (bA 23 65535) HT_.out ?_
          refine pU 16 (some 93) (bA 23 131071) HT_.out ?_
          refine pU 17 (some 94) (bA 23 262143) HT_.out ?_
          refine pA 18 (some 95) (bA 23 524287) HT_.out ?_
          refine pA 19 (some 96) (bA 23 1048575) HT_.out ?_
          refine pU 20 (some 97) (bA 23 2097151) HT_.out ?_
          refine pA 21 (some 98) (bA 23 4194303) HT_.out ?_
          refine pA 22 (some 4) (bA 23 8388607) HT_.out ?_
          refine done_ (done_of HT_.out (by kernel_rfl)) ?_
          try go_wp2
          go_ret
          exact ⟨by first | rfl | (simp [errW_none, errW_some] <;> rfl) | (simp [*, errW_none, errW_some] <;> rfl), (belS HB.out)⟩
        ·rw [if_neg c44] at H
         have c44b0 : (t328 == 0) = false := beq_eq_false_iff_ne.mpr c44
         have c44b1 : (t328 != 0) = true := bne_iff_ne.mpr c44
         obtain rfl := Option.some.inj H
         obtain ⟨Ao78, co78, eo78⟩ := Kd.R_slice HO_12.out
         subst eo78
         try go_wp2_with (first | ((with_reducible refine gate_callee (f := 16) rfl ?_); refine goesL_ (some 74) rfl rfl Try.func16 (by kernel_rfl) rfl #[.int .i64 3, .slice Ao78 x12_2.length co78] rfl argN ?_; (with_reducible refine (marigraphref20_Do.calls k2 3 _ _ x12_2 t336 t337 t338 _ ?side1 ?side2 A43.out).mono ?_); (case side1 => repeat (first | exact (Kd.R_reads' HO_12.out).2.2 | (with_reducible refine Kd.C_alloc ?_ _) | (with_reducible refine Kd.C_drewN ?_ _) | (with_reducible refine Kd.C_drew ?_))); (case side2 => exact (Kd.R_reads' HO_12.out).2.1); rintro e w79 ⟨rfl, hb⟩; refine ⟨_, rfl, ?_⟩; have n0_ := Aside0.mk (Kd.R_below (rowN HO_5.out) hb); have n1_ := Aside0.mk (Kd.R_below (rowN HO_10.out) hb); have n2_ := Aside0.mk (Kd.R_below (rowN HO_12.out) hb); have n3_ := Aside0.mk (below_step (belN HB.out) hb); clear HO_5; clear HO_10; clear HO_12; clear HB; have HO_5 := n0_; have HO_10 := n1_; have HO_12 := n2_; have HB := n3_; clear n0_ n1_ n2_ n3_; (try clear hb); (try clear hk)) | ((with_reducible refine gate_dst (N := 14) rfl ?_); (try (refine gate_guard (by rfl) ?_; dsimp only)); refine box_event ?hg (N := 14) ?hd (cs := #[.int .i64 0, .int .i64 0]) (t := 29) ?hr ?_; (case hd => rfl); (case hg => rfl); (case hr => first | (go_simp; done) | (go_simp; rfl)); intro gb339 hg w80 hbox hb; have n0_ := Aside0.mk (Kd.R_below (rowN HO_5.out) hb); have n1_ := Aside0.mk (Kd.R_below (rowN HO_10.out) hb); have n2_ := Aside0.mk (Kd.R_below (Kd.R_elderB (rowN HO_12.out) gb339 (Nat.le_of_eq hg.symm)) hb); have n3_ := Aside0.mk (below_step (belN HB.out) hb); have n4_ := Aside0.mk (hbox); have n5_ := Aside0.mk (szB hg HB.out); have n6_ := Aside0.mk (szB hg HB.out); clear HO_5; clear HO_10; clear HO_12; clear HB; have HO_5 := n0_; have HO_10 := n1_; have HO_12 := n2_; have HB := n3_; have BK339 := n4_; have GW339 := n5_; have GE339 := n6_; clear n0_ n1_ n2_ n3_ n4_ n5_ n6_; clear hb hbox hg; have hcz81_0 : w80.cell? ⟨gb339, 0, none⟩ = some (.int .i64 0) := (blk_cell BK339.out 0).trans rfl; have hcz81_1 : w80.cell? ⟨gb339, 1, none⟩ = some (.int .i64 0) := (blk_cell BK339.out 1).trans rfl; have hfz81_0 := blk_frozen BK339.out 0; have hfz81_1 := blk_frozen BK339.out 1))
         have n0_ : Aside0 (Kd.R k31 31 ((w80.setCell ⟨gb339, 0, none⟩ (.int .i64 t336)).setCell ⟨gb339, 1, none⟩ (.int .i64 t337)) w.heap.size (fun k_ => some k_ ≠ (v329 : Value).ownBlock) (.slice Ao37 t315.length co37) t315) := ⟨by (with_reducible repeat (first | apply Kd.R_alloc | apply Kd.R_drewN | apply Kd.R_drew)); exact Kd.R_mono (Kd.R_far (p := ⟨gb339, 1, none⟩) (Kd.R_far (p := ⟨gb339, 0, none⟩) (Kd.R_types HO_5.out BK339.out (by decide)) (fun _ hk => hk.2) (.int .i64 t336)) (fun _ hk => hk.2) (.int .i64 t337)) (fun _ hk => hk.1)⟩
         have n1_ : Aside0 (Kd.R k31 31 ((w80.setCell ⟨gb339, 0, none⟩ (.int .i64 t336)).setCell ⟨gb339, 1, none⟩ (.int .i64 t337)) w.heap.size (fun k_ => some k_ ≠ (.slice Ao37 t315.length co37 : Value).ownBlock) v329 t327) := ⟨by (with_reducible repeat (first | apply Kd.R_alloc | apply Kd.R_drewN | apply Kd.R_drew)); exact Kd.R_mono (Kd.R_far (p := ⟨gb339, 1, none⟩) (Kd.R_far (p := ⟨gb339, 0, none⟩) (Kd.R_types HO_10.out BK339.out (by decide)) (fun _ hk => hk.2) (.int .i64 t336)) (fun _ hk => hk.2) (.int .i64 t337)) (fun _ hk => hk.1)⟩
         have n2_ : Aside0 (Kd.R k29 29 ((w80.setCell ⟨gb339, 0, none⟩ (.int .i64 t336)).setCell ⟨gb339, 1, none⟩ (.int .i64 t337)) w.heap.size (fun k_ => k_ ≠ gb339) (.slice Ao78 x12_2.length co78) x12_2) := ⟨by (with_reducible repeat (first | apply Kd.R_alloc | apply Kd.R_drewN | apply Kd.R_drew)); exact Kd.R_mono (Kd.R_far (p := ⟨gb339, 1, none⟩) (Kd.R_far (p := ⟨gb339, 0, none⟩) (Kd.R_mono HO_12.out (fun k_ hk => (⟨hk, hk.2⟩ : _ ∧ k_ ≠ gb339))) (fun _ hk => hk.2) (.int .i64 t336)) (fun _ hk => hk.2) (.int .i64 t337)) (fun _ hk => hk.1.2)⟩
         have n3_ : Aside0 (((w80.setCell ⟨gb339, 0, none⟩ (.int .i64 t336)).setCell ⟨gb339, 1, none⟩ (.int .i64 t337)).heap[gb339]? = some (.cells #[.int .i64 t336, .int .i64 t337] 29 (0, 0))) := ⟨by (with_reducible repeat (first | refine blk_drewN ?_ _ | refine blk_drew ?_ | refine blk_alloc ?_ _)); refine blk_put (cs := #[.int .i64 t336, .int .i64 0]) ?_ 1 _ rfl; (with_reducible repeat (first | refine blk_drewN ?_ _ | refine blk_drew ?_ | refine blk_alloc ?_ _)); refine blk_put (cs := #[.int .i64 0, .int .i64 0]) ?_ 0 _ rfl; (with_reducible repeat (first | refine blk_drewN ?_ _ | refine blk_drew ?_ | refine blk_alloc ?_ _)); exact BK339.out⟩
         have n4_ : Aside0 (Below w.heap.size w ((w80.setCell ⟨gb339, 0, none⟩ (.int .i64 t336)).setCell ⟨gb339, 1, none⟩ (.int .i64 t337))) := ⟨(belS HB.out)⟩
         (try clear HO_5)
         (try clear HO_10)
         (try clear HO_12)
         (try clear BK339)
         (try clear HB)
         generalize ((w80.setCell ⟨gb339, 0, none⟩ (.int .i64 t336)).setCell ⟨gb339, 1, none⟩ (.int .i64 t337)) = w82 at n0_ n1_ n2_ n3_ n4_ ⊢
         have HO_5 := n0_
         have HO_10 := n1_
         have HO_12 := n2_
         have BK339 := n3_
         have HB := n4_
         clear n0_ n1_ n2_ n3_ n4_
         have n0_ := Aside0.mk (Kd.R_drew HO_5.out)
         have n1_ := Aside0.mk (Kd.R_drew HO_10.out)
         have n2_ := Aside0.mk (Kd.R_drew HO_12.out)
         have n3_ := Aside0.mk (blk_drew BK339.out)
         have n4_ := Aside0.mk (below_drew1 HB.out)
         clear HO_5
         clear HO_10
         clear HO_12
         clear BK339
         clear HB
         have HO_5 := n0_
         have HO_10 := n1_
         have HO_12 := n2_
         have BK339 := n3_
         have HB := n4_
         clear n0_ n1_ n2_ n3_ n4_
         refine start_ (n := 23) (S := fun w' => True) (ds := []) #[false, false, false, false, false, false, false, false, false, false, false, false, false, false, false, false, false, false, false, false, false, false, false] (by kernel_rfl) rfl rfl trivial (fun hHeld => ?_); refine with_tabW marigraphlaw21_DownOne.tab18 marigraphlaw21_DownOne.bits18 (fun HT_ HW_ => ?_)
         generalize w82.drew = w83 at HO_5 HO_10 HO_12 BK339 HB hHeld ⊢
         refine pA 0 (some 77) (bA 23 1) HT_.out ?_
         refine pA 1 (some 78) (bA 23 3) HT_.out ?_
         refine pA 2 (some 79) (bA 23 7) HT_.out ?_
         refine pU 3 (some 80) (bA 23 15) HT_.out ?_
         refine pU 4 (some 81) (bA 23 31) HT_.out ?_
         refine pA 5 (some 82) (bA 23 63) HT_.out ?_
         refine pA 6 (some 83) (bA 23 127) HT_.out ?_
         refine pU 7 (some 84) (bA 23 255) HT_.out ?_
         refine pU 8 (some 85) (bA 23 511) HT_.out ?_
         refine pU 9 (some 86) (bA 23 1023) HT_.out ?_
         refine pA 10 (some 87) (bA 23 2047) HT_.out ?_
         refine pA 11 (some 88) (bA 23 4095) HT_.out ?_
         refine pU 12 (some 89) (bA 23 8191) HT_.out ?_
         refine pU 13 (some 90) (bA 23 16383) HT_.out ?_
         refine pU 14 (some 91) (bA 23 32767) HT_.out ?_
         refine pU 15 (some 92) (bA 23 65535) HT_.out ?_
         refine pU 16 (some 93) (bA 23 131071) HT_.out ?_
         refine pU 17 (some 94) (bA 23 262143) HT_.out ?_
         refine pA 18 (some 95) (bA 23 524287) HT_.out ?_
         refine pA 19 (some 96) (bA 23 1048575) HT_.out ?_
         refine pU 20 (some 97) (bA 23 2097151) HT_.out ?_
         refine pA 21 (some 98) (bA 23 4194303) HT_.out ?_
         refine pA 22 (some 4) (bA 23 8388607) HT_.out ?_
         refine done_ (done_of HT_.out (by kernel_rfl)) ?_
         try go_wp2
         go_ret
         exact ⟨by first | rfl | (simp [errW_none, errW_some] <;> rfl) | (simp [*, errW_none, errW_some] <;> rfl), (belS HB.out)⟩

/-- THE ONE PURE STATEMENT of marigraphlaw21_DownOne: yours. -/
def marigraphlaw21_DownOne.Pure : Prop := ∀ (l0 : List Int) (l1 : List Int), l0.length ≤ maxLen → l0.length * 8 ≤ 140737488351232 → (∀ x ∈ l0, (Lit.int .i64 x).wf = true) → l1.length ≤ maxLen → l1.length * 8 ≤ 140737488351232 → (∀ x ∈ l1, (Lit.int .i64 x).wf = true) → ∃ k, marigraphlaw21_DownOne.f k l0 l1 = some true
theorem marigraphlaw21_DownOne.walk (P : marigraphlaw21_DownOne.Pure) (a0 : Option Addr) (len0 cap0 : Nat) (z0 : List Int) (a1 : Option Addr) (len1 cap1 : Nat) (z1 : List Int) (w : World) (w0 : (a0 = none ∧ len0 = 0 ∧ cap0 = 0 ∧ z0 = []) ∨ ∃ x, a0 = some x ∧ len0 ≤ cap0 ∧ cap0 ≤ maxLen ∧ z0.length = cap0 ∧ (∀ i, i < z0.length → w.cell? (x.add i) = some (.int .i64 (z0.getD i 0))) ∧ ∀ n ∈ z0, (Lit.int .i64 n).wf = true) (y0 : len0 * 8 ≤ 140737488351232) (w1 : (a1 = none ∧ len1 = 0 ∧ cap1 = 0 ∧ z1 = []) ∨ ∃ x, a1 = some x ∧ len1 ≤ cap1 ∧ cap1 ≤ maxLen ∧ z1.length = cap1 ∧ (∀ i, i < z1.length → w.cell? (x.add i) = some (.int .i64 (z1.getD i 0))) ∧ ∀ n ∈ z1, (Lit.int .i64 n).wf = true) (y1 : len1 * 8 ≤ 140737488351232) :
  Calls Try.prog 6 #[.slice a0 len0 cap0, .slice a1 len1 cap1] w fun e w' => e = .returned (.bool true) ∧ Below w.heap.size w w' := by
 obtain ⟨l0, rfl, hr0, hm0, hw0, hc0⟩ := ReadsInt.ofRowC w0
 obtain ⟨l1, rfl, hr1, hm1, hw1, hc1⟩ := ReadsInt.ofRowC w1
 obtain ⟨k, h⟩ := P l0 l1 hm0 y0 hw0 hm1 y1 hw1
 refine (marigraphlaw21_DownOne.calls k _ _ l0 _ _ l1 true w (Kd.C_of_reads (d := (0 : Int)) (h1 := fun _ => rfl) hr0) hc0 (Kd.C_of_reads (d := (0 : Int)) (h1 := fun _ => rfl) hr1) hc1 h).mono ?_
 rintro e w' ⟨rfl, hd⟩
 exact ⟨rfl, hd⟩

end Go.Proofs.Ytlmhgjnlbokceaa.PDownOne

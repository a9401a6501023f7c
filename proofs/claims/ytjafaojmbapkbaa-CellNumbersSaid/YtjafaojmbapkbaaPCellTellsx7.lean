/- The walk of the Go functions that a law reaches, told as plain functions; a program of this session has written it. No condition beyond the statement's own. -/
import Derived.Test.YtjafaojmbapkbaaPCellTellsx0
import Derived.Test.YtjafaojmbapkbaaPCellTellsx2
import Derived.Test.YtjafaojmbapkbaaPCellTellsx3
import Derived.Test.YtjafaojmbapkbaaPCellTellsx6
namespace Go.Proofs.Ytjafaojmbapkbaa.PCellTells
open Go.RowKit Go.Proofs.YtjafaojmbapkbaaW.PrintWords Go.Proofs.YtjafaojmbapkbaaW.PrintLast Go.Proofs.YtjafaojmbapkbaaW.PrintMore
attribute [local go_sem] max2_int min2_int max_two min_two max_three min_three max_four min_four   -- for this text's walks alone
set_option linter.unusedVariables false
set_option linter.unusedSimpArgs false

/-! ### marigraphref15_Parse: function 58 -/
mutual
def marigraphref15_Parse.j0 : Nat → List Int → List Int → Bool → Option ((List (S26)) × Bool)
 | 0, _, _, _ => none
 | k + 1, x0, x1, x31 => if x31 = true then (some (([] : List (S26)), false)) else (marigraphref15_Parse.l0 k x0 x1 ([] : List (S26)) 0 0)
def marigraphref15_Parse.l0 : Nat → List Int → List Int → List (S26) → Int → Int → Option ((List (S26)) × Bool)
 | 0, _, _, _, _, _ => none
 | k + 1, x0, x1, x6, x7, x8 => if x8 < (x0.length : Int) then (if 0 ≤ x8 then (if x8 ≤ (x0.length : Int) then ((marigraphref2_Get.f k (x0.drop (x8 : Int).toNat) 2).bind fun bt255 => (if 0 ≤ x7 then (if x7 ≤ (x1.length : Int) then ((marigraphref2_Get.f k (x1.drop (x7 : Int).toNat) (wrap64 ((wrap64 (Int.tmod bt255.1 16)) + 1))).bind fun bt258 => (if bt258.2 = true then (if (wrap64 ((wrap64 (Int.tmod bt255.1 16)) + 1)) = 1 then (marigraphref15_Parse.j2 k x0 x1 x6 x7 x8 bt255.1 (wrap64 ((wrap64 (Int.tmod bt255.1 16)) + 1)) bt258.1 false) else (if (wrap64 ((wrap64 (Int.tmod bt255.1 16)) + 1)) = 2 then (marigraphref15_Parse.j2 k x0 x1 x6 x7 x8 bt255.1 (wrap64 ((wrap64 (Int.tmod bt255.1 16)) + 1)) bt258.1 false) else (marigraphref15_Parse.j2 k x0 x1 x6 x7 x8 bt255.1 (wrap64 ((wrap64 (Int.tmod bt255.1 16)) + 1)) bt258.1 ((wrap64 ((wrap64 (Int.tmod bt255.1 16)) + 1)) != 4)))) else (marigraphref15_Parse.j2 k x0 x1 x6 x7 x8 bt255.1 (wrap64 ((wrap64 (Int.tmod bt255.1 16)) + 1)) bt258.1 true))) else (none)) else (none))) else (none)) else (none)) else ((marigraphref15_Cell.f k x6).bind fun bt248 => (if (strOfNums bt248.1).toList = (strOfNums x0).toList then (if (strOfNums bt248.2).toList = (strOfNums x1).toList then (some (x6, true)) else (some (([] : List (S26)), false))) else (some (([] : List (S26)), false))))
def marigraphref15_Parse.j2 : Nat → List Int → List Int → List (S26) → Int → Int → Int → Int → Int → Bool → Option ((List (S26)) × Bool)
 | 0, _, _, _, _, _, _, _, _, _ => none
 | k + 1, x0, x1, x6, x7, x8, x9, x11, x12, x70 => if x70 = true then (some (([] : List (S26)), false)) else (if 0 ≤ (IntKind.u64.wrap (wrap64 ((wrap64 (8 * x11)) - 1))) then (if (shr .u64 x12 (IntKind.u64.wrap (wrap64 ((wrap64 (8 * x11)) - 1)))) = 1 then (if 0 ≤ (IntKind.u64.wrap (wrap64 (8 * x11))) then ((marigraphref15_May.f (wrap64 (IntKind.u64.wrap (Int.tdiv x9 16))) (wrap64 ((wrap64 (x12)) - (shl .i64 1 (IntKind.u64.wrap (wrap64 (8 * x11))))))).bind fun t261 => (if t261 = true then (if (x6.length : Int) > 0 then (if 0 ≤ (wrap64 ((x6.length : Int) - 1)) then (if (wrap64 ((x6.length : Int) - 1)) < (x6.length : Int) then (if ((rd_T26 x6 (wrap64 ((x6.length : Int) - 1))).f0) ≥ (wrap64 (IntKind.u64.wrap (Int.tdiv x9 16))) then (some (([] : List (S26)), false)) else (if x6.length < 8796093022208 then (marigraphref15_Parse.l0 k x0 x1 (x6 ++ [(⟨wrap64 (IntKind.u64.wrap (Int.tdiv x9 16)), wrap64 ((wrap64 (x12)) - (shl .i64 1 (IntKind.u64.wrap (wrap64 (8 * x11)))))⟩ : S26)]) (wrap64 (x7 + x11)) (wrap64 (x8 + 2))) else (none))) else (none)) else (none)) else (if x6.length < 8796093022208 then (marigraphref15_Parse.l0 k x0 x1 (x6 ++ [(⟨wrap64 (IntKind.u64.wrap (Int.tdiv x9 16)), wrap64 ((wrap64 (x12)) - (shl .i64 1 (IntKind.u64.wrap (wrap64 (8 * x11)))))⟩ : S26)]) (wrap64 (x7 + x11)) (wrap64 (x8 + 2))) else (none))) else (some (([] : List (S26)), false)))) else (none)) else ((marigraphref15_May.f (wrap64 (IntKind.u64.wrap (Int.tdiv x9 16))) (wrap64 (x12))).bind fun t270 => (if t270 = true then (if (x6.length : Int) > 0 then (if 0 ≤ (wrap64 ((x6.length : Int) - 1)) then (if (wrap64 ((x6.length : Int) - 1)) < (x6.length : Int) then (if ((rd_T26 x6 (wrap64 ((x6.length : Int) - 1))).f0) ≥ (wrap64 (IntKind.u64.wrap (Int.tdiv x9 16))) then (some (([] : List (S26)), false)) else (if x6.length < 8796093022208 then (marigraphref15_Parse.l0 k x0 x1 (x6 ++ [(⟨wrap64 (IntKind.u64.wrap (Int.tdiv x9 16)), wrap64 (x12)⟩ : S26)]) (wrap64 (x7 + x11)) (wrap64 (x8 + 2))) else (none))) else (none)) else (none)) else (if x6.length < 8796093022208 then (marigraphref15_Parse.l0 k x0 x1 (x6 ++ [(⟨wrap64 (IntKind.u64.wrap (Int.tdiv x9 16)), wrap64 (x12)⟩ : S26)]) (wrap64 (x7 + x11)) (wrap64 (x8 + 2))) else (none))) else (some (([] : List (S26)), false))))) else (none))
end
def marigraphref15_Parse.f (k : Nat) (l0 : List Int) (l1 : List Int) : Option ((List (S26)) × Bool) := if (l0.length : Int) < 2 then (marigraphref15_Parse.j0 k l0 l1 true) else (if ((l0.length : Int) % 2) = 0 then (marigraphref15_Parse.j0 k l0 l1 (decide ((l0.length : Int) > 128))) else (marigraphref15_Parse.j0 k l0 l1 true))
theorem marigraphref15_Parse.mono_l : ∀ k, (∀ y0 y1 y2, LeO (marigraphref15_Parse.j0 k y0 y1 y2) (marigraphref15_Parse.j0 (k + 1) y0 y1 y2)) ∧ (∀ y0 y1 y2 y3 y4, LeO (marigraphref15_Parse.l0 k y0 y1 y2 y3 y4) (marigraphref15_Parse.l0 (k + 1) y0 y1 y2 y3 y4)) ∧ (∀ y0 y1 y2 y3 y4 y5 y6 y7 y8, LeO (marigraphref15_Parse.j2 k y0 y1 y2 y3 y4 y5 y6 y7 y8) (marigraphref15_Parse.j2 (k + 1) y0 y1 y2 y3 y4 y5 y6 y7 y8))
 | 0 => ⟨fun _ _ _ r h => by simp [marigraphref15_Parse.j0] at h, fun _ _ _ _ _ r h => by simp [marigraphref15_Parse.l0] at h, fun _ _ _ _ _ _ _ _ _ r h => by simp [marigraphref15_Parse.j2] at h⟩
 | k + 1 => by
  obtain ⟨ih0, ih1, ih2⟩ := marigraphref15_Parse.mono_l k
  refine ⟨?_, ?_, ?_⟩
  ·intro y0 y1 y2
   unfold marigraphref15_Parse.j0
   repeat' first
   | (with_reducible exact ih0 _ _ _)
   | (with_reducible exact ih1 _ _ _ _ _)
   | (with_reducible exact ih2 _ _ _ _ _ _ _ _ _)
   | (with_reducible exact marigraphref15_Cell.mono _ _)
   | (with_reducible exact marigraphref2_Get.mono _ _ _)
   | (with_reducible exact LeO.refl _)
   | (with_reducible exact LeO.none _)
   | (with_reducible refine LeO.ite ?_ ?_)
   | (with_reducible refine LeO.bind ?_ (fun _ => ?_))
   | exact ih0 _ _ _
   | exact ih1 _ _ _ _ _
   | exact ih2 _ _ _ _ _ _ _ _ _
   | exact marigraphref15_Cell.mono _ _
   | exact marigraphref2_Get.mono _ _ _
   | exact LeO.none _
   | refine LeO.ite ?_ ?_
   | refine LeO.bind ?_ (fun _ => ?_)
  ·intro y0 y1 y2 y3 y4
   unfold marigraphref15_Parse.l0
   repeat' first
   | (with_reducible exact ih0 _ _ _)
   | (with_reducible exact ih1 _ _ _ _ _)
   | (with_reducible exact ih2 _ _ _ _ _ _ _ _ _)
   | (with_reducible exact marigraphref15_Cell.mono _ _)
   | (with_reducible exact marigraphref2_Get.mono _ _ _)
   | (with_reducible exact LeO.refl _)
   | (with_reducible exact LeO.none _)
   | (with_reducible refine LeO.ite ?_ ?_)
   | (with_reducible refine LeO.bind ?_ (fun _ => ?_))
   | exact ih0 _ _ _
   | exact ih1 _ _ _ _ _
   | exact ih2 _ _ _ _ _ _ _ _ _
   | exact marigraphref15_Cell.mono _ _
   | exact marigraphref2_Get.mono _ _ _
   | exact LeO.none _
   | refine LeO.ite ?_ ?_
   | refine LeO.bind ?_ (fun _ => ?_)
  ·intro y0 y1 y2 y3 y4 y5 y6 y7 y8
   unfold marigraphref15_Parse.j2
   repeat' first
   | (with_reducible exact ih0 _ _ _)
   | (with_reducible exact ih1 _ _ _ _ _)
   | (with_reducible exact ih2 _ _ _ _ _ _ _ _ _)
   | (with_reducible exact marigraphref15_Cell.mono _ _)
   | (with_reducible exact marigraphref2_Get.mono _ _ _)
   | (with_reducible exact LeO.refl _)
   | (with_reducible exact LeO.none _)
   | (with_reducible refine LeO.ite ?_ ?_)
   | (with_reducible refine LeO.bind ?_ (fun _ => ?_))
   | exact ih0 _ _ _
   | exact ih1 _ _ _ _ _
   | exact ih2 _ _ _ _ _ _ _ _ _
   | exact marigraphref15_Cell.mono _ _
   | exact marigraphref2_Get.mono _ _ _
   | exact LeO.none _
   | refine LeO.ite ?_ ?_
   | refine LeO.bind ?_ (fun _ => ?_)
theorem marigraphref15_Parse.mono : ∀ a0 a1 k, LeO (marigraphref15_Parse.f k a0 a1) (marigraphref15_Parse.f (k + 1) a0 a1) := by
 intro a0 a1 k
 obtain ⟨ih0, ih1, ih2⟩ := marigraphref15_Parse.mono_l k
 unfold marigraphref15_Parse.f
 repeat' first
   | (with_reducible exact ih0 _ _ _)
   | (with_reducible exact ih1 _ _ _ _ _)
   | (with_reducible exact ih2 _ _ _ _ _ _ _ _ _)
   | (with_reducible exact marigraphref15_Cell.mono _ _)
   | (with_reducible exact marigraphref2_Get.mono _ _ _)
   | (with_reducible exact LeO.refl _)
   | (with_reducible exact LeO.none _)
   | (with_reducible refine LeO.ite ?_ ?_)
   | (with_reducible refine LeO.bind ?_ (fun _ => ?_))
   | exact ih0 _ _ _
   | exact ih1 _ _ _ _ _
   | exact ih2 _ _ _ _ _ _ _ _ _
   | exact marigraphref15_Cell.mono _ _
   | exact marigraphref2_Get.mono _ _ _
   | exact LeO.none _
   | refine LeO.ite ?_ ?_
   | refine LeO.bind ?_ (fun _ => ?_)
def marigraphref15_Parse.T17 : Bool × List (List Nat × List Nat) := (true, [([], []), ([0], [0]), ([1], [1]), ([2, 1], [2]), ([3], [3]), ([4, 3], [3, 4]), ([5, 3], [3, 5]), ([6, 3, 3], [3, 6]), ([7], [7]), ([7], [7]), ([9, 7], [7, 9]), ([10, 7], [7, 10]), ([8, 11, 7], [7, 8, 11]), ([12, 7], [7, 12]), ([13, 7], [7, 13]), ([7], [7]), ([15, 7], [7, 15]), ([14, 16, 7], [7, 14, 16]), ([7, 17, 3], [3, 7, 17]), ([3, 18], [3, 18])])
def marigraphref15_Parse.B17 : List Nat := [0, 1, 3, 7, 15, 31, 63, 127, 255, 255, 767, 1791, 4095, 8191, 16383, 255, 33023, 131071, 262143, 524287]
theorem marigraphref15_Parse.tab17 : rtab .any (opsOf Try.f58 17) = marigraphref15_Parse.T17 := by kernel_rfl
theorem marigraphref15_Parse.bits17 : waitsOk marigraphref15_Parse.T17.2 marigraphref15_Parse.B17 = true := by kernel_rfl
set_option maxHeartbeats 8000000 in
set_option maxRecDepth 100000 in
theorem marigraphref15_Parse.calls (k : Nat) (A0 : Option Addr) (c0 : Nat) (l0 : List Int) (A1 : Option Addr) (c1 : Nat) (l1 : List Int) (r1 : List (S26)) (r2 : Bool) (w : World) (hr0 : Kd.C (Kd.int .u8) w A0 l0.length l0) (hc0 : l0.length ≤ c0) (hr1 : Kd.C (Kd.int .u8) w A1 l1.length l1) (hc1 : l1.length ≤ c1) (h : marigraphref15_Parse.f k l0 l1 = some (r1, r2)) :
  Calls Try.prog 58 #[.slice A0 l0.length c0, .slice A1 l1.length c1] w fun e w' => ∃ v0_ : Value, e = .returned (.tuple #[v0_, .bool r2]) ∧ Kd.R k26 26 w' w.heap.size (fun _ => True) v0_ r1 ∧ Below w.heap.size w w' := by
 have hu26 := Try.underlying26
 have HR0 := Aside0.mk hr0
 have HC0 := Aside0.mk hc0
 clear hr0 hc0
 have HR1 := Aside0.mk hr1
 have HC1 := Aside0.mk hc1
 clear hr1 hc1
 have HB := Aside0.mk (Below.refl w.heap.size w)
 have H : (if (l0.length : Int) < 2 then (marigraphref15_Parse.j0 k l0 l1 true) else (if ((l0.length : Int) % 2) = 0 then (marigraphref15_Parse.j0 k l0 l1 (decide ((l0.length : Int) > 128))) else (marigraphref15_Parse.j0 k l0 l1 true))) = some (r1, r2) := h
 clear h
 have HC3 := Aside0.mk H
 clear H
 go_enter Try.func58, Try.ntmps58
 go_upto_region 1 with (fail)
 go_cut [31] (fun v31 wc => ∃ (kq : Nat) (x31_2 : Bool), v31 = .bool x31_2 ∧ Aside0 (marigraphref15_Parse.j0 kq l0 l1 x31_2 = some (r1, r2)) ∧ Aside0 (kq ≤ k) ∧ Aside0 (Below w.heap.size w wc))
 case first =>
  have H := HC3.out
  clear HC3
  by_cases c4 : (l0.length : Int) < 2
  ·rw [if_pos c4] at H
   have c4b0 : decide ((l0.length : Int) < 2) = true := decide_eq_true c4
   have c4b1 : decide (l0.length < 2) = true := decide_eq_true (by omega)
   clear c4
   (first | rw [c4b0] | rw [c4b1] | (simp only [i64_w, i32_w]; rw [c4b0]) | skip)
   have H' := Aside0.mk H
   clear H
   go_wp2
   go_meet
   case rel => exact ⟨_, (true), (by first | rfl | (simp; done) | (simp [*]; done)), H', ⟨by first | omega | exact Nat.le_refl _⟩, ⟨(belN HB.out)⟩⟩
  ·rw [if_neg c4] at H
   have c4b0 : decide ((l0.length : Int) < 2) = false := decide_eq_false c4
   have c4b1 : decide (l0.length < 2) = false := decide_eq_false (by omega)
   clear c4
   (first | rw [c4b0] | rw [c4b1] | (simp only [i64_w, i32_w]; rw [c4b0]) | skip)
   by_cases c5 : ((l0.length : Int) % 2) = 0
   ·rw [if_pos c5] at H
    have c5b0 : (((l0.length : Int) % 2) == 0) = true := beq_iff_eq.mpr c5
    have c5b1 : (((l0.length : Int) % 2) != 0) = false := bne_eq_false_iff_eq.mpr c5
    clear c5
    have H' := Aside0.mk H
    clear H
    go_wp2
    go_meet
    case rel => exact ⟨_, (decide ((l0.length : Int) > 128)), (by first | rfl | (simp; done) | (simp [*]; done)), H', ⟨by first | omega | exact Nat.le_refl _⟩, ⟨(belN HB.out)⟩⟩
   ·rw [if_neg c5] at H
    have c5b0 : (((l0.length : Int) % 2) == 0) = false := beq_eq_false_iff_ne.mpr c5
    have c5b1 : (((l0.length : Int) % 2) != 0) = true := bne_iff_ne.mpr c5
    have H' := Aside0.mk H
    clear H
    go_wp2
    go_meet
    case rel => exact ⟨_, (true), (by first | rfl | (simp; done) | (simp [*]; done)), H', ⟨by first | omega | exact Nat.le_refl _⟩, ⟨(belN HB.out)⟩⟩
 case rest =>
  clear HC3
  try clear c1
  try clear p2
  try clear c4
  try clear c4b0
  try clear c4b1
  try clear c5
  try clear c5b0
  try clear c5b1
  obtain ⟨kq, x31_2, rfl, HA, HJ2, HB⟩ := hcut
  cases kq with
  | zero => exact absurd HA.out (by simp [marigraphref15_Parse.j0])
  | succ kj2 =>
   have H := HA.out
   clear HA
   simp only [marigraphref15_Parse.j0] at H
   by_cases c6 : x31_2 = true
   ·subst c6
    have H1 : (some (([] : List (S26)), false)) = some (r1, r2) := by rw [if_pos rfl] at H; exact H
    clear H
    have H := H1
    clear H1
    simp only [Option.some.injEq, Prod.mk.injEq] at H
    obtain ⟨rfl, rfl⟩ := H
    go_wp2
    go_ret2
    exact ⟨_, by first | rfl | (simp [errW_none, errW_some] <;> rfl) | (simp [*, errW_none, errW_some] <;> rfl), by first | exact Kd.R_nil _ _ _ _ _ | exact Kd.N_nil _ _ _ _ _ | exact Kd.V_nil _ _ _ _ _ | exact Kd.Q_nil _ _ _ _ _ | exact Kd.S_nil _ _ _ _ _, (belN HB.out)⟩
   ·replace c6 := Bool.eq_false_iff.mpr c6
    subst c6
    have H1 : (marigraphref15_Parse.l0 kj2 l0 l1 ([] : List (S26)) 0 0) = some (r1, r2) := by rw [if_neg (show ¬ (false = true) by decide)] at H; exact H
    clear H
    have H := H1
    clear H1
    have H' := Aside0.mk H
    clear H
    go_wp2
    go_loopg [6, 7, 8] kj2 (fun kq v6 v7 v8 w' => ∃ (x6_2 : List (S26)) (x7_2 : Int) (x8_2 : Int), v7 = .int .i64 x7_2 ∧ v8 = .int .i64 x8_2 ∧ Aside0 (marigraphref15_Parse.l0 kq l0 l1 x6_2 x7_2 x8_2 = some (r1, r2)) ∧ Aside0 (kq ≤ kj2) ∧ Aside0 (Kd.R k26 26 w' w.heap.size (fun _ => True) v6 x6_2) ∧ Aside0 (Below w.heap.size w w'))
    case atStart => exact ⟨(([] : List (S26))), (0), (0), (by first | rfl | (simp; done) | (simp [*]; done)), (by first | rfl | (simp; done) | (simp [*]; done)), H', ⟨Nat.le_refl _⟩, ⟨by first | exact Kd.R_nil _ _ _ _ _ | exact Kd.N_nil _ _ _ _ _ | exact Kd.V_nil _ _ _ _ _ | exact Kd.Q_nil _ _ _ _ _ | exact Kd.S_nil _ _ _ _ _⟩, ⟨(belN HB.out)⟩⟩
    case round =>
     clear H'
     try clear c1
     try clear p2
     try clear c4
     try clear c4b0
     try clear c4b1
     try clear c5
     try clear c5b0
     try clear c5b1
     try clear c6
     try clear p2
     obtain ⟨x6_2, x7_2, x8_2, rfl, rfl, HA, HK2, HO_6, HB⟩ := hrel
     cases gk with
     | zero => exact absurd HA.out (by simp [marigraphref15_Parse.l0])
     | succ k2 =>
      have H := HA.out
      clear HA
      simp only [marigraphref15_Parse.l0] at H
      by_cases c7 : x8_2 < (l0.length : Int)
      ·rw [if_pos c7] at H
       have c7b0 : decide (x8_2 < (l0.length : Int)) = true := decide_eq_true c7
       clear c7
       by_cases c8 : 0 ≤ x8_2
       ·rw [if_pos c8] at H
        have c8b0 := eq_true c8
        have c8b1 : decide (0 ≤ x8_2) = true := decide_eq_true c8
        clear c8
        by_cases c9 : x8_2 ≤ (l0.length : Int)
        ·rw [if_pos c9] at H
         have c9b0 := eq_true c9
         have c9b1 : decide (x8_2 ≤ (l0.length : Int)) = true := decide_eq_true c9
         clear c9
         replace H := Option.bind_eq_some_iff.mp H
         obtain ⟨⟨t255, t256⟩, A100, H⟩ := H
         replace H : (if 0 ≤ x7_2 then (if x7_2 ≤ (l1.length : Int) then ((marigraphref2_Get.f k2 (l1.drop (x7_2 : Int).toNat) (wrap64 ((wrap64 (Int.tmod t255 16)) + 1))).bind fun bt258 => (if bt258.2 = true then (if (wrap64 ((wrap64 (Int.tmod t255 16)) + 1)) = 1 then (marigraphref15_Parse.j2 k2 l0 l1 x6_2 x7_2 x8_2 t255 (wrap64 ((wrap64 (Int.tmod t255 16)) + 1)) bt258.1 false) else (if (wrap64 ((wrap64 (Int.tmod t255 16)) + 1)) = 2 then (marigraphref15_Parse.j2 k2 l0 l1 x6_2 x7_2 x8_2 t255 (wrap64 ((wrap64 (Int.tmod t255 16)) + 1)) bt258.1 false) else (marigraphref15_Parse.j2 k2 l0 l1 x6_2 x7_2 x8_2 t255 (wrap64 ((wrap64 (Int.tmod t255 16)) + 1)) bt258.1 ((wrap64 ((wrap64 (Int.tmod t255 16)) + 1)) != 4)))) else (marigraphref15_Parse.j2 k2 l0 l1 x6_2 x7_2 x8_2 t255 (wrap64 ((wrap64 (Int.tmod t255 16)) + 1)) bt258.1 true))) else (none)) else (none)) = some (r1, r2) := H
         have A10 := Aside0.mk A100
         clear A100
         by_cases c11 : 0 ≤ x7_2
         ·rw [if_pos c11] at H
          have c11b0 := eq_true c11
          have c11b1 : decide (0 ≤ x7_2) = true := decide_eq_true c11
          clear c11
          by_cases c12 : x7_2 ≤ (l1.length : Int)
          ·rw [if_pos c12] at H
           have c12b0 := eq_true c12
           have c12b1 : decide (x7_2 ≤ (l1.length : Int)) = true := decide_eq_true c12
           clear c12
           replace H := Option.bind_eq_some_iff.mp H
           obtain ⟨⟨t258, t259⟩, A130, H⟩ := H
           replace H : (if t259 = true then (if (wrap64 ((wrap64 (Int.tmod t255 16)) + 1)) = 1 then (marigraphref15_Parse.j2 k2 l0 l1 x6_2 x7_2 x8_2 t255 (wrap64 ((wrap64 (Int.tmod t255 16)) + 1)) t258 false) else (if (wrap64 ((wrap64 (Int.tmod t255 16)) + 1)) = 2 then (marigraphref15_Parse.j2 k2 l0 l1 x6_2 x7_2 x8_2 t255 (wrap64 ((wrap64 (Int.tmod t255 16)) + 1)) t258 false) else (marigraphref15_Parse.j2 k2 l0 l1 x6_2 x7_2 x8_2 t255 (wrap64 ((wrap64 (Int.tmod t255 16)) + 1)) t258 ((wrap64 ((wrap64 (Int.tmod t255 16)) + 1)) != 4)))) else (marigraphref15_Parse.j2 k2 l0 l1 x6_2 x7_2 x8_2 t255 (wrap64 ((wrap64 (Int.tmod t255 16)) + 1)) t258 true)) = some (r1, r2) := H
           have A13 := Aside0.mk A130
           clear A130
           have HC14 := Aside0.mk H
           clear H
           obtain ⟨i015, hi015, _, hsz15, _⟩ := info_parts info5
           obtain ⟨A15, hcut15, hA15, hC15⟩ := print_drop_of (P := Try.prog) (Value.int .u8) 0 30 5 .i64 Try.underlying30 hi015 hsz15 A0 c0 l0 x8_2 (of_decide_eq_true (by first | (with_reducible assumption) | assumption)) (of_decide_eq_true (by first | (with_reducible assumption) | assumption)) HC0.out
           have HR254 := Aside0.mk (Kd.C_of_reads (h1 := fun _ => rfl) (hA15 _ (Kd.reads_of_C HR0.out)))
           have HC254 := Aside0.mk hC15
           clear hA15 hC15 hi015 hsz15
           go_upto_region 11 with (first | ((with_reducible refine gate_callee (f := 76) rfl ?_); refine goesL_ (some 42) rfl rfl Try.func76 (by kernel_rfl) rfl #[.slice A15 (l0.drop (x8_2 : Int).toNat).length (c0 - x8_2.toNat), .int .i64 2] rfl (by (try simp only [List.map_toArray, List.map_cons, List.map_nil]); first | done | (rw [show (l0.drop (x8_2 : Int).toNat).length = (l0.length - x8_2.toNat) from List.length_drop] <;> rfl) | rfl | (simp only [List.length_drop, List.length_take]; rfl)) ?_; (with_reducible refine (marigraphref2_Get.calls k2 _ _ (l0.drop (x8_2 : Int).toNat) 2 t255 t256 _ ?side1 ?side2 A10.out).mono ?_); (case side1 => repeat (first | exact (Kd.C_below HR254.out HB.out) | (with_reducible refine Kd.C_alloc ?_ _) | (with_reducible refine Kd.C_drewN ?_ _) | (with_reducible refine Kd.C_drew ?_))); (case side2 => exact HC254.out); rintro e w' ⟨rfl, ⟨nd, rfl⟩⟩; refine ⟨_, rfl, ?_⟩; obtain ⟨i016, hi016, _, hsz16, _⟩ := info_parts info5; obtain ⟨A16, hcut16, hA16, hC16⟩ := print_drop_of (P := Try.prog) (Value.int .u8) 0 30 5 .i64 Try.underlying30 hi016 hsz16 A1 c1 l1 x7_2 (of_decide_eq_true (by first | (with_reducible assumption) | assumption)) (of_decide_eq_true (by first | (with_reducible assumption) | assumption)) HC1.out; have HR257 := Aside0.mk (Kd.C_of_reads (h1 := fun _ => rfl) (hA16 _ (Kd.reads_of_C HR1.out))); have HC257 := Aside0.mk hC16; clear hA16 hC16 hi016 hsz16) | ((with_reducible refine gate_callee (f := 76) rfl ?_); refine goesL_ (some 54) rfl rfl Try.func76 (by kernel_rfl) rfl #[.slice A16 (l1.drop (x7_2 : Int).toNat).length (c1 - x7_2.toNat), .int .i64 (wrap64 ((wrap64 (Int.tmod t255 16)) + 1))] rfl (by (try simp only [List.map_toArray, List.map_cons, List.map_nil]); first | done | (rw [show (l1.drop (x7_2 : Int).toNat).length = (l1.length - x7_2.toNat) from List.length_drop] <;> rfl) | rfl | (simp only [List.length_drop, List.length_take]; rfl)) ?_; (with_reducible refine (marigraphref2_Get.calls k2 _ _ (l1.drop (x7_2 : Int).toNat) (wrap64 ((wrap64 (Int.tmod t255 16)) + 1)) t258 t259 _ ?side1 ?side2 A13.out).mono ?_); (case side1 => repeat (first | exact (Kd.C_below HR257.out (belN HB.out)) | (with_reducible refine Kd.C_alloc ?_ _) | (with_reducible refine Kd.C_drewN ?_ _) | (with_reducible refine Kd.C_drew ?_))); (case side2 => exact HC257.out); rintro e w' ⟨rfl, ⟨nd, rfl⟩⟩; refine ⟨_, rfl, ?_⟩))
           (try simp only [Act.put, List.setIfInBounds_toArray, List.set_cons_zero, List.set_cons_succ])
           go_cut [70] (fun v70 wc => ∃ (kq : Nat) (x70_13 : Bool), v70 = .bool x70_13 ∧ Aside0 (marigraphref15_Parse.j2 kq l0 l1 x6_2 x7_2 x8_2 t255 (wrap64 ((wrap64 (Int.tmod t255 16)) + 1)) t258 x70_13 = some (r1, r2)) ∧ Aside0 (kq ≤ k2) ∧ Aside0 (Kd.R k26 26 wc w.heap.size (fun _ => True) u6 x6_2) ∧ Aside0 (Below w.heap.size w wc))
           case first =>
            have H := HC14.out
            clear HC14
            by_cases c17 : t259 = true
            ·subst c17
             have H1 : (if (wrap64 ((wrap64 (Int.tmod t255 16)) + 1)) = 1 then (marigraphref15_Parse.j2 k2 l0 l1 x6_2 x7_2 x8_2 t255 (wrap64 ((wrap64 (Int.tmod t255 16)) + 1)) t258 false) else (if (wrap64 ((wrap64 (Int.tmod t255 16)) + 1)) = 2 then (marigraphref15_Parse.j2 k2 l0 l1 x6_2 x7_2 x8_2 t255 (wrap64 ((wrap64 (Int.tmod t255 16)) + 1)) t258 false) else (marigraphref15_Parse.j2 k2 l0 l1 x6_2 x7_2 x8_2 t255 (wrap64 ((wrap64 (Int.tmod t255 16)) + 1)) t258 ((wrap64 ((wrap64 (Int.tmod t255 16)) + 1)) != 4)))) = some (r1, r2) := by rw [if_pos rfl] at H; exact H
             clear H
             have H := H1
             clear H1
             by_cases c18 : (wrap64 ((wrap64 (Int.tmod t255 16)) + 1)) = 1
             ·rw [if_pos c18] at H
              have c18b0 : ((wrap64 ((wrap64 (Int.tmod t255 16)) + 1)) == 1) = true := beq_iff_eq.mpr c18
              have c18b1 : ((wrap64 ((wrap64 (Int.tmod t255 16)) + 1)) != 1) = false := bne_eq_false_iff_eq.mpr c18
              clear c18
              (first | rw [c18b0] | rw [c18b1] | (simp only [i64_w, i32_w]; rw [c18b0]) | skip)
              have H' := Aside0.mk H
              clear H
              go_wp2
              go_meet
              case rel => exact ⟨_, (false), (by first | rfl | (simp; done) | (simp [*]; done)), H', ⟨by have := HJ2.out; have := HK2.out; first | omega | exact Nat.le_refl _⟩, ⟨(rowN HO_6.out)⟩, ⟨(belN HB.out)⟩⟩
             ·rw [if_neg c18] at H
              have c18b0 : ((wrap64 ((wrap64 (Int.tmod t255 16)) + 1)) == 1) = false := beq_eq_false_iff_ne.mpr c18
              have c18b1 : ((wrap64 ((wrap64 (Int.tmod t255 16)) + 1)) != 1) = true := bne_iff_ne.mpr c18
              (first | rw [c18b0] | rw [c18b1] | (simp only [i64_w, i32_w]; rw [c18b0]) | skip)
              by_cases c19 : (wrap64 ((wrap64 (Int.tmod t255 16)) + 1)) = 2
              ·rw [if_pos c19] at H
               have c19b0 : ((wrap64 ((wrap64 (Int.tmod t255 16)) + 1)) == 2) = true := beq_iff_eq.mpr c19
               have c19b1 : ((wrap64 ((wrap64 (Int.tmod t255 16)) + 1)) != 2) = false := bne_eq_false_iff_eq.mpr c19
               clear c19
               have H' := Aside0.mk H
               clear H
               go_wp2
               go_meet
               case rel => exact ⟨_, (false), (by first | rfl | (simp; done) | (simp [*]; done)), H', ⟨by have := HJ2.out; have := HK2.out; first | omega | exact Nat.le_refl _⟩, ⟨(rowN HO_6.out)⟩, ⟨(belN HB.out)⟩⟩
              ·rw [if_neg c19] at H
               have c19b0 : ((wrap64 ((wrap64 (Int.tmod t255 16)) + 1)) == 2) = false := beq_eq_false_iff_ne.mpr c19
               have c19b1 : ((wrap64 ((wrap64 (Int.tmod t255 16)) + 1)) != 2) = true := bne_iff_ne.mpr c19
               have H' := Aside0.mk H
               clear H
               go_wp2
               go_meet
               case rel => exact ⟨_, (((wrap64 ((wrap64 (Int.tmod t255 16)) + 1)) != 4)), (by first | rfl | (simp; done) | (simp [*]; done)), H', ⟨by have := HJ2.out; have := HK2.out; first | omega | exact Nat.le_refl _⟩, ⟨(rowN HO_6.out)⟩, ⟨(belN HB.out)⟩⟩
            ·replace c17 := Bool.eq_false_iff.mpr c17
             subst c17
             have H1 : (marigraphref15_Parse.j2 k2 l0 l1 x6_2 x7_2 x8_2 t255 (wrap64 ((wrap64 (Int.tmod t255 16)) + 1)) t258 true) = some (r1, r2) := by rw [if_neg (show ¬ (false = true) by decide)] at H; exact H
             clear H
             have H := H1
             clear H1
             have H' := Aside0.mk H
             clear H
             go_wp2
             go_meet
             case rel => exact ⟨_, (true), (by first | rfl | (simp; done) | (simp [*]; done)), H', ⟨by have := HJ2.out; have := HK2.out; first | omega | exact Nat.le_refl _⟩, ⟨(rowN HO_6.out)⟩, ⟨(belN HB.out)⟩⟩
           case rest =>
            clear HC14
            try clear c1
            try clear p2
            try clear c4
            try clear c4b0
            try clear c4b1
            try clear c5
            try clear c5b0
            try clear c5b1
            try clear c6
            try clear p6
            try clear c7
            try clear c7b0
            try clear c8
            try clear c8b0
            try clear c8b1
            try clear c9
            try clear c9b0
            try clear c9b1
            try clear c11
            try clear c11b0
            try clear c11b1
            try clear c12
            try clear c12b0
            try clear c12b1
            try clear c17
            try clear c18
            try clear c18b0
            try clear c18b1
            try clear c19
            try clear c19b0
            try clear c19b1
            try clear p2
            obtain ⟨kq, x70_13, rfl, HA, HJ13, HO_6, HB⟩ := hcut
            cases kq with
            | zero => exact absurd HA.out (by simp [marigraphref15_Parse.j2])
            | succ kj13 =>
             have H := HA.out
             clear HA
             simp only [marigraphref15_Parse.j2] at H
             by_cases c20 : x70_13 = true
             ·subst c20
              have H1 : (some (([] : List (S26)), false)) = some (r1, r2) := by rw [if_pos rfl] at H; exact H
              clear H
              have H := H1
              clear H1
              simp only [Option.some.injEq, Prod.mk.injEq] at H
              obtain ⟨rfl, rfl⟩ := H
              go_wp2
              go_ret2
              exact ⟨_, by first | rfl | (simp [errW_none, errW_some] <;> rfl) | (simp [*, errW_none, errW_some] <;> rfl), by first | exact Kd.R_nil _ _ _ _ _ | exact Kd.N_nil _ _ _ _ _ | exact Kd.V_nil _ _ _ _ _ | exact Kd.Q_nil _ _ _ _ _ | exact Kd.S_nil _ _ _ _ _, (belN HB.out)⟩
             ·replace c20 := Bool.eq_false_iff.mpr c20
              subst c20
              have H1 : (if 0 ≤ (IntKind.u64.wrap (wrap64 ((wrap64 (8 * (wrap64 ((wrap64 (Int.tmod t255 16)) + 1)))) - 1))) then (if (shr .u64 t258 (IntKind.u64.wrap (wrap64 ((wrap64 (8 * (wrap64 ((wrap64 (Int.tmod t255 16)) + 1)))) - 1)))) = 1 then (if 0 ≤ (IntKind.u64.wrap (wrap64 (8 * (wrap64 ((wrap64 (Int.tmod t255 16)) + 1))))) then ((marigraphref15_May.f (wrap64 (IntKind.u64.wrap (Int.tdiv t255 16))) (wrap64 ((wrap64 (t258)) - (shl .i64 1 (IntKind.u64.wrap (wrap64 (8 * (wrap64 ((wrap64 (Int.tmod t255 16)) + 1))))))))).bind fun t261 => (if t261 = true then (if (x6_2.length : Int) > 0 then (if 0 ≤ (wrap64 ((x6_2.length : Int) - 1)) then (if (wrap64 ((x6_2.length : Int) - 1)) < (x6_2.length : Int) then (if ((rd_T26 x6_2 (wrap64 ((x6_2.length : Int) - 1))).f0) ≥ (wrap64 (IntKind.u64.wrap (Int.tdiv t255 16))) then (some (([] : List (S26)), false)) else (if x6_2.length < 8796093022208 then (marigraphref15_Parse.l0 kj13 l0 l1 (x6_2 ++ [(⟨wrap64 (IntKind.u64.wrap (Int.tdiv t255 16)), wrap64 ((wrap64 (t258)) - (shl .i64 1 (IntKind.u64.wrap (wrap64 (8 * (wrap64 ((wrap64 (Int.tmod t255 16)) + 1)))))))⟩ : S26)]) (wrap64 (x7_2 + (wrap64 ((wrap64 (Int.tmod t255 16)) + 1)))) (wrap64 (x8_2 + 2))) else (none))) else (none)) else (none)) else (if x6_2.length < 8796093022208 then (marigraphref15_Parse.l0 kj13 l0 l1 (x6_2 ++ [(⟨wrap64 (IntKind.u64.wrap (Int.tdiv t255 16)), wrap64 ((wrap64 (t258)) - (shl .i64 1 (IntKind.u64.wrap (wrap64 (8 * (wrap64 ((wrap64 (Int.tmod t255 16)) + 1)))))))⟩ : S26)]) (wrap64 (x7_2 + (wrap64 ((wrap64 (Int.tmod t255 16)) + 1)))) (wrap64 (x8_2 + 2))) else (none))) else (some (([] : List (S26)), false)))) else (none)) else ((marigraphref15_May.f (wrap64 (IntKind.u64.wrap (Int.tdiv t255 16))) (wrap64 (t258))).bind fun t270 => (if t270 = true then (if (x6_2.length : Int) > 0 then (if 0 ≤ (wrap64 ((x6_2.length : Int) - 1)) then (if (wrap64 ((x6_2.length : Int) - 1)) < (x6_2.length : Int) then (if ((rd_T26 x6_2 (wrap64 ((x6_2.length : Int) - 1))).f0) ≥ (wrap64 (IntKind.u64.wrap (Int.tdiv t255 16))) then (some (([] : List (S26)), false)) else (if x6_2.length < 8796093022208 then (marigraphref15_Parse.l0 kj13 l0 l1 (x6_2 ++ [(⟨wrap64 (IntKind.u64.wrap (Int.tdiv t255 16)), wrap64 (t258)⟩ : S26)]) (wrap64 (x7_2 + (wrap64 ((wrap64 (Int.tmod t255 16)) + 1)))) (wrap64 (x8_2 + 2))) else (none))) else (none)) else (none)) else (if x6_2.length < 8796093022208 then (marigraphref15_Parse.l0 kj13 l0 l1 (x6_2 ++ [(⟨wrap64 (IntKind.u64.wrap (Int.tdiv t255 16)), wrap64 (t258)⟩ : S26)]) (wrap64 (x7_2 + (wrap64 ((wrap64 (Int.tmod t255 16)) + 1)))) (wrap64 (x8_2 + 2))) else (none))) else (some (([] : List (S26)), false))))) else (none)) = some (r1, r2) := by rw [if_neg (show ¬ (false = true) by decide)] at H; exact H
              clear H
              have H := H1
              clear H1
              obtain ⟨ji21, hji21⟩ : ∃ j_ : Int, (IntKind.u64.wrap (wrap64 ((wrap64 (8 * (wrap64 ((wrap64 (Int.tmod t255 16)) + 1)))) - 1))) = j_ := ⟨_, rfl⟩
              replace H : (if 0 ≤ (ji21) then (if (shr .u64 t258 (ji21)) = 1 then (if 0 ≤ (IntKind.u64.wrap (wrap64 (8 * (wrap64 ((wrap64 (Int.tmod t255 16)) + 1))))) then ((marigraphref15_May.f (wrap64 (IntKind.u64.wrap (Int.tdiv t255 16))) (wrap64 ((wrap64 (t258)) - (shl .i64 1 (IntKind.u64.wrap (wrap64 (8 * (wrap64 ((wrap64 (Int.tmod t255 16)) + 1))))))))).bind fun t261 => (if t261 = true then (if (x6_2.length : Int) > 0 then (if 0 ≤ (wrap64 ((x6_2.length : Int) - 1)) then (if (wrap64 ((x6_2.length : Int) - 1)) < (x6_2.length : Int) then (if ((rd_T26 x6_2 (wrap64 ((x6_2.length : Int) - 1))).f0) ≥ (wrap64 (IntKind.u64.wrap (Int.tdiv t255 16))) then (some (([] : List (S26)), false)) else (if x6_2.length < 8796093022208 then (marigraphref15_Parse.l0 kj13 l0 l1 (x6_2 ++ [(⟨wrap64 (IntKind.u64.wrap (Int.tdiv t255 16)), wrap64 ((wrap64 (t258)) - (shl .i64 1 (IntKind.u64.wrap (wrap64 (8 * (wrap64 ((wrap64 (Int.tmod t255 16)) + 1)))))))⟩ : S26)]) (wrap64 (x7_2 + (wrap64 ((wrap64 (Int.tmod t255 16)) + 1)))) (wrap64 (x8_2 + 2))) else (none))) else (none)) else (none)) else (if x6_2.length < 8796093022208 then (marigraphref15_Parse.l0 kj13 l0 l1 (x6_2 ++ [(⟨wrap64 (IntKind.u64.wrap (Int.tdiv t255 16)), wrap64 ((wrap64 (t258)) - (shl .i64 1 (IntKind.u64.wrap (wrap64 (8 * (wrap64 ((wrap64 (Int.tmod t255 16)) + 1)))))))⟩ : S26)]) (wrap64 (x7_2 + (wrap64 ((wrap64 (Int.tmod t255 16)) + 1)))) (wrap64 (x8_2 + 2))) else (none))) else (some (([] : List (S26)), false)))) else (none)) else ((marigraphref15_May.f (wrap64 (IntKind.u64.wrap (Int.tdiv t255 16))) (wrap64 (t258))).bind fun t270 => (if t270 = true then (if (x6_2.length : Int) > 0 then (if 0 ≤ (wrap64 ((x6_2.length : Int) - 1)) then (if (wrap64 ((x6_2.length : Int) - 1)) < (x6_2.length : Int) then (if ((rd_T26 x6_2 (wrap64 ((x6_2.length : Int) - 1))).f0) ≥ (wrap64 (IntKind.u64.wrap (Int.tdiv t255 16))) then (some (([] : List (S26)), false)) else (if x6_2.length < 8796093022208 then (marigraphref15_Parse.l0 kj13 l0 l1 (x6_2 ++ [(⟨wrap64 (IntKind.u64.wrap (Int.tdiv t255 16)), wrap64 (t258)⟩ : S26)]) (wrap64 (x7_2 + (wrap64 ((wrap64 (Int.tmod t255 16)) + 1)))) (wrap64 (x8_2 + 2))) else (none))) else (none)) else (none)) else (if x6_2.length < 8796093022208 then (marigraphref15_Parse.l0 kj13 l0 l1 (x6_2 ++ [(⟨wrap64 (IntKind.u64.wrap (Int.tdiv t255 16)), wrap64 (t258)⟩ : S26)]) (wrap64 (x7_2 + (wrap64 ((wrap64 (Int.tmod t255 16)) + 1)))) (wrap64 (x8_2 + 2))) else (none))) else (some (([] : List (S26)), false))))) else (none)) = some (r1, r2) := by first | (rw [hji21] at H; exact H) | (simp only [hji21] at H ⊢; exact H)
              by_cases c22 : 0 ≤ (ji21)
              ·rw [if_pos c22] at H
               have c22b0 := eq_true c22
               have c22b1 : decide (0 ≤ (ji21)) = true := decide_eq_true c22
               clear c22
               obtain ⟨ji23, hji23⟩ : ∃ j_ : Int, (shr .u64 t258 (ji21)) = j_ := ⟨_, rfl⟩
               replace H : (if (ji23) = 1 then (if 0 ≤ (IntKind.u64.wrap (wrap64 (8 * (wrap64 ((wrap64 (Int.tmod t255 16)) + 1))))) then ((marigraphref15_May.f (wrap64 (IntKind.u64.wrap (Int.tdiv t255 16))) (wrap64 ((wrap64 (t258)) - (shl .i64 1 (IntKind.u64.wrap (wrap64 (8 * (wrap64 ((wrap64 (Int.tmod t255 16)) + 1))))))))).bind fun t261 => (if t261 = true then (if (x6_2.length : Int) > 0 then (if 0 ≤ (wrap64 ((x6_2.length : Int) - 1)) then (if (wrap64 ((x6_2.length : Int) - 1)) < (x6_2.length : Int) then (if ((rd_T26 x6_2 (wrap64 ((x6_2.length : Int) - 1))).f0) ≥ (wrap64 (IntKind.u64.wrap (Int.tdiv t255 16))) then (some (([] : List (S26)), false)) else (if x6_2.length < 8796093022208 then (marigraphref15_Parse.l0 kj13 l0 l1 (x6_2 ++ [(⟨wrap64 (IntKind.u64.wrap (Int.tdiv t255 16)), wrap64 ((wrap64 (t258)) - (shl .i64 1 (IntKind.u64.wrap (wrap64 (8 * (wrap64 ((wrap64 (Int.tmod t255 16)) + 1)))))))⟩ : S26)]) (wrap64 (x7_2 + (wrap64 ((wrap64 (Int.tmod t255 16)) + 1)))) (wrap64 (x8_2 + 2))) else (none))) else (none)) else (none)) else (if x6_2.length < 8796093022208 then (marigraphref15_Parse.l0 kj13 l0 l1 (x6_2 ++ [(⟨wrap64 (IntKind.u64.wrap (Int.tdiv t255 16)), wrap64 ((wrap64 (t258)) - (shl .i64 1 (IntKind.u64.wrap (wrap64 (8 * (wrap64 ((wrap64 (Int.tmod t255 16)) + 1)))))))⟩ : S26)]) (wrap64 (x7_2 + (wrap64 ((wrap64 (Int.tmod t255 16)) + 1)))) (wrap64 (x8_2 + 2))) else (none))) else (some (([] : List (S26)), false)))) else (none)) else ((marigraphref15_May.f (wrap64 (IntKind.u64.wrap (Int.tdiv t255 16))) (wrap64 (t258))).bind fun t270 => (if t270 = true then (if (x6_2.length : Int) > 0 then (if 0 ≤ (wrap64 ((x6_2.length : Int) - 1)) then (if (wrap64 ((x6_2.length : Int) - 1)) < (x6_2.length : Int) then (if ((rd_T26 x6_2 (wrap64 ((x6_2.length : Int) - 1))).f0) ≥ (wrap64 (IntKind.u64.wrap (Int.tdiv t255 16))) then (some (([] : List (S26)), false)) else (if x6_2.length < 8796093022208 then (marigraphref15_Parse.l0 kj13 l0 l1 (x6_2 ++ [(⟨wrap64 (IntKind.u64.wrap (Int.tdiv t255 16)), wrap64 (t258)⟩ : S26)]) (wrap64 (x7_2 + (wrap64 ((wrap64 (Int.tmod t255 16)) + 1)))) (wrap64 (x8_2 + 2))) else (none))) else (none)) else (none)) else (if x6_2.length < 8796093022208 then (marigraphref15_Parse.l0 kj13 l0 l1 (x6_2 ++ [(⟨wrap64 (IntKind.u64.wrap (Int.tdiv t255 16)), wrap64 (t258)⟩ : S26)]) (wrap64 (x7_2 + (wrap64 ((wrap64 (Int.tmod t255 16)) + 1)))) (wrap64 (x8_2 + 2))) else (none))) else (some (([] : List (S26)), false))))) = some (r1, r2) := by first | (rw [hji23] at H; exact H) | (simp only [hji23] at H ⊢; exact H)
               have hji23_ : (t258 / 2 ^ min (ji21).toNat 64) = ji23 := hji23
               have hji23z : (ji21) ≤ 64 → (t258 / 2 ^ (ji21).toNat) = ji23 := shr_small hji23
               by_cases c24 : (ji23) = 1
               ·rw [if_pos c24] at H
                have c24b0 : ((ji23) == 1) = true := beq_iff_eq.mpr c24
                have c24b1 : ((ji23) != 1) = false := bne_eq_false_iff_eq.mpr c24
                clear c24
                obtain ⟨ji25, hji25⟩ : ∃ j_ : Int, (IntKind.u64.wrap (wrap64 (8 * (wrap64 ((wrap64 (Int.tmod t255 16)) + 1))))) = j_ := ⟨_, rfl⟩
                replace H : (if 0 ≤ (ji25) then ((marigraphref15_May.f (wrap64 (IntKind.u64.wrap (Int.tdiv t255 16))) (wrap64 ((wrap64 (t258)) - (shl .i64 1 (ji25))))).bind fun t261 => (if t261 = true then (if (x6_2.length : Int) > 0 then (if 0 ≤ (wrap64 ((x6_2.length : Int) - 1)) then (if (wrap64 ((x6_2.length : Int) - 1)) < (x6_2.length : Int) then (if ((rd_T26 x6_2 (wrap64 ((x6_2.length : Int) - 1))).f0) ≥ (wrap64 (IntKind.u64.wrap (Int.tdiv t255 16))) then (some (([] : List (S26)), false)) else (if x6_2.length < 8796093022208 then (marigraphref15_Parse.l0 kj13 l0 l1 (x6_2 ++ [(⟨wrap64 (IntKind.u64.wrap (Int.tdiv t255 16)), wrap64 ((wrap64 (t258)) - (shl .i64 1 (ji25)))⟩ : S26)]) (wrap64 (x7_2 + (wrap64 ((wrap64 (Int.tmod t255 16)) + 1)))) (wrap64 (x8_2 + 2))) else (none))) else (none)) else (none)) else (if x6_2.length < 8796093022208 then (marigraphref15_Parse.l0 kj13 l0 l1 (x6_2 ++ [(⟨wrap64 (IntKind.u64.wrap (Int.tdiv t255 16)), wrap64 ((wrap64 (t258)) - (shl .i64 1 (ji25)))⟩ : S26)]) (wrap64 (x7_2 + (wrap64 ((wrap64 (Int.tmod t255 16)) + 1)))) (wrap64 (x8_2 + 2))) else (none))) else (some (([] : List (S26)), false)))) else (none)) = some (r1, r2) := by first | (rw [hji25] at H; exact H) | (simp only [hji25] at H ⊢; exact H)
                by_cases c26 : 0 ≤ (ji25)
                ·rw [if_pos c26] at H
                 have c26b0 := eq_true c26
                 have c26b1 : decide (0 ≤ (ji25)) = true := decide_eq_true c26
                 clear c26
                 obtain ⟨ji27, hji27⟩ : ∃ j_ : Int, (shl .i64 1 (ji25)) = j_ := ⟨_, rfl⟩
                 replace H : ((marigraphref15_May.f (wrap64 (IntKind.u64.wrap (Int.tdiv t255 16))) (wrap64 ((wrap64 (t258)) - (ji27)))).bind fun t261 => (if t261 = true then (if (x6_2.length : Int) > 0 then (if 0 ≤ (wrap64 ((x6_2.length : Int) - 1)) then (if (wrap64 ((x6_2.length : Int) - 1)) < (x6_2.length : Int) then (if ((rd_T26 x6_2 (wrap64 ((x6_2.length : Int) - 1))).f0) ≥ (wrap64 (IntKind.u64.wrap (Int.tdiv t255 16))) then (some (([] : List (S26)), false)) else (if x6_2.length < 8796093022208 then (marigraphref15_Parse.l0 kj13 l0 l1 (x6_2 ++ [(⟨wrap64 (IntKind.u64.wrap (Int.tdiv t255 16)), wrap64 ((wrap64 (t258)) - (ji27))⟩ : S26)]) (wrap64 (x7_2 + (wrap64 ((wrap64 (Int.tmod t255 16)) + 1)))) (wrap64 (x8_2 + 2))) else (none))) else (none)) else (none)) else (if x6_2.length < 8796093022208 then (marigraphref15_Parse.l0 kj13 l0 l1 (x6_2 ++ [(⟨wrap64 (IntKind.u64.wrap (Int.tdiv t255 16)), wrap64 ((wrap64 (t258)) - (ji27))⟩ : S26)]) (wrap64 (x7_2 + (wrap64 ((wrap64 (Int.tmod t255 16)) + 1)))) (wrap64 (x8_2 + 2))) else (none))) else (some (([] : List (S26)), false)))) = some (r1, r2) := by first | (rw [hji27] at H; exact H) | (simp only [hji27] at H ⊢; exact H)
                 have hji27_ : (IntKind.i64.wrap (1 * 2 ^ min (ji25).toNat 64)) = ji27 := hji27
                 have hji27z : (ji25) ≤ 64 → (IntKind.i64.wrap (1 * 2 ^ (ji25).toNat)) = ji27 := shl_small hji27
                 have hji27u : (IntKind.i64.wrap (2 ^ min (ji25).toNat 64)) = ji27 := by have h_ := hji27_; rw [Int.one_mul] at h_; exact h_
                 have hji27v : (ji25) ≤ 64 → (IntKind.i64.wrap (2 ^ (ji25).toNat)) = ji27 := fun hle_ => by have h_ := hji27z hle_; rw [Int.one_mul] at h_; exact h_
                 have hji27y : (wrap64 (1 * 2 ^ min (ji25).toNat 64)) = ji27 := (i64_w _).symm.trans hji27_
                 have hji27x : (ji25) ≤ 64 → (wrap64 (1 * 2 ^ (ji25).toNat)) = ji27 := fun h_ => (i64_w _).symm.trans (hji27z h_)
                 replace H := Option.bind_eq_some_iff.mp H
                 obtain ⟨t261, A280, H⟩ := H
                 replace H : (if t261 = true then (if (x6_2.length : Int) > 0 then (if 0 ≤ (wrap64 ((x6_2.length : Int) - 1)) then (if (wrap64 ((x6_2.length : Int) - 1)) < (x6_2.length : Int) then (if ((rd_T26 x6_2 (wrap64 ((x6_2.length : Int) - 1))).f0) ≥ (wrap64 (IntKind.u64.wrap (Int.tdiv t255 16))) then (some (([] : List (S26)), false)) else (if x6_2.length < 8796093022208 then (marigraphref15_Parse.l0 kj13 l0 l1 (x6_2 ++ [(⟨wrap64 (IntKind.u64.wrap (Int.tdiv t255 16)), wrap64 ((wrap64 (t258)) - (ji27))⟩ : S26)]) (wrap64 (x7_2 + (wrap64 ((wrap64 (Int.tmod t255 16)) + 1)))) (wrap64 (x8_2 + 2))) else (none))) else (none)) else (none)) else (if x6_2.length < 8796093022208 then (marigraphref15_Parse.l0 kj13 l0 l1 (x6_2 ++ [(⟨wrap64 (IntKind.u64.wrap (Int.tdiv t255 16)), wrap64 ((wrap64 (t258)) - (ji27))⟩ : S26)]) (wrap64 (x7_2 + (wrap64 ((wrap64 (Int.tmod t255 16)) + 1)))) (wrap64 (x8_2 + 2))) else (none))) else (some (([] : List (S26)), false))) = some (r1, r2) := H
                 have A28 := Aside0.mk A280
                 clear A280
                 by_cases c29 : t261 = true
                 ·subst c29
                  have H1 : (if (x6_2.length : Int) > 0 then (if 0 ≤ (wrap64 ((x6_2.length : Int) - 1)) then (if (wrap64 ((x6_2.length : Int) - 1)) < (x6_2.length : Int) then (if ((rd_T26 x6_2 (wrap64 ((x6_2.length : Int) - 1))).f0) ≥ (wrap64 (IntKind.u64.wrap (Int.tdiv t255 16))) then (some (([] : List (S26)), false)) else (if x6_2.length < 8796093022208 then (marigraphref15_Parse.l0 kj13 l0 l1 (x6_2 ++ [(⟨wrap64 (IntKind.u64.wrap (Int.tdiv t255 16)), wrap64 ((wrap64 (t258)) - (ji27))⟩ : S26)]) (wrap64 (x7_2 + (wrap64 ((wrap64 (Int.tmod t255 16)) + 1)))) (wrap64 (x8_2 + 2))) else (none))) else (none)) else (none)) else (if x6_2.length < 8796093022208 then (marigraphref15_Parse.l0 kj13 l0 l1 (x6_2 ++ [(⟨wrap64 (IntKind.u64.wrap (Int.tdiv t255 16)), wrap64 ((wrap64 (t258)) - (ji27))⟩ : S26)]) (wrap64 (x7_2 + (wrap64 ((wrap64 (Int.tmod t255 16)) + 1)))) (wrap64 (x8_2 + 2))) else (none))) = some (r1, r2) := by rw [if_pos rfl] at H; exact H
                  clear H
                  have H := H1
                  clear H1
                  by_cases c30 : (x6_2.length : Int) > 0
                  ·rw [if_pos c30] at H
                   have c30b0 : decide (0 < (x6_2.length : Int)) = true := decide_eq_true c30
                   have c30b1 : decide (0 < x6_2.length) = true := decide_eq_true (by omega)
                   clear c30
                   obtain ⟨ji31, hji31⟩ : ∃ j_ : Int, (wrap64 ((x6_2.length : Int) - 1)) = j_ := ⟨_, rfl⟩
                   replace H : (if 0 ≤ (ji31) then (if (ji31) < (x6_2.length : Int) then (if ((rd_T26 x6_2 (ji31)).f0) ≥ (wrap64 (IntKind.u64.wrap (Int.tdiv t255 16))) then (some (([] : List (S26)), false)) else (if x6_2.length < 8796093022208 then (marigraphref15_Parse.l0 kj13 l0 l1 (x6_2 ++ [(⟨wrap64 (IntKind.u64.wrap (Int.tdiv t255 16)), wrap64 ((wrap64 (t258)) - (ji27))⟩ : S26)]) (wrap64 (x7_2 + (wrap64 ((wrap64 (Int.tmod t255 16)) + 1)))) (wrap64 (x8_2 + 2))) else (none))) else (none)) else (none)) = some (r1, r2) := by first | (rw [hji31] at H; exact H) | (simp only [hji31] at H ⊢; exact H)
                   (try rw [hji31] at A28)
                   have hji31w : (IntKind.i64.wrap ((x6_2.length : Int) - 1)) = ji31 := (i64_w _).trans hji31
                   by_cases c32 : 0 ≤ (ji31)
                   ·rw [if_pos c32] at H
                    have c32b0 : decide (0 ≤ (ji31)) = true := decide_eq_true c32
                    clear c32
                    by_cases c33 : (ji31) < (x6_2.length : Int)
                    ·rw [if_pos c33] at H
                     have c33b0 : decide ((ji31) < (x6_2.length : Int)) = true := decide_eq_true c33
                     clear c33
                     by_cases c34 : ((rd_T26 x6_2 (ji31)).f0) ≥ (wrap64 (IntKind.u64.wrap (Int.tdiv t255 16)))
                     ·rw [if_pos c34] at H
                      have c34b0 : decide ((wrap64 (IntKind.u64.wrap (Int.tdiv t255 16))) ≤ ((rd_T26 x6_2 (ji31)).f0)) = true := decide_eq_true c34
                      clear c34
                      simp only [Option.some.injEq, Prod.mk.injEq] at H
                      obtain ⟨rfl, rfl⟩ := H
                      try go_wp2_with (first | ((with_reducible refine gate_dst (N := 15) rfl ?_); (try (refine gate_guard (by rfl) ?_; dsimp only)); refine box_event ?hg (N := 15) ?hd (cs := #[.int .i64 0, .int .i64 0]) (t := 26) ?hr ?_; (case hd => rfl); (case hg => rfl); (case hr => first | (go_simp; done) | (go_simp; rfl)); intro gb260 hg w35 hbox hb; have n0_ := Aside0.mk (Kd.R_below (Kd.R_elderB (rowN HO_6.out) gb260 (Nat.le_of_eq hg.symm)) hb); have n1_ := Aside0.mk (below_step (belN HB.out) hb); have n2_ := Aside0.mk (hbox); have n3_ := Aside0.mk (szB hg HB.out); have n4_ := Aside0.mk (szB hg HB.out); clear HO_6; clear HB; have HO_6 := n0_; have HB := n1_; have BK260 := n2_; have GW260 := n3_; have GE260 := n4_; clear n0_ n1_ n2_ n3_ n4_; clear hb hbox hg; have hcz36_0 : w35.cell? ⟨gb260, 0, none⟩ = some (.int .i64 0) := (blk_cell BK260.out 0).trans rfl; have hcz36_1 : w35.cell? ⟨gb260, 1, none⟩ = some (.int .i64 0) := (blk_cell BK260.out 1).trans rfl; have hfz36_0 := blk_frozen BK260.out 0; have hfz36_1 := blk_frozen BK260.out 1))
                      have n0_ : Aside0 (Kd.R k26 26 ((w35.setCell ⟨gb260, 0, none⟩ (.int .i64 (wrap64 (IntKind.u64.wrap (Int.tdiv t255 16))))).setCell ⟨gb260, 1, none⟩ (.int .i64 (wrap64 ((wrap64 (t258)) - (ji27))))) w.heap.size (fun k_ => k_ ≠ gb260) u6 x6_2) := ⟨by (with_reducible repeat (first | apply Kd.R_alloc | apply Kd.R_drewN | apply Kd.R_drew)); exact Kd.R_mono (Kd.R_far (p := ⟨gb260, 1, none⟩) (Kd.R_far (p := ⟨gb260, 0, none⟩) (Kd.R_mono HO_6.out (fun k_ hk => (⟨hk, hk.2⟩ : _ ∧ k_ ≠ gb260))) (fun _ hk => hk.2) (.int .i64 (wrap64 (IntKind.u64.wrap (Int.tdiv t255 16))))) (fun _ hk => hk.2) (.int .i64 (wrap64 ((wrap64 (t258)) - (ji27))))) (fun _ hk => hk.1.2)⟩
                      have n1_ : Aside0 (((w35.setCell ⟨gb260, 0, none⟩ (.int .i64 (wrap64 (IntKind.u64.wrap (Int.tdiv t255 16))))).setCell ⟨gb260, 1, none⟩ (.int .i64 (wrap64 ((wrap64 (t258)) - (ji27))))).heap[gb260]? = some (.cells #[.int .i64 (wrap64 (IntKind.u64.wrap (Int.tdiv t255 16))), .int .i64 (wrap64 ((wrap64 (t258)) - (ji27)))] 26 (0, 0))) := ⟨by (with_reducible repeat (first | refine blk_drewN ?_ _ | refine blk_drew ?_ | refine blk_alloc ?_ _)); refine blk_put (cs := #[.int .i64 (wrap64 (IntKind.u64.wrap (Int.tdiv t255 16))), .int .i64 0]) ?_ 1 _ rfl; (with_reducible repeat (first | refine blk_drewN ?_ _ | refine blk_drew ?_ | refine blk_alloc ?_ _)); refine blk_put (cs := #[.int .i64 0, .int .i64 0]) ?_ 0 _ rfl; (with_reducible repeat (first | refine blk_drewN ?_ _ | refine blk_drew ?_ | refine blk_alloc ?_ _)); exact BK260.out⟩
                      have n2_ : Aside0 (Below w.heap.size w ((w35.setCell ⟨gb260, 0, none⟩ (.int .i64 (wrap64 (IntKind.u64.wrap (Int.tdiv t255 16))))).setCell ⟨gb260, 1, none⟩ (.int .i64 (wrap64 ((wrap64 (t258)) - (ji27)))))) := ⟨(belS HB.out)⟩
                      (try clear HO_6)
                      (try clear BK260)
                      (try clear HB)
                      generalize ((w35.setCell ⟨gb260, 0, none⟩ (.int .i64 (wrap64 (IntKind.u64.wrap (Int.tdiv t255 16))))).setCell ⟨gb260, 1, none⟩ (.int .i64 (wrap64 ((wrap64 (t258)) - (ji27))))) = w37 at n0_ n1_ n2_ ⊢
                      have HO_6 := n0_
                      have BK260 := n1_
                      have HB := n2_
                      clear n0_ n1_ n2_
                      have n0_ := Aside0.mk (Kd.R_drew HO_6.out)
                      have n1_ := Aside0.mk (blk_drew BK260.out)
                      have n2_ := Aside0.mk (below_drew1 HB.out)
                      clear HO_6
                      clear BK260
                      clear HB
                      have HO_6 := n0_
                      have BK260 := n1_
                      have HB := n2_
                      clear n0_ n1_ n2_
                      obtain ⟨Ao40, co40, eo40⟩ := Kd.R_slice HO_6.out
                      (first | subst eo40 | (injection eo40 with f1_ f2_ f3_; have f4_ := f1_.symm; have f5_ := f3_.symm; clear f1_ f2_ f3_; subst f4_; subst f5_))
                      have p262 : 0 ≤ ((ji31) : Int) := of_decide_eq_true (by first | (with_reducible assumption) | assumption)
                      have q262 : (ji31) < (x6_2.length : Int) := of_decide_eq_true (by first | (with_reducible assumption) | assumption)
                      obtain ⟨ad262, e262, hx262_0, hx262_1⟩ := at_T26 (Kd.R_reads' HO_6.out).2.2 (ji31) p262 q262
                      cases e262
                      replace p262 := eq_true p262
                      replace q262 := eq_true q262
                      refine start_ (n := 20) (S := fun w' => w'.cell? ⟨gb260, 0, none⟩ = some (.int .i64 (wrap64 (IntKind.u64.wrap (Int.tdiv t255 16)))) ∧ w'.cell? ⟨gb260, 1, none⟩ = some (.int .i64 (wrap64 ((wrap64 (t258)) - (ji27)))) ∧ w'.cell? (ad262.add (((ji31)).toNat * 2)) = some (.int .i64 ((rd_T26 x6_2 (ji31)).f0)) ∧ w'.cell? ⟨(ad262.add (((ji31)).toNat * 2)).block, (ad262.add (((ji31)).toNat * 2)).off + 1, none⟩ = some (.int .i64 ((rd_T26 x6_2 (ji31)).f1))) (ds := []) #[false, false, false, false, false, false, false, false, false, false, false, false, false, false, false, false, false, false, false, false] (by kernel_rfl) rfl rfl ⟨(blk_cell BK260.out 0).trans rfl, (blk_cell BK260.out 1).trans rfl, hx262_0, hx262_1⟩ (fun hHeld => ?_); refine with_tabW marigraphref15_Parse.tab17 marigraphref15_Parse.bits17 (fun HT_ HW_ => ?_)
                      generalize w37.drew = w38 at HO_6 BK260 HB hx262_0 hx262_1 hHeld ⊢
                      refine take_ (i := 0) (N := some 91) (v := ?_) (a' := ?_) (bA 20 1) rfl rfl (take_ofW HT_.out HW_.out (by kernel_rfl)) (fun _ _ _ h => h) (Or.inl ⟨by rfl, ?_⟩) hHeld ?_ ?_
                      rotate_left
                      ·rintro w' ⟨s0, s1, s2, s3⟩
                       go_simp
                       with_reducible rfl
                      rotate_left
                      ·simp only [Act.put, List.setIfInBounds_toArray, List.set_cons_zero, List.set_cons_succ, i64_w, i32_w]
                       rfl
                      refine one_ (i := 1) (N := some 92) (bA 20 3) rfl rfl (one_of HT_.out (by kernel_rfl)) (by decide) (fun K hK => ?_)
                      refine goes_ Try.func56 (by kernel_rfl) rfl #[.agg #[.int .i64 (wrap64 (IntKind.u64.wrap (Int.tdiv t255 16))), .int .i64 (wrap64 ((wrap64 (t258)) - (ji27)))]] (by rfl) rfl rfl (by (try simp only [List.map_toArray, List.map_cons, List.map_nil]); first | done | (simp only [hji27]; rfl) | rfl | (simp only [List.length_drop, List.length_take]; rfl)) ?_
                      with_reducible refine (marigraphref15_May.calls (wrap64 (IntKind.u64.wrap (Int.tdiv t255 16))) (wrap64 ((wrap64 (t258)) - (ji27))) true _ A28.out).mono ?_
                      rintro e w39 ⟨rfl, hb⟩
                      have HS2_ := (hb.cell (World.block_lt_of_cell? _ _ (hHeld.2.2.1))).trans (hHeld.2.2.1)
                      have HS3_ := (hb.cell (World.block_lt_of_cell? _ _ (hHeld.2.2.2))).trans (hHeld.2.2.2)
                      refine ⟨_, rfl, ?_⟩
                      have n0_ := Aside0.mk (Kd.R_below (rowN HO_6.out) hb)
                      have n1_ := Aside0.mk (bkB BK260.out hb)
                      have n2_ := Aside0.mk (below_step (belS HB.out) hb)
                      clear HO_6
                      clear BK260
                      clear HB
                      have HO_6 := n0_
                      have BK260 := n1_
                      have HB := n2_
                      clear n0_ n1_ n2_
                      (try clear hb)
                      (try clear hb2)
                      (try clear hk)
                      (try clear hi)
                      refine hK.out _ _ ⟨(blk_cell BK260.out 0).trans rfl, (blk_cell BK260.out 1).trans rfl, HS2_, HS3_⟩ (fun hHeld => ?_)
                      clear hK K
                      refine norm_ (a' := ?_) ?_ ?_
                      rotate_left
                      ·show Act.put _ (some 92) _ = _
                       simp only [Act.put, List.setIfInBounds_toArray, List.set_cons_zero, List.set_cons_succ, i64_w, i32_w]
                       rfl
                      refine pure_ (i := 2) (N := some 93) (v := ?_) (a' := ?_) (bA 20 7) rfl rfl (any_of HT_.out (by kernel_rfl)) (fun _ _ _ h => h) (Or.inl ⟨by rfl, ?_⟩) ?_ ?_
                      rotate_left
                      ·intro w'
                       go_simp
                       with_reducible rfl
                      rotate_left
                      ·simp only [Act.put, List.setIfInBounds_toArray, List.set_cons_zero, List.set_cons_succ, i64_w, i32_w]
                       rfl
                      refine pure_ (i := 3) (N := some 94) (v := ?_) (a' := ?_) (bA 20 15) rfl rfl (any_of HT_.out (by kernel_rfl)) (fun _ _ _ h => h) (Or.inl ⟨by rfl, ?_⟩) ?_ ?_
                      rotate_left
                      ·intro w'
                       go_simp
                       with_reducible rfl
                      rotate_left
                      ·simp only [Act.put, List.setIfInBounds_toArray, List.set_cons_zero, List.set_cons_succ, i64_w, i32_w]
                       rfl
                      refine pure_ (i := 4) (N := some 95) (v := ?_) (a' := ?_) (bA 20 31) rfl rfl (any_of HT_.out (by kernel_rfl)) (fun _ _ _ h => h) (Or.inl ⟨by rfl, ?_⟩) ?_ ?_
                      rotate_left
                      ·intro w'
                       go_simp
                       with_reducible rfl
                      rotate_left
                      ·simp only [Act.put, List.setIfInBounds_toArray, List.set_cons_zero, List.set_cons_succ, i64_w, i32_w]
                       rfl
                      refine pure_ (i := 5) (N := some 96) (v := ?_) (a' := ?_) (bA 20 63) rfl rfl (any_of HT_.out (by kernel_rfl)) (fun _ _ _ h => h) (Or.inl ⟨by rfl, ?_⟩) ?_ ?_
                      rotate_left
                      ·intro w'
                       go_simp
                       with_reducible rfl
                      rotate_left
                      ·simp only [Act.put, List.setIfInBounds_toArray, List.set_cons_zero, List.set_cons_succ, i64_w, i32_w]
                       rfl
                      refine pure_ (i := 6) (N := some 97) (v := ?_) (a' := ?_) (bA 20 127) rfl rfl (any_of HT_.out (by kernel_rfl)) (fun _ _ _ h => h) (Or.inl ⟨by rfl, ?_⟩) ?_ ?_
                      rotate_left
                      ·intro w'
                       go_simp
                       with_reducible rfl
                      rotate_left
                      ·simp only [Act.put, List.setIfInBounds_toArray, List.set_cons_zero, List.set_cons_succ, i64_w, i32_w]
                       rfl
                      refine pure_ (i := 7) (N := some 98) (v := ?_) (a' := ?_) (bA 20 255) rfl rfl (any_of HT_.out (by kernel_rfl)) (fun _ _ _ h => h) (Or.inl ⟨by rfl, ?_⟩) ?_ ?_
                      rotate_left
                      ·intro w'
                       go_simp
                       with_reducible rfl
                      rotate_left
                      ·simp only [Act.put, List.setIfInBounds_toArray, List.set_cons_zero, List.set_cons_succ, i64_w, i32_w]
                       rfl
                      refine pure_ (i := 8) (N := some 99) (v := ?_) (a' := ?_) (bA 20 511) rfl rfl (any_of HT_.out (by kernel_rfl)) (fun _ _ _ h => h) (Or.inl ⟨by rfl, ?_⟩) ?_ ?_
                      rotate_left
                      ·intro w'
                       go_simp
                       with_reducible rfl
                      rotate_left
                      ·simp only [Act.put, List.setIfInBounds_toArray, List.set_cons_zero, List.set_cons_succ, i64_w, i32_w]
                       rfl
                      refine pure_ (i := 9) (N := some 100) (v := ?_) (a' := ?_) (bA 20 1023) rfl rfl (any_of HT_.out (by kernel_rfl)) (fun _ _ _ h => h) (Or.inl ⟨by rfl, ?_⟩) ?_ ?_
                      rotate_left
                      ·intro w'
                       go_simp
                       with_reducible rfl
                      rotate_left
                      ·simp only [Act.put, List.setIfInBounds_toArray, List.set_cons_zero, List.set_cons_succ, i64_w, i32_w]
                       rfl
                      refine pure_ (i := 10) (N := some 101) (v := ?_) (a' := ?_) (bA 20 2047) rfl rfl (any_of HT_.out (by kernel_rfl)) (fun _ _ _ h => h) (Or.inl ⟨by rfl, ?_⟩) ?_ ?_
                      rotate_left
                      ·intro w'
                       go_simp
                       with_reducible rfl
                      rotate_left
                      ·simp only [Act.put, List.setIfInBounds_toArray, List.set_cons_zero, List.set_cons_succ, i64_w, i32_w]
                       rfl
                      refine pure_ (i := 11) (N := some 102) (v := ?_) (a' := ?_) (bA 20 4095) rfl rfl (any_of HT_.out (by kernel_rfl)) (fun _ _ _ h => h) (Or.inl ⟨by rfl, ?_⟩) ?_ ?_
                      rotate_left
                      ·intro w'
                       go_simp
                       with_reducible rfl
                      rotate_left
                      ·simp only [Act.put, List.setIfInBounds_toArray, List.set_cons_zero, List.set_cons_succ, i64_w, i32_w]
                       rfl
                      refine pure_ (i := 12) (N := some 103) (v := ?_) (a' := ?_) (bA 20 8191) rfl rfl (any_of HT_.out (by kernel_rfl)) (fun _ _ _ h => h) (Or.inl ⟨by rfl, ?_⟩) ?_ ?_
                      rotate_left
                      ·intro w'
                       go_simp
                       with_reducible rfl
                      rotate_left
                      ·simp only [Act.put, List.setIfInBounds_toArray, List.set_cons_zero, List.set_cons_succ, i64_w, i32_w]
                       rfl
                      refine pure_ (i := 13) (N := some 104) (v := ?_) (a' := ?_) (bA 20 16383) rfl rfl (any_of HT_.out (by kernel_rfl)) (fun _ _ _ h => h) (Or.inl ⟨by rfl, ?_⟩) ?_ ?_
                      rotate_left
                      ·intro w'
                       go_simp
                       with_reducible rfl
                      rotate_left
                      ·simp only [Act.put, List.setIfInBounds_toArray, List.set_cons_zero, List.set_cons_succ, i64_w, i32_w]
                       rfl
                      refine pure_ (i := 15) (N := some 106) (v := ?_) (a' := ?_) (bA 20 49151) rfl rfl (any_of HT_.out (by kernel_rfl)) (fun _ _ _ h => h) (Or.inl ⟨by rfl, ?_⟩) ?_ ?_
                      rotate_left
                      ·intro w'
                       go_simp
                       with_reducible rfl
                      rotate_left
                      ·simp only [Act.put, List.setIfInBounds_toArray, List.set_cons_zero, List.set_cons_succ, i64_w, i32_w]
                       rfl
                      refine take_ (i := 14) (N := some 105) (v := ?_) (a' := ?_) (bA 20 65535) rfl rfl (take_ofW HT_.out HW_.out (by kernel_rfl)) (fun _ _ _ h => h) (Or.inl ⟨by rfl, ?_⟩) hHeld ?_ ?_
                      rotate_left
                      ·rintro w' ⟨s0, s1, s2, s3⟩
                       go_simp
                       with_reducible rfl
                      rotate_left
                      ·simp only [Act.put, List.setIfInBounds_toArray, List.set_cons_zero, List.set_cons_succ, i64_w, i32_w]
                       rfl
                      refine take_ (i := 16) (N := some 107) (v := ?_) (a' := ?_) (bA 20 131071) rfl rfl (take_ofW HT_.out HW_.out (by kernel_rfl)) (fun _ _ _ h => h) (Or.inl ⟨by rfl, ?_⟩) hHeld ?_ ?_
                      rotate_left
                      ·rintro w' ⟨s0, s1, s2, s3⟩
                       go_simp
                       with_reducible rfl
                      rotate_left
                      ·simp only [Act.put, List.setIfInBounds_toArray, List.set_cons_zero, List.set_cons_succ, i64_w, i32_w]
                       rfl
                      refine pure_ (i := 17) (N := some 108) (v := ?_) (a' := ?_) (bA 20 262143) rfl rfl (any_of HT_.out (by kernel_rfl)) (fun _ _ _ h => h) (Or.inl ⟨by rfl, ?_⟩) ?_ ?_
                      rotate_left
                      ·intro w'
                       go_simp
                       with_reducible rfl
                      rotate_left
                      ·simp only [Act.put, List.setIfInBounds_toArray, List.set_cons_zero, List.set_cons_succ, i64_w, i32_w]
                       rfl
                      refine pure_ (i := 18) (N := some 109) (v := ?_) (a' := ?_) (bA 20 524287) rfl rfl (any_of HT_.out (by kernel_rfl)) (fun _ _ _ h => h) (Or.inl ⟨by rfl, ?_⟩) ?_ ?_
                      rotate_left
                      ·intro w'
                       go_simp
                       with_reducible rfl
                      rotate_left
                      ·simp only [Act.put, List.setIfInBounds_toArray, List.set_cons_zero, List.set_cons_succ, i64_w, i32_w]
                       rfl
                      refine pure_ (i := 19) (N := some 110) (v := ?_) (a' := ?_) (bA 20 1048575) rfl rfl (any_of HT_.out (by kernel_rfl)) (fun _ _ _ h => h) (Or.inl ⟨by rfl, ?_⟩) ?_ ?_
                      rotate_left
                      ·intro w'
                       go_simp
                       with_reducible rfl
                      rotate_left
                      ·simp only [Act.put, List.setIfInBounds_toArray, List.set_cons_zero, List.set_cons_succ, i64_w, i32_w]
                       rfl
                      refine done_ (done_of HT_.out (by kernel_rfl)) ?_
                      try go_wp2
                      go_ret2
                      exact ⟨_, by first | rfl | (simp [errW_none, errW_some] <;> rfl) | (simp only [← hji21, ← hji23, ← hji25, ← hji27, ← hji31]; first | rfl | (simp [errW_none, errW_some] <;> rfl)) | (simp [*, errW_none, errW_some] <;> rfl), by first | exact Kd.R_nil _ _ _ _ _ | exact Kd.N_nil _ _ _ _ _ | exact Kd.V_nil _ _ _ _ _ | exact Kd.Q_nil _ _ _ _ _ | exact Kd.S_nil _ _ _ _ _, (belS HB.out)⟩
                     ·rw [if_neg c34] at H
                      have c34b0 : decide ((wrap64 (IntKind.u64.wrap (Int.tdiv t255 16))) ≤ ((rd_T26 x6_2 (ji31)).f0)) = false := decide_eq_false c34
                      clear c34
                      by_cases c41 : x6_2.length < 8796093022208
                      ·rw [if_pos c41] at H
                       have LMc41 := Aside0.mk c41
                       clear c41
                       obtain ⟨y263, hy263⟩ : ∃ y_ : List (S26), y_ = (x6_2 ++ [(⟨wrap64 (IntKind.u64.wrap (Int.tdiv t255 16)), wrap64 ((wrap64 (t258)) - (ji27))⟩ : S26)]) := ⟨_, rfl⟩
                       replace H : (marigraphref15_Parse.l0 kj13 l0 l1 y263 (wrap64 (x7_2 + (wrap64 ((wrap64 (Int.tmod t255 16)) + 1)))) (wrap64 (x8_2 + 2))) = some (r1, r2) := by first | (rw [hy263]; with_reducible exact H) | (have H2_ := (Option.bind_some _ _).symm.trans H; rw [hy263]; with_reducible exact H2_) | (have H2_ := (Option.bind_some _ _).symm.trans H; with_reducible exact H2_) | with_reducible exact H | (rw [hy263]; exact H) | exact H
                       have Ny263 := Aside0.mk hy263
                       clear hy263
                       have H' := Aside0.mk H
                       clear H
                       try go_wp2_with (first | ((with_reducible refine gate_dst (N := 15) rfl ?_); (try (refine gate_guard (by rfl) ?_; dsimp only)); refine box_event ?hg (N := 15) ?hd (cs := #[.int .i64 0, .int .i64 0]) (t := 26) ?hr ?_; (case hd => rfl); (case hg => rfl); (case hr => first | (go_simp; done) | (go_simp; rfl)); intro gb260 hg w42 hbox hb; have n0_ := Aside0.mk (Kd.R_below (Kd.R_elderB (rowN HO_6.out) gb260 (Nat.le_of_eq hg.symm)) hb); have n1_ := Aside0.mk (below_step (belN HB.out) hb); have n2_ := Aside0.mk (hbox); have n3_ := Aside0.mk (szB hg HB.out); have n4_ := Aside0.mk (szB hg HB.out); clear HO_6; clear HB; have HO_6 := n0_; have HB := n1_; have BK260 := n2_; have GW260 := n3_; have GE260 := n4_; clear n0_ n1_ n2_ n3_ n4_; clear hb hbox hg; have hcz43_0 : w42.cell? ⟨gb260, 0, none⟩ = some (.int .i64 0) := (blk_cell BK260.out 0).trans rfl; have hcz43_1 : w42.cell? ⟨gb260, 1, none⟩ = some (.int .i64 0) := (blk_cell BK260.out 1).trans rfl; have hfz43_0 := blk_frozen BK260.out 0; have hfz43_1 := blk_frozen BK260.out 1))
                       have n0_ : Aside0 (Kd.R k26 26 ((w42.setCell ⟨gb260, 0, none⟩ (.int .i64 (wrap64 (IntKind.u64.wrap (Int.tdiv t255 16))))).setCell ⟨gb260, 1, none⟩ (.int .i64 (wrap64 ((wrap64 (t258)) - (ji27))))) w.heap.size (fun k_ => k_ ≠ gb260) u6 x6_2) := ⟨by (with_reducible repeat (first | apply Kd.R_alloc | apply Kd.R_drewN | apply Kd.R_drew)); exact Kd.R_mono (Kd.R_far (p := ⟨gb260, 1, none⟩) (Kd.R_far (p := ⟨gb260, 0, none⟩) (Kd.R_mono HO_6.out (fun k_ hk => (⟨hk, hk.2⟩ : _ ∧ k_ ≠ gb260))) (fun _ hk => hk.2) (.int .i64 (wrap64 (IntKind.u64.wrap (Int.tdiv t255 16))))) (fun _ hk => hk.2) (.int .i64 (wrap64 ((wrap64 (t258)) - (ji27))))) (fun _ hk => hk.1.2)⟩
                       have n1_ : Aside0 (((w42.setCell ⟨gb260, 0, none⟩ (.int .i64 (wrap64 (IntKind.u64.wrap (Int.tdiv t255 16))))).setCell ⟨gb260, 1, none⟩ (.int .i64 (wrap64 ((wrap64 (t258)) - (ji27))))).heap[gb260]? = some (.cells #[.int .i64 (wrap64 (IntKind.u64.wrap (Int.tdiv t255 16))), .int .i64 (wrap64 ((wrap64 (t258)) - (ji27)))] 26 (0, 0))) := ⟨by (with_reducible repeat (first | refine blk_drewN ?_ _ | refine blk_drew ?_ | refine blk_alloc ?_ _)); refine blk_put (cs := #[.int .i64 (wrap64 (IntKind.u64.wrap (Int.tdiv t255 16))), .int .i64 0]) ?_ 1 _ rfl; (with_reducible repeat (first | refine blk_drewN ?_ _ | refine blk_drew ?_ | refine blk_alloc ?_ _)); refine blk_put (cs := #[.int .i64 0, .int .i64 0]) ?_ 0 _ rfl; (with_reducible repeat (first | refine blk_drewN ?_ _ | refine blk_drew ?_ | refine blk_alloc ?_ _)); exact BK260.out⟩
                       have n2_ : Aside0 (Below w.heap.size w ((w42.setCell ⟨gb260, 0, none⟩ (.int .i64 (wrap64 (IntKind.u64.wrap (Int.tdiv t255 16))))).setCell ⟨gb260, 1, none⟩ (.int .i64 (wrap64 ((wrap64 (t258)) - (ji27)))))) := ⟨(belS HB.out)⟩
                       (try clear HO_6)
                       (try clear BK260)
                       (try clear HB)
                       generalize ((w42.setCell ⟨gb260, 0, none⟩ (.int .i64 (wrap64 (IntKind.u64.wrap (Int.tdiv t255 16))))).setCell ⟨gb260, 1, none⟩ (.int .i64 (wrap64 ((wrap64 (t258)) - (ji27))))) = w44 at n0_ n1_ n2_ ⊢
                       have HO_6 := n0_
                       have BK260 := n1_
                       have HB := n2_
                       clear n0_ n1_ n2_
                       have n0_ := Aside0.mk (Kd.R_drew HO_6.out)
                       have n1_ := Aside0.mk (blk_drew BK260.out)
                       have n2_ := Aside0.mk (below_drew1 HB.out)
                       clear HO_6
                       clear BK260
                       clear HB
                       have HO_6 := n0_
                       have BK260 := n1_
                       have HB := n2_
                       clear n0_ n1_ n2_
                       obtain ⟨Ao47, co47, eo47⟩ := Kd.R_slice HO_6.out
                       (first | subst eo47 | (injection eo47 with f1_ f2_ f3_; have f4_ := f1_.symm; have f5_ := f3_.symm; clear f1_ f2_ f3_; subst f4_; subst f5_))
                       have p262 : 0 ≤ ((ji31) : Int) := of_decide_eq_true (by first | (with_reducible assumption) | assumption)
                       have q262 : (ji31) < (x6_2.length : Int) := of_decide_eq_true (by first | (with_reducible assumption) | assumption)
                       obtain ⟨ad262, e262, hx262_0, hx262_1⟩ := at_T26 (Kd.R_reads' HO_6.out).2.2 (ji31) p262 q262
                       cases e262
                       replace p262 := eq_true p262
                       replace q262 := eq_true q262
                       refine start_ (n := 20) (S := fun w' => w'.cell? ⟨gb260, 0, none⟩ = some (.int .i64 (wrap64 (IntKind.u64.wrap (Int.tdiv t255 16)))) ∧ w'.cell? ⟨gb260, 1, none⟩ = some (.int .i64 (wrap64 ((wrap64 (t258)) - (ji27)))) ∧ w'.cell? (ad262.add (((ji31)).toNat * 2)) = some (.int .i64 ((rd_T26 x6_2 (ji31)).f0)) ∧ w'.cell? ⟨(ad262.add (((ji31)).toNat * 2)).block, (ad262.add (((ji31)).toNat * 2)).off + 1, none⟩ = some (.int .i64 ((rd_T26 x6_2 (ji31)).f1))) (ds := []) #[false, false, false, false, false, false, false, false, false, false, false, false, false, false, false, false, false, false, false, false] (by kernel_rfl) rfl rfl ⟨(blk_cell BK260.out 0).trans rfl, (blk_cell BK260.out 1).trans rfl, hx262_0, hx262_1⟩ (fun hHeld => ?_); refine with_tabW marigraphref15_Parse.tab17 marigraphref15_Parse.bits17 (fun HT_ HW_ => ?_)
                       generalize w44.drew = w45 at HO_6 BK260 HB hx262_0 hx262_1 hHeld ⊢
                       refine take_ (i := 0) (N := some 91) (v := ?_) (a' := ?_) (bA 20 1) rfl rfl (take_ofW HT_.out HW_.out (by kernel_rfl)) (fun _ _ _ h => h) (Or.inl ⟨by rfl, ?_⟩) hHeld ?_ ?_
                       rotate_left
                       ·rintro w' ⟨s0, s1, s2, s3⟩
                        go_simp
                        with_reducible rfl
                       rotate_left
                       ·simp only [Act.put, List.setIfInBounds_toArray, List.set_cons_zero, List.set_cons_succ, i64_w, i32_w]
                        rfl
                       refine one_ (i := 1) (N := some 92) (bA 20 3) rfl rfl (one_of HT_.out (by kernel_rfl)) (by decide) (fun K hK => ?_)
                       refine goes_ Try.func56 (by kernel_rfl) rfl #[.agg #[.int .i64 (wrap64 (IntKind.u64.wrap (Int.tdiv t255 16))), .int .i64 (wrap64 ((wrap64 (t258)) - (ji27)))]] (by rfl) rfl rfl (by (try simp only [List.map_toArray, List.map_cons, List.map_nil]); first | done | (simp only [hji27]; rfl) | rfl | (simp only [List.length_drop, List.length_take]; rfl)) ?_
                       with_reducible refine (marigraphref15_May.calls (wrap64 (IntKind.u64.wrap (Int.tdiv t255 16))) (wrap64 ((wrap64 (t258)) - (ji27))) true _ A28.out).mono ?_
                       rintro e w46 ⟨rfl, hb⟩
                       have HS2_ := (hb.cell (World.block_lt_of_cell? _ _ (hHeld.2.2.1))).trans (hHeld.2.2.1)
                       have HS3_ := (hb.cell (World.block_lt_of_cell? _ _ (hHeld.2.2.2))).trans (hHeld.2.2.2)
                       refine ⟨_, rfl, ?_⟩
                       have n0_ := Aside0.mk (Kd.R_below (rowN HO_6.out) hb)
                       have n1_ := Aside0.mk (bkB BK260.out hb)
                       have n2_ := Aside0.mk (below_step (belS HB.out) hb)
                       clear HO_6
                       clear BK260
                       clear HB
                       have HO_6 := n0_
                       have BK260 := n1_
                       have HB := n2_
                       clear n0_ n1_ n2_
                       (try clear hb)
                       (try clear hb2)
                       (try clear hk)
                       (try clear hi)
                       refine hK.out _ _ ⟨(blk_cell BK260.out 0).trans rfl, (blk_cell BK260.out 1).trans rfl, HS2_, HS3_⟩ (fun hHeld => ?_)
                       clear hK K
                       refine norm_ (a' := ?_) ?_ ?_
                       rotate_left
                       ·show Act.put _ (some 92) _ = _
                        simp only [Act.put, List.setIfInBounds_toArray, List.set_cons_zero, List.set_cons_succ, i64_w, i32_w]
                        rfl
                       refine pure_ (i := 2) (N := some 93) (v := ?_) (a' := ?_) (bA 20 7) rfl rfl (any_of HT_.out (by kernel_rfl)) (fun _ _ _ h => h) (Or.inl ⟨by rfl, ?_⟩) ?_ ?_
                       rotate_left
                       ·intro w'
                        go_simp
                        with_reducible rfl
                       rotate_left
                       ·simp only [Act.put, List.setIfInBounds_toArray, List.set_cons_zero, List.set_cons_succ, i64_w, i32_w]
                        rfl
                       refine pure_ (i := 3) (N := some 94) (v := ?_) (a' := ?_) (bA 20 15) rfl rfl (any_of HT_.out (by kernel_rfl)) (fun _ _ _ h => h) (Or.inl ⟨by rfl, ?_⟩) ?_ ?_
                       rotate_left
                       ·intro w'
                        go_simp
                        with_reducible rfl
                       rotate_left
                       ·simp only [Act.put, List.setIfInBounds_toArray, List.set_cons_zero, List.set_cons_succ, i64_w, i32_w]
                        rfl
                       refine pure_ (i := 4) (N := some 95) (v := ?_) (a' := ?_) (bA 20 31) rfl rfl (any_of HT_.out (by kernel_rfl)) (fun _ _ _ h => h) (Or.inl ⟨by rfl, ?_⟩) ?_ ?_
                       rotate_left
                       ·intro w'
                        go_simp
                        with_reducible rfl
                       rotate_left
                       ·simp only [Act.put, List.setIfInBounds_toArray, List.set_cons_zero, List.set_cons_succ, i64_w, i32_w]
                        rfl
                       refine pure_ (i := 5) (N := some 96) (v := ?_) (a' := ?_) (bA 20 63) rfl rfl (any_of HT_.out (by kernel_rfl)) (fun _ _ _ h => h) (Or.inl ⟨by rfl, ?_⟩) ?_ ?_
                       rotate_left
                       ·intro w'
                        go_simp
                        with_reducible rfl
                       rotate_left
                       ·simp only [Act.put, List.setIfInBounds_toArray, List.set_cons_zero, List.set_cons_succ, i64_w, i32_w]
                        rfl
                       refine pure_ (i := 6) (N := some 97) (v := ?_) (a' := ?_) (bA 20 127) rfl rfl (any_of HT_.out (by kernel_rfl)) (fun _ _ _ h => h) (Or.inl ⟨by rfl, ?_⟩) ?_ ?_
                       rotate_left
                       ·intro w'
                        go_simp
                        with_reducible rfl
                       rotate_left
                       ·simp only [Act.put, List.setIfInBounds_toArray, List.set_cons_zero, List.set_cons_succ, i64_w, i32_w]
                        rfl
                       refine pure_ (i := 7) (N := some 98) (v := ?_) (a' := ?_) (bA 20 255) rfl rfl (any_of HT_.out (by kernel_rfl)) (fun _ _ _ h => h) (Or.inl ⟨by rfl, ?_⟩) ?_ ?_
                       rotate_left
                       ·intro w'
                        go_simp
                        with_reducible rfl
                       rotate_left
                       ·simp only [Act.put, List.setIfInBounds_toArray, List.set_cons_zero, List.set_cons_succ, i64_w, i32_w]
                        rfl
                       refine pure_ (i := 8) (N := some 99) (v := ?_) (a' := ?_) (bA 20 511) rfl rfl (any_of HT_.out (by kernel_rfl)) (fun _ _ _ h => h) (Or.inl ⟨by rfl, ?_⟩) ?_ ?_
                       rotate_left
                       ·intro w'
                        go_simp
                        with_reducible rfl
                       rotate_left
                       ·simp only [Act.put, List.setIfInBounds_toArray, List.set_cons_zero, List.set_cons_succ, i64_w, i32_w]
                        rfl
                       refine pure_ (i := 9) (N := some 100) (v := ?_) (a' := ?_) (bA 20 1023) rfl rfl (any_of HT_.out (by kernel_rfl)) (fun _ _ _ h => h) (Or.inl ⟨by rfl, ?_⟩) ?_ ?_
                       rotate_left
                       ·intro w'
                        go_simp
                        with_reducible rfl
                       rotate_left
                       ·simp only [Act.put, List.setIfInBounds_toArray, List.set_cons_zero, List.set_cons_succ, i64_w, i32_w]
                        rfl
                       refine pure_ (i := 10) (N := some 101) (v := ?_) (a' := ?_) (bA 20 2047) rfl rfl (any_of HT_.out (by kernel_rfl)) (fun _ _ _ h => h) (Or.inl ⟨by rfl, ?_⟩) ?_ ?_
                       rotate_left
                       ·intro w'
                        go_simp
                        with_reducible rfl
                       rotate_left
                       ·simp only [Act.put, List.setIfInBounds_toArray, List.set_cons_zero, List.set_cons_succ, i64_w, i32_w]
                        rfl
                       refine pure_ (i := 11) (N := some 102) (v := ?_) (a' := ?_) (bA 20 4095) rfl rfl (any_of HT_.out (by kernel_rfl)) (fun _ _ _ h => h) (Or.inl ⟨by rfl, ?_⟩) ?_ ?_
                       rotate_left
                       ·intro w'
                        go_simp
                        with_reducible rfl
                       rotate_left
                       ·simp only [Act.put, List.setIfInBounds_toArray, List.set_cons_zero, List.set_cons_succ, i64_w, i32_w]
                        rfl
                       refine pure_ (i := 12) (N := some 103) (v := ?_) (a' := ?_) (bA 20 8191) rfl rfl (any_of HT_.out (by kernel_rfl)) (fun _ _ _ h => h) (Or.inl ⟨by rfl, ?_⟩) ?_ ?_
                       rotate_left
                       ·intro w'
                        go_simp
                        with_reducible rfl
                       rotate_left
                       ·simp only [Act.put, List.setIfInBounds_toArray, List.set_cons_zero, List.set_cons_succ, i64_w, i32_w]
                        rfl
                       refine pure_ (i := 13) (N := some 104) (v := ?_) (a' := ?_) (bA 20 16383) rfl rfl (any_of HT_.out (by kernel_rfl)) (fun _ _ _ h => h) (Or.inl ⟨by rfl, ?_⟩) ?_ ?_
                       rotate_left
                       ·intro w'
                        go_simp
                        with_reducible rfl
                       rotate_left
                       ·simp only [Act.put, List.setIfInBounds_toArray, List.set_cons_zero, List.set_cons_succ, i64_w, i32_w]
                        rfl
                       refine pure_ (i := 15) (N := some 106) (v := ?_) (a' := ?_) (bA 20 49151) rfl rfl (any_of HT_.out (by kernel_rfl)) (fun _ _ _ h => h) (Or.inl ⟨by rfl, ?_⟩) ?_ ?_
                       rotate_left
                       ·intro w'
                        go_simp
                        with_reducible rfl
                       rotate_left
                       ·simp only [Act.put, List.setIfInBounds_toArray, List.set_cons_zero, List.set_cons_succ, i64_w, i32_w]
                        rfl
                       refine take_ (i := 14) (N := some 105) (v := ?_) (a' := ?_) (bA 20 65535) rfl rfl (take_ofW HT_.out HW_.out (by kernel_rfl)) (fun _ _ _ h => h) (Or.inl ⟨by rfl, ?_⟩) hHeld ?_ ?_
                       rotate_left
                       ·rintro w' ⟨s0, s1, s2, s3⟩
                        go_simp
                        with_reducible rfl
                       rotate_left
                       ·simp only [Act.put, List.setIfInBounds_toArray, List.set_cons_zero, List.set_cons_succ, i64_w, i32_w]
                        rfl
                       refine take_ (i := 16) (N := some 107) (v := ?_) (a' := ?_) (bA 20 131071) rfl rfl (take_ofW HT_.out HW_.out (by kernel_rfl)) (fun _ _ _ h => h) (Or.inl ⟨by rfl, ?_⟩) hHeld ?_ ?_
                       rotate_left
                       ·rintro w' ⟨s0, s1, s2, s3⟩
                        go_simp
                        with_reducible rfl
                       rotate_left
                       ·simp only [Act.put, List.setIfInBounds_toArray, List.set_cons_zero, List.set_cons_succ, i64_w, i32_w]
                        rfl
                       refine pure_ (i := 17) (N := some 108) (v := ?_) (a' := ?_) (bA 20 262143) rfl rfl (any_of HT_.out (by kernel_rfl)) (fun _ _ _ h => h) (Or.inl ⟨by rfl, ?_⟩) ?_ ?_
                       rotate_left
                       ·intro w'
                        go_simp
                        with_reducible rfl
                       rotate_left
                       ·simp only [Act.put, List.setIfInBounds_toArray, List.set_cons_zero, List.set_cons_succ, i64_w, i32_w]
                        rfl
                       refine pure_ (i := 18) (N := some 109) (v := ?_) (a' := ?_) (bA 20 524287) rfl rfl (any_of HT_.out (by kernel_rfl)) (fun _ _ _ h => h) (Or.inl ⟨by rfl, ?_⟩) ?_ ?_
                       rotate_left
                       ·intro w'
                        go_simp
                        with_reducible rfl
                       rotate_left
                       ·simp only [Act.put, List.setIfInBounds_toArray, List.set_cons_zero, List.set_cons_succ, i64_w, i32_w]
                        rfl
                       refine pure_ (i := 19) (N := some 110) (v := ?_) (a' := ?_) (bA 20 1048575) rfl rfl (any_of HT_.out (by kernel_rfl)) (fun _ _ _ h => h) (Or.inl ⟨by rfl, ?_⟩) ?_ ?_
                       rotate_left
                       ·intro w'
                        go_simp
                        with_reducible rfl
                       rotate_left
                       ·simp only [Act.put, List.setIfInBounds_toArray, List.set_cons_zero, List.set_cons_succ, i64_w, i32_w]
                        rfl
                       refine done_ (done_of HT_.out (by kernel_rfl)) ?_
                       have hcz48_0 : w46.cell? ⟨gb260, 0, none⟩ = some (.int .i64 (wrap64 (IntKind.u64.wrap (Int.tdiv t255 16)))) := (blk_cell BK260.out 0).trans rfl
                       have hcz48_1 : w46.cell? ⟨gb260, 1, none⟩ = some (.int .i64 (wrap64 ((wrap64 (t258)) - (ji27)))) := (blk_cell BK260.out 1).trans rfl
                       have hfz48_0 := blk_frozen BK260.out 0
                       have hfz48_1 := blk_frozen BK260.out 1
                       try go_wp2_with (first | ((with_reducible refine gate_builtin (b := .append) (xs := #[.tmp 111, .tmp 113]) rfl ?_); (try (refine gate_guard (by rfl) ?_; dsimp only)); at_builtin; refine Kd.R_append k26 (w0 := w) w.heap.size rfl (.tmp 111) (.tmp 113) 28 26 (.agg #[(.int .i64 0), (.int .i64 0)]) 16 rfl Try.underlying28 info26 rfl (by decide) (by omega) (.slice (some ad262) x6_2.length co47) x6_2 (⟨wrap64 (IntKind.u64.wrap (Int.tdiv t255 16)), wrap64 ((wrap64 (t258)) - (ji27))⟩ : S26) [.int .i64 (wrap64 (IntKind.u64.wrap (Int.tdiv t255 16))), .int .i64 (wrap64 ((wrap64 (t258)) - (ji27)))] (fun k_ => k_ ≠ gb260) (fun _ => False) rfl rfl ?aP (fun _ hk => hk.elim) ?aF ?aO ?aB ?aS ?aL ?_; (case aP => exact k26_mkM _ _ _ (⟨wrap64 (IntKind.u64.wrap (Int.tdiv t255 16)), wrap64 ((wrap64 (t258)) - (ji27))⟩ : S26)); (case aB => exact (belS HB.out)); (case aF => exact (fun k_ hk => Kd.freshB (g := gb260) (o := .cells #[.int .i64 (wrap64 (IntKind.u64.wrap (Int.tdiv t255 16))), .int .i64 (wrap64 ((wrap64 (t258)) - (ji27)))] 26 (0, 0)) (blkN BK260.out) k_ hk)); (case aO => exact (rowN HO_6.out)); (case aS => exact (below_size (belS HB.out))); (case aL => have := LMc41.out; omega); intro v264 w49 ho hb hg hat; rw [← Ny263.out] at ho; have n0_ := Aside0.mk (blk_grown (g := gb260) (o := .cells #[.int .i64 (wrap64 (IntKind.u64.wrap (Int.tdiv t255 16))), .int .i64 (wrap64 ((wrap64 (t258)) - (ji27)))] 26 (0, 0)) (blkN BK260.out) hg (Kd.R_away HO_6.out (fun _ hk => hk))); have n1_ := Aside0.mk (hb); have n2_ := Aside0.mk (ho); clear BK260; clear HB; clear HO_6; have BK260 := n0_; have HB := n1_; have HO265 := n2_; clear n0_ n1_ n2_; clear ho hb hg hat))
                       go_roundg kj13
                       case measure => have := HJ2.out; have := HK2.out; have := HJ13.out; omega
                       case rel => exact ⟨(y263), (wrap64 (x7_2 + (wrap64 ((wrap64 (Int.tmod t255 16)) + 1)))), (wrap64 (x8_2 + 2)), (by first | rfl | (simp; done) | (simp [*]; done)), (by first | rfl | (simp; done) | (simp [*]; done)), H', ⟨by have := HJ2.out; have := HK2.out; have := HJ13.out; omega⟩, ⟨by (with_reducible repeat (first | apply Kd.R_alloc | apply Kd.R_drewN | apply Kd.R_drew)); exact Kd.R_mono HO265.out (fun _ hk => trivial)⟩, ⟨(belS HB.out)⟩⟩
                      ·rw [if_neg c41] at H
                       exact absurd H (by simp)
                    ·rw [if_neg c33] at H
                     exact absurd H (by simp)
                   ·rw [if_neg c32] at H
                    exact absurd H (by simp)
                  ·rw [if_neg c30] at H
                   have c30b0 : decide (0 < (x6_2.length : Int)) = false := decide_eq_false c30
                   have c30b1 : decide (0 < x6_2.length) = false := decide_eq_false (by omega)
                   clear c30
                   by_cases c50 : x6_2.length < 8796093022208
                   ·rw [if_pos c50] at H
                    have LMc50 := Aside0.mk c50
                    clear c50
                    obtain ⟨y266, hy266⟩ : ∃ y_ : List (S26), y_ = (x6_2 ++ [(⟨wrap64 (IntKind.u64.wrap (Int.tdiv t255 16)), wrap64 ((wrap64 (t258)) - (ji27))⟩ : S26)]) := ⟨_, rfl⟩
                    replace H : (marigraphref15_Parse.l0 kj13 l0 l1 y266 (wrap64 (x7_2 + (wrap64 ((wrap64 (Int.tmod t255 16)) + 1)))) (wrap64 (x8_2 + 2))) = some (r1, r2) := by first | (rw [hy266]; with_reducible exact H) | (have H2_ := (Option.bind_some _ _).symm.trans H; rw [hy266]; with_reducible exact H2_) | (have H2_ := (Option.bind_some _ _).symm.trans H; with_reducible exact H2_) | with_reducible exact H | (rw [hy266]; exact H) | exact H
                    have Ny266 := Aside0.mk hy266
                    clear hy266
                    have H' := Aside0.mk H
                    clear H
                    try go_wp2_with (first | ((with_reducible refine gate_dst (N := 15) rfl ?_); (try (refine gate_guard (by rfl) ?_; dsimp only)); refine box_event ?hg (N := 15) ?hd (cs := #[.int .i64 0, .int .i64 0]) (t := 26) ?hr ?_; (case hd => rfl); (case hg => rfl); (case hr => first | (go_simp; done) | (go_simp; rfl)); intro gb260 hg w51 hbox hb; have n0_ := Aside0.mk (Kd.R_below (Kd.R_elderB (rowN HO_6.out) gb260 (Nat.le_of_eq hg.symm)) hb); have n1_ := Aside0.mk (below_step (belN HB.out) hb); have n2_ := Aside0.mk (hbox); have n3_ := Aside0.mk (szB hg HB.out); have n4_ := Aside0.mk (szB hg HB.out); clear HO_6; clear HB; have HO_6 := n0_; have HB := n1_; have BK260 := n2_; have GW260 := n3_; have GE260 := n4_; clear n0_ n1_ n2_ n3_ n4_; clear hb hbox hg; have hcz52_0 : w51.cell? ⟨gb260, 0, none⟩ = some (.int .i64 0) := (blk_cell BK260.out 0).trans rfl; have hcz52_1 : w51.cell? ⟨gb260, 1, none⟩ = some (.int .i64 0) := (blk_cell BK260.out 1).trans rfl; have hfz52_0 := blk_frozen BK260.out 0; have hfz52_1 := blk_frozen BK260.out 1))
                    have n0_ : Aside0 (Kd.R k26 26 ((w51.setCell ⟨gb260, 0, none⟩ (.int .i64 (wrap64 (IntKind.u64.wrap (Int.tdiv t255 16))))).setCell ⟨gb260, 1, none⟩ (.int .i64 (wrap64 ((wrap64 (t258)) - (ji27))))) w.heap.size (fun k_ => k_ ≠ gb260) u6 x6_2) := ⟨by (with_reducible repeat (first | apply Kd.R_alloc | apply Kd.R_drewN | apply Kd.R_drew)); exact Kd.R_mono (Kd.R_far (p := ⟨gb260, 1, none⟩) (Kd.R_far (p := ⟨gb260, 0, none⟩) (Kd.R_mono HO_6.out (fun k_ hk => (⟨hk, hk.2⟩ : _ ∧ k_ ≠ gb260))) (fun _ hk => hk.2) (.int .i64 (wrap64 (IntKind.u64.wrap (Int.tdiv t255 16))))) (fun _ hk => hk.2) (.int .i64 (wrap64 ((wrap64 (t258)) - (ji27))))) (fun _ hk => hk.1.2)⟩
                    have n1_ : Aside0 (((w51.setCell ⟨gb260, 0, none⟩ (.int .i64 (wrap64 (IntKind.u64.wrap (Int.tdiv t255 16))))).setCell ⟨gb260, 1, none⟩ (.int .i64 (wrap64 ((wrap64 (t258)) - (ji27))))).heap[gb260]? = some (.cells #[.int .i64 (wrap64 (IntKind.u64.wrap (Int.tdiv t255 16))), .int .i64 (wrap64 ((wrap64 (t258)) - (ji27)))] 26 (0, 0))) := ⟨by (with_reducible repeat (first | refine blk_drewN ?_ _ | refine blk_drew ?_ | refine blk_alloc ?_ _)); refine blk_put (cs := #[.int .i64 (wrap64 (IntKind.u64.wrap (Int.tdiv t255 16))), .int .i64 0]) ?_ 1 _ rfl; (with_reducible repeat (first | refine blk_drewN ?_ _ | refine blk_drew ?_ | refine blk_alloc ?_ _)); refine blk_put (cs := #[.int .i64 0, .int .i64 0]) ?_ 0 _ rfl; (with_reducible repeat (first | refine blk_drewN ?_ _ | refine blk_drew ?_ | refine blk_alloc ?_ _)); exact BK260.out⟩
                    have n2_ : Aside0 (Below w.heap.size w ((w51.setCell ⟨gb260, 0, none⟩ (.int .i64 (wrap64 (IntKind.u64.wrap (Int.tdiv t255 16))))).setCell ⟨gb260, 1, none⟩ (.int .i64 (wrap64 ((wrap64 (t258)) - (ji27)))))) := ⟨(belS HB.out)⟩
                    (try clear HO_6)
                    (try clear BK260)
                    (try clear HB)
                    generalize ((w51.setCell ⟨gb260, 0, none⟩ (.int .i64 (wrap64 (IntKind.u64.wrap (Int.tdiv t255 16))))).setCell ⟨gb260, 1, none⟩ (.int .i64 (wrap64 ((wrap64 (t258)) - (ji27))))) = w53 at n0_ n1_ n2_ ⊢
                    have HO_6 := n0_
                    have BK260 := n1_
                    have HB := n2_
                    clear n0_ n1_ n2_
                    have n0_ := Aside0.mk (Kd.R_drew HO_6.out)
                    have n1_ := Aside0.mk (blk_drew BK260.out)
                    have n2_ := Aside0.mk (below_drew1 HB.out)
                    clear HO_6
                    clear BK260
                    clear HB
                    have HO_6 := n0_
                    have BK260 := n1_
                    have HB := n2_
                    clear n0_ n1_ n2_
                    obtain ⟨Ao56, co56, eo56⟩ := Kd.R_slice HO_6.out
                    (first | subst eo56 | (injection eo56 with f1_ f2_ f3_; have f4_ := f1_.symm; have f5_ := f3_.symm; clear f1_ f2_ f3_; subst f4_; subst f5_))
                    refine start_ (n := 20) (S := fun w' => w'.cell? ⟨gb260, 0, none⟩ = some (.int .i64 (wrap64 (IntKind.u64.wrap (Int.tdiv t255 16)))) ∧ w'.cell? ⟨gb260, 1, none⟩ = some (.int .i64 (wrap64 ((wrap64 (t258)) - (ji27))))) (ds := []) #[false, false, false, false, false, false, false, false, false, false, false, false, false, false, false, false, false, false, false, false] (by kernel_rfl) rfl rfl ⟨(blk_cell BK260.out 0).trans rfl, (blk_cell BK260.out 1).trans rfl⟩ (fun hHeld => ?_); refine with_tabW marigraphref15_Parse.tab17 marigraphref15_Parse.bits17 (fun HT_ HW_ => ?_)
                    generalize w53.drew = w54 at HO_6 BK260 HB hHeld ⊢
                    refine take_ (i := 0) (N := some 91) (v := ?_) (a' := ?_) (bA 20 1) rfl rfl (take_ofW HT_.out HW_.out (by kernel_rfl)) (fun _ _ _ h => h) (Or.inl ⟨by rfl, ?_⟩) hHeld ?_ ?_
                    rotate_left
                    ·rintro w' ⟨s0, s1⟩
                     go_simp
                     with_reducible rfl
                    rotate_left
                    ·simp only [Act.put, List.setIfInBounds_toArray, List.set_cons_zero, List.set_cons_succ, i64_w, i32_w]
                     rfl
                    refine one_ (i := 1) (N := some 92) (bA 20 3) rfl rfl (one_of HT_.out (by kernel_rfl)) (by decide) (fun K hK => ?_)
                    refine goes_ Try.func56 (by kernel_rfl) rfl #[.agg #[.int .i64 (wrap64 (IntKind.u64.wrap (Int.tdiv t255 16))), .int .i64 (wrap64 ((wrap64 (t258)) - (ji27)))]] (by rfl) rfl rfl (by (try simp only [List.map_toArray, List.map_cons, List.map_nil]); first | done | (simp only [hji27]; rfl) | rfl | (simp only [List.length_drop, List.length_take]; rfl)) ?_
                    with_reducible refine (marigraphref15_May.calls (wrap64 (IntKind.u64.wrap (Int.tdiv t255 16))) (wrap64 ((wrap64 (t258)) - (ji27))) true _ A28.out).mono ?_
                    rintro e w55 ⟨rfl, hb⟩
                    refine ⟨_, rfl, ?_⟩
                    have n0_ := Aside0.mk (Kd.R_below (rowN HO_6.out) hb)
                    have n1_ := Aside0.mk (bkB BK260.out hb)
                    have n2_ := Aside0.mk (below_step (belS HB.out) hb)
                    clear HO_6
                    clear BK260
                    clear HB
                    have HO_6 := n0_
                    have BK260 := n1_
                    have HB := n2_
                    clear n0_ n1_ n2_
                    (try clear hb)
                    (try clear hb2)
                    (try clear hk)
                    (try clear hi)
                    refine hK.out _ _ ⟨(blk_cell BK260.out 0).trans rfl, (blk_cell BK260.out 1).trans rfl⟩ (fun hHeld => ?_)
                    clear hK K
                    refine norm_ (a' := ?_) ?_ ?_
                    rotate_left
                    ·show Act.put _ (some 92) _ = _
                     simp only [Act.put, List.setIfInBounds_toArray, List.set_cons_zero, List.set_cons_succ, i64_w, i32_w]
                     rfl
                    refine pure_ (i := 2) (N := some 93) (v := ?_) (a' := ?_) (bA 20 7) rfl rfl (any_of HT_.out (by kernel_rfl)) (fun _ _ _ h => h) (Or.inl ⟨by rfl, ?_⟩) ?_ ?_
                    rotate_left
                    ·intro w'
                     go_simp
                     with_reducible rfl
                    rotate_left
                    ·simp only [Act.put, List.setIfInBounds_toArray, List.set_cons_zero, List.set_cons_succ, i64_w, i32_w]
                     rfl
                    refine pure_ (i := 3) (N := some 94) (v := ?_) (a' := ?_) (bA 20 15) rfl rfl (any_of HT_.out (by kernel_rfl)) (fun _ _ _ h => h) (Or.inl ⟨by rfl, ?_⟩) ?_ ?_
                    rotate_left
                    ·intro w'
                     go_simp
                     with_reducible rfl
                    rotate_left
                    ·simp only [Act.put, List.setIfInBounds_toArray, List.set_cons_zero, List.set_cons_succ, i64_w, i32_w]
                     rfl
                    refine pure_ (i := 4) (N := some 95) (v := ?_) (a' := ?_) (bA 20 31) rfl rfl (any_of HT_.out (by kernel_rfl)) (fun _ _ _ h => h) (Or.inl ⟨by rfl, ?_⟩) ?_ ?_
                    rotate_left
                    ·intro w'
                     go_simp
                     with_reducible rfl
                    rotate_left
                    ·simp only [Act.put, List.setIfInBounds_toArray, List.set_cons_zero, List.set_cons_succ, i64_w, i32_w]
                     rfl
                    refine pure_ (i := 5) (N := some 96) (v := ?_) (a' := ?_) (bA 20 63) rfl rfl (any_of HT_.out (by kernel_rfl)) (fun _ _ _ h => h) (Or.inl ⟨by rfl, ?_⟩) ?_ ?_
                    rotate_left
                    ·intro w'
                     go_simp
                     with_reducible rfl
                    rotate_left
                    ·simp only [Act.put, List.setIfInBounds_toArray, List.set_cons_zero, List.set_cons_succ, i64_w, i32_w]
                     rfl
                    refine pure_ (i := 6) (N := some 97) (v := ?_) (a' := ?_) (bA 20 127) rfl rfl (any_of HT_.out (by kernel_rfl)) (fun _ _ _ h => h) (Or.inl ⟨by rfl, ?_⟩) ?_ ?_
                    rotate_left
                    ·intro w'
                     go_simp
                     with_reducible rfl
                    rotate_left
                    ·simp only [Act.put, List.setIfInBounds_toArray, List.set_cons_zero, List.set_cons_succ, i64_w, i32_w]
                     rfl
                    refine pure_ (i := 7) (N := some 98) (v := ?_) (a' := ?_) (bA 20 255) rfl rfl (any_of HT_.out (by kernel_rfl)) (fun _ _ _ h => h) (Or.inl ⟨by rfl, ?_⟩) ?_ ?_
                    rotate_left
                    ·intro w'
                     go_simp
                     with_reducible rfl
                    rotate_left
                    ·simp only [Act.put, List.setIfInBounds_toArray, List.set_cons_zero, List.set_cons_succ, i64_w, i32_w]
                     rfl
                    refine pure_ (i := 8) (N := some 99) (v := undef) (a' := ?_) (bA 20 511) rfl rfl (any_of HT_.out (by kernel_rfl)) (fun _ _ _ h => h) (Or.inr ⟨by rfl, rfl⟩) ?_ ?_
                    rotate_left
                    ·simp only [Act.put, List.setIfInBounds_toArray, List.set_cons_zero, List.set_cons_succ, i64_w, i32_w]
                     rfl
                    refine pure_ (i := 9) (N := some 100) (v := undef) (a' := ?_) (bA 20 1023) rfl rfl (any_of HT_.out (by kernel_rfl)) (fun _ _ _ h => h) (Or.inr ⟨by rfl, rfl⟩) ?_ ?_
                    rotate_left
                    ·simp only [Act.put, List.setIfInBounds_toArray, List.set_cons_zero, List.set_cons_succ, i64_w, i32_w]
                     rfl
                    refine pure_ (i := 10) (N := some 101) (v := undef) (a' := ?_) (bA 20 2047) rfl rfl (any_of HT_.out (by kernel_rfl)) (fun _ _ _ h => h) (Or.inr ⟨by rfl, rfl⟩) ?_ ?_
                    rotate_left
                    ·simp only [Act.put, List.setIfInBounds_toArray, List.set_cons_zero, List.set_cons_succ, i64_w, i32_w]
                     rfl
                    refine pure_ (i := 11) (N := some 102) (v := undef) (a' := ?_) (bA 20 4095) rfl rfl (any_of HT_.out (by kernel_rfl)) (fun _ _ _ h => h) (Or.inr ⟨by rfl, rfl⟩) ?_ ?_
                    rotate_left
                    ·simp only [Act.put, List.setIfInBounds_toArray, List.set_cons_zero, List.set_cons_succ, i64_w, i32_w]
                     rfl
                    refine pure_ (i := 12) (N := some 103) (v := undef) (a' := ?_) (bA 20 8191) rfl rfl (any_of HT_.out (by kernel_rfl)) (fun _ _ _ h => h) (Or.inr ⟨by rfl, rfl⟩) ?_ ?_
                    rotate_left
                    ·simp only [Act.put, List.setIfInBounds_toArray, List.set_cons_zero, List.set_cons_succ, i64_w, i32_w]
                     rfl
                    refine pure_ (i := 13) (N := some 104) (v := undef) (a' := ?_) (bA 20 16383) rfl rfl (any_of HT_.out (by kernel_rfl)) (fun _ _ _ h => h) (Or.inr ⟨by rfl, rfl⟩) ?_ ?_
                    rotate_left
                    ·simp only [Act.put, List.setIfInBounds_toArray, List.set_cons_zero, List.set_cons_succ, i64_w, i32_w]
                     rfl
                    refine pure_ (i := 14) (N := some 105) (v := undef) (a' := ?_) (bA 20 32767) rfl rfl (any_of HT_.out (by kernel_rfl)) (fun _ _ _ h => h) (Or.inr ⟨by rfl, rfl⟩) ?_ ?_
                    rotate_left
                    ·simp only [Act.put, List.setIfInBounds_toArray, List.set_cons_zero, List.set_cons_succ, i64_w, i32_w]
                     rfl
                    refine pure_ (i := 15) (N := some 106) (v := undef) (a' := ?_) (bA 20 65535) rfl rfl (any_of HT_.out (by kernel_rfl)) (fun _ _ _ h => h) (Or.inr ⟨by rfl, rfl⟩) ?_ ?_
                    rotate_left
                    ·simp only [Act.put, List.setIfInBounds_toArray, List.set_cons_zero, List.set_cons_succ, i64_w, i32_w]
                     rfl
                    refine pure_ (i := 16) (N := some 107) (v := undef) (a' := ?_) (bA 20 131071) rfl rfl (any_of HT_.out (by kernel_rfl)) (fun _ _ _ h => h) (Or.inr ⟨by rfl, rfl⟩) ?_ ?_
                    rotate_left
                    ·simp only [Act.put, List.setIfInBounds_toArray, List.set_cons_zero, List.set_cons_succ, i64_w, i32_w]
                     rfl
                    refine pure_ (i := 17) (N := some 108) (v := undef) (a' := ?_) (bA 20 262143) rfl rfl (any_of HT_.out (by kernel_rfl)) (fun _ _ _ h => h) (Or.inr ⟨by rfl, rfl⟩) ?_ ?_
                    rotate_left
                    ·simp only [Act.put, List.setIfInBounds_toArray, List.set_cons_zero, List.set_cons_succ, i64_w, i32_w]
                     rfl
                    refine pure_ (i := 18) (N := some 109) (v := ?_) (a' := ?_) (bA 20 524287) rfl rfl (any_of HT_.out (by kernel_rfl)) (fun _ _ _ h => h) (Or.inl ⟨by rfl, ?_⟩) ?_ ?_
                    rotate_left
                    ·intro w'
                     go_simp
                     with_reducible rfl
                    rotate_left
                    ·simp only [Act.put, List.setIfInBounds_toArray, List.set_cons_zero, List.set_cons_succ, i64_w, i32_w]
                     rfl
                    refine pure_ (i := 19) (N := some 110) (v := ?_) (a' := ?_) (bA 20 1048575) rfl rfl (any_of HT_.out (by kernel_rfl)) (fun _ _ _ h => h) (Or.inl ⟨by rfl, ?_⟩) ?_ ?_
                    rotate_left
                    ·intro w'
                     go_simp
                     with_reducible rfl
                    rotate_left
                    ·simp only [Act.put, List.setIfInBounds_toArray, List.set_cons_zero, List.set_cons_succ, i64_w, i32_w]
                     rfl
                    refine done_ (done_of HT_.out (by kernel_rfl)) ?_
                    have hcz57_0 : w55.cell? ⟨gb260, 0, none⟩ = some (.int .i64 (wrap64 (IntKind.u64.wrap (Int.tdiv t255 16)))) := (blk_cell BK260.out 0).trans rfl
                    have hcz57_1 : w55.cell? ⟨gb260, 1, none⟩ = some (.int .i64 (wrap64 ((wrap64 (t258)) - (ji27)))) := (blk_cell BK260.out 1).trans rfl
                    have hfz57_0 := blk_frozen BK260.out 0
                    have hfz57_1 := blk_frozen BK260.out 1
                    try go_wp2_with (first | ((with_reducible refine gate_builtin (b := .append) (xs := #[.tmp 111, .tmp 113]) rfl ?_); (try (refine gate_guard (by rfl) ?_; dsimp only)); at_builtin; refine Kd.R_append k26 (w0 := w) w.heap.size rfl (.tmp 111) (.tmp 113) 28 26 (.agg #[(.int .i64 0), (.int .i64 0)]) 16 rfl Try.underlying28 info26 rfl (by decide) (by omega) (.slice Ao56 x6_2.length co56) x6_2 (⟨wrap64 (IntKind.u64.wrap (Int.tdiv t255 16)), wrap64 ((wrap64 (t258)) - (ji27))⟩ : S26) [.int .i64 (wrap64 (IntKind.u64.wrap (Int.tdiv t255 16))), .int .i64 (wrap64 ((wrap64 (t258)) - (ji27)))] (fun k_ => k_ ≠ gb260) (fun _ => False) rfl rfl ?aP (fun _ hk => hk.elim) ?aF ?aO ?aB ?aS ?aL ?_; (case aP => exact k26_mkM _ _ _ (⟨wrap64 (IntKind.u64.wrap (Int.tdiv t255 16)), wrap64 ((wrap64 (t258)) - (ji27))⟩ : S26)); (case aB => exact (belS HB.out)); (case aF => exact (fun k_ hk => Kd.freshB (g := gb260) (o := .cells #[.int .i64 (wrap64 (IntKind.u64.wrap (Int.tdiv t255 16))), .int .i64 (wrap64 ((wrap64 (t258)) - (ji27)))] 26 (0, 0)) (blkN BK260.out) k_ hk)); (case aO => exact (rowN HO_6.out)); (case aS => exact (below_size (belS HB.out))); (case aL => have := LMc50.out; omega); intro v267 w58 ho hb hg hat; rw [← Ny266.out] at ho; have n0_ := Aside0.mk (blk_grown (g := gb260) (o := .cells #[.int .i64 (wrap64 (IntKind.u64.wrap (Int.tdiv t255 16))), .int .i64 (wrap64 ((wrap64 (t258)) - (ji27)))] 26 (0, 0)) (blkN BK260.out) hg (Kd.R_away HO_6.out (fun _ hk => hk))); have n1_ := Aside0.mk (hb); have n2_ := Aside0.mk (ho); clear BK260; clear HB; clear HO_6; have BK260 := n0_; have HB := n1_; have HO268 := n2_; clear n0_ n1_ n2_; clear ho hb hg hat))
                    go_roundg kj13
                    case measure => have := HJ2.out; have := HK2.out; have := HJ13.out; omega
                    case rel => exact ⟨(y266), (wrap64 (x7_2 + (wrap64 ((wrap64 (Int.tmod t255 16)) + 1)))), (wrap64 (x8_2 + 2)), (by first | rfl | (simp; done) | (simp [*]; done)), (by first | rfl | (simp; done) | (simp [*]; done)), H', ⟨by have := HJ2.out; have := HK2.out; have := HJ13.out; omega⟩, ⟨by (with_reducible repeat (first | apply Kd.R_alloc | apply Kd.R_drewN | apply Kd.R_drew)); exact Kd.R_mono HO268.out (fun _ hk => trivial)⟩, ⟨(belS HB.out)⟩⟩
                   ·rw [if_neg c50] at H
                    exact absurd H (by simp)
                 ·replace c29 := Bool.eq_false_iff.mpr c29
                  subst c29
                  have H1 : (some (([] : List (S26)), false)) = some (r1, r2) := by rw [if_neg (show ¬ (false = true) by decide)] at H; exact H
                  clear H
                  have H := H1
                  clear H1
                  simp only [Option.some.injEq, Prod.mk.injEq] at H
                  obtain ⟨rfl, rfl⟩ := H
                  try go_wp2_with (first | ((with_reducible refine gate_dst (N := 15) rfl ?_); (try (refine gate_guard (by rfl) ?_; dsimp only)); refine box_event ?hg (N := 15) ?hd (cs := #[.int .i64 0, .int .i64 0]) (t := 26) ?hr ?_; (case hd => rfl); (case hg => rfl); (case hr => first | (go_simp; done) | (go_simp; rfl)); intro gb260 hg w59 hbox hb; have n0_ := Aside0.mk (Kd.R_below (Kd.R_elderB (rowN HO_6.out) gb260 (Nat.le_of_eq hg.symm)) hb); have n1_ := Aside0.mk (below_step (belN HB.out) hb); have n2_ := Aside0.mk (hbox); have n3_ := Aside0.mk (szB hg HB.out); have n4_ := Aside0.mk (szB hg HB.out); clear HO_6; clear HB; have HO_6 := n0_; have HB := n1_; have BK260 := n2_; have GW260 := n3_; have GE260 := n4_; clear n0_ n1_ n2_ n3_ n4_; clear hb hbox hg; have hcz60_0 : w59.cell? ⟨gb260, 0, none⟩ = some (.int .i64 0) := (blk_cell BK260.out 0).trans rfl; have hcz60_1 : w59.cell? ⟨gb260, 1, none⟩ = some (.int .i64 0) := (blk_cell BK260.out 1).trans rfl; have hfz60_0 := blk_frozen BK260.out 0; have hfz60_1 := blk_frozen BK260.out 1))
                  have n0_ : Aside0 (Kd.R k26 26 ((w59.setCell ⟨gb260, 0, none⟩ (.int .i64 (wrap64 (IntKind.u64.wrap (Int.tdiv t255 16))))).setCell ⟨gb260, 1, none⟩ (.int .i64 (wrap64 ((wrap64 (t258)) - (ji27))))) w.heap.size (fun k_ => k_ ≠ gb260) u6 x6_2) := ⟨by (with_reducible repeat (first | apply Kd.R_alloc | apply Kd.R_drewN | apply Kd.R_drew)); exact Kd.R_mono (Kd.R_far (p := ⟨gb260, 1, none⟩) (Kd.R_far (p := ⟨gb260, 0, none⟩) (Kd.R_mono HO_6.out (fun k_ hk => (⟨hk, hk.2⟩ : _ ∧ k_ ≠ gb260))) (fun _ hk => hk.2) (.int .i64 (wrap64 (IntKind.u64.wrap (Int.tdiv t255 16))))) (fun _ hk => hk.2) (.int .i64 (wrap64 ((wrap64 (t258)) - (ji27))))) (fun _ hk => hk.1.2)⟩
                  have n1_ : Aside0 (((w59.setCell ⟨gb260, 0, none⟩ (.int .i64 (wrap64 (IntKind.u64.wrap (Int.tdiv t255 16))))).setCell ⟨gb260, 1, none⟩ (.int .i64 (wrap64 ((wrap64 (t258)) - (ji27))))).heap[gb260]? = some (.cells #[.int .i64 (wrap64 (IntKind.u64.wrap (Int.tdiv t255 16))), .int .i64 (wrap64 ((wrap64 (t258)) - (ji27)))] 26 (0, 0))) := ⟨by (with_reducible repeat (first | refine blk_drewN ?_ _ | refine blk_drew ?_ | refine blk_alloc ?_ _)); refine blk_put (cs := #[.int .i64 (wrap64 (IntKind.u64.wrap (Int.tdiv t255 16))), .int .i64 0]) ?_ 1 _ rfl; (with_reducible repeat (first | refine blk_drewN ?_ _ | refine blk_drew ?_ | refine blk_alloc ?_ _)); refine blk_put (cs := #[.int .i64 0, .int .i64 0]) ?_ 0 _ rfl; (with_reducible repeat (first | refine blk_drewN ?_ _ | refine blk_drew ?_ | refine blk_alloc ?_ _)); exact BK260.out⟩
                  have n2_ : Aside0 (Below w.heap.size w ((w59.setCell ⟨gb260, 0, none⟩ (.int .i64 (wrap64 (IntKind.u64.wrap (Int.tdiv t255 16))))).setCell ⟨gb260, 1, none⟩ (.int .i64 (wrap64 ((wrap64 (t258)) - (ji27)))))) := ⟨(belS HB.out)⟩
                  (try clear HO_6)
                  (try clear BK260)
                  (try clear HB)
                  generalize ((w59.setCell ⟨gb260, 0, none⟩ (.int .i64 (wrap64 (IntKind.u64.wrap (Int.tdiv t255 16))))).setCell ⟨gb260, 1, none⟩ (.int .i64 (wrap64 ((wrap64 (t258)) - (ji27))))) = w61 at n0_ n1_ n2_ ⊢
                  have HO_6 := n0_
                  have BK260 := n1_
                  have HB := n2_
                  clear n0_ n1_ n2_
                  have n0_ := Aside0.mk (Kd.R_drew HO_6.out)
                  have n1_ := Aside0.mk (blk_drew BK260.out)
                  have n2_ := Aside0.mk (below_drew1 HB.out)
                  clear HO_6
                  clear BK260
                  clear HB
                  have HO_6 := n0_
                  have BK260 := n1_
                  have HB := n2_
                  clear n0_ n1_ n2_
                  refine start_ (n := 20) (S := fun w' => w'.cell? ⟨gb260, 0, none⟩ = some (.int .i64 (wrap64 (IntKind.u64.wrap (Int.tdiv t255 16)))) ∧ w'.cell? ⟨gb260, 1, none⟩ = some (.int .i64 (wrap64 ((wrap64 (t258)) - (ji27))))) (ds := []) #[false, false, false, false, false, false, false, false, false, false, false, false, false, false, false, false, false, false, false, false] (by kernel_rfl) rfl rfl ⟨(blk_cell BK260.out 0).trans rfl, (blk_cell BK260.out 1).trans rfl⟩ (fun hHeld => ?_); refine with_tabW marigraphref15_Parse.tab17 marigraphref15_Parse.bits17 (fun HT_ HW_ => ?_)
                  generalize w61.drew = w62 at HO_6 BK260 HB hHeld ⊢
                  refine take_ (i := 0) (N := some 91) (v := ?_) (a' := ?_) (bA 20 1) rfl rfl (take_ofW HT_.out HW_.out (by kernel_rfl)) (fun _ _ _ h => h) (Or.inl ⟨by rfl, ?_⟩) hHeld ?_ ?_
                  rotate_left
                  ·rintro w' ⟨s0, s1⟩
                   go_simp
                   with_reducible rfl
                  rotate_left
                  ·simp only [Act.put, List.setIfInBounds_toArray, List.set_cons_zero, List.set_cons_succ, i64_w, i32_w]
                   rfl
                  refine one_ (i := 1) (N := some 92) (bA 20 3) rfl rfl (one_of HT_.out (by kernel_rfl)) (by decide) (fun K hK => ?_)
                  refine goes_ Try.func56 (by kernel_rfl) rfl #[.agg #[.int .i64 (wrap64 (IntKind.u64.wrap (Int.tdiv t255 16))), .int .i64 (wrap64 ((wrap64 (t258)) - (ji27)))]] (by rfl) rfl rfl (by (try simp only [List.map_toArray, List.map_cons, List.map_nil]); first | done | (simp only [hji27]; rfl) | rfl | (simp only [List.length_drop, List.length_take]; rfl)) ?_
                  with_reducible refine (marigraphref15_May.calls (wrap64 (IntKind.u64.wrap (Int.tdiv t255 16))) (wrap64 ((wrap64 (t258)) - (ji27))) false _ A28.out).mono ?_
                  rintro e w63 ⟨rfl, hb⟩
                  refine ⟨_, rfl, ?_⟩
                  have n0_ := Aside0.mk (Kd.R_below (rowN HO_6.out) hb)
                  have n1_ := Aside0.mk (bkB BK260.out hb)
                  have n2_ := Aside0.mk (below_step (belS HB.out) hb)
                  clear HO_6
                  clear BK260
                  clear HB
                  have HO_6 := n0_
                  have BK260 := n1_
                  have HB := n2_
                  clear n0_ n1_ n2_
                  (try clear hb)
                  (try clear hb2)
                  (try clear hk)
                  (try clear hi)
                  refine hK.out _ _ ⟨(blk_cell BK260.out 0).trans rfl, (blk_cell BK260.out 1).trans rfl⟩ (fun hHeld => ?_)
                  clear hK K
                  refine norm_ (a' := ?_) ?_ ?_
                  rotate_left
                  ·show Act.put _ (some 92) _ = _
                   simp only [Act.put, List.setIfInBounds_toArray, List.set_cons_zero, List.set_cons_succ, i64_w, i32_w]
                   rfl
                  refine pure_ (i := 2) (N := some 93) (v := ?_) (a' := ?_) (bA 20 7) rfl rfl (any_of HT_.out (by kernel_rfl)) (fun _ _ _ h => h) (Or.inl ⟨by rfl, ?_⟩) ?_ ?_
                  rotate_left
                  ·intro w'
                   go_simp
                   with_reducible rfl
                  rotate_left
                  ·simp only [Act.put, List.setIfInBounds_toArray, List.set_cons_zero, List.set_cons_succ, i64_w, i32_w]
                   rfl
                  refine pure_ (i := 3) (N := some 94) (v := ?_) (a' := ?_) (bA 20 15) rfl rfl (any_of HT_.out (by kernel_rfl)) (fun _ _ _ h => h) (Or.inl ⟨by rfl, ?_⟩) ?_ ?_
                  rotate_left
                  ·intro w'
                   go_simp
                   with_reducible rfl
                  rotate_left
                  ·simp only [Act.put, List.setIfInBounds_toArray, List.set_cons_zero, List.set_cons_succ, i64_w, i32_w]
                   rfl
                  refine pure_ (i := 4) (N := some 95) (v := undef) (a' := ?_) (bA 20 31) rfl rfl (any_of HT_.out (by kernel_rfl)) (fun _ _ _ h => h) (Or.inr ⟨by rfl, rfl⟩) ?_ ?_
                  rotate_left
                  ·simp only [Act.put, List.setIfInBounds_toArray, List.set_cons_zero, List.set_cons_succ, i64_w, i32_w]
                   rfl
                  refine pure_ (i := 5) (N := some 96) (v := undef) (a' := ?_) (bA 20 63) rfl rfl (any_of HT_.out (by kernel_rfl)) (fun _ _ _ h => h) (Or.inr ⟨by rfl, rfl⟩) ?_ ?_
                  rotate_left
                  ·simp only [Act.put, List.setIfInBounds_toArray, List.set_cons_zero, List.set_cons_succ, i64_w, i32_w]
                   rfl
                  refine pure_ (i := 6) (N := some 97) (v := undef) (a' := ?_) (bA 20 127) rfl rfl (any_of HT_.out (by kernel_rfl)) (fun _ _ _ h => h) (Or.inr ⟨by rfl, rfl⟩) ?_ ?_
                  rotate_left
                  ·simp only [Act.put, List.setIfInBounds_toArray, List.set_cons_zero, List.set_cons_succ, i64_w, i32_w]
                   rfl
                  refine pure_ (i := 7) (N := some 98) (v := undef) (a' := ?_) (bA 20 255) rfl rfl (any_of HT_.out (by kernel_rfl)) (fun _ _ _ h => h) (Or.inr ⟨by rfl, rfl⟩) ?_ ?_
                  rotate_left
                  ·simp only [Act.put, List.setIfInBounds_toArray, List.set_cons_zero, List.set_cons_succ, i64_w, i32_w]
                   rfl
                  refine pure_ (i := 8) (N := some 99) (v := undef) (a' := ?_) (bA 20 511) rfl rfl (any_of HT_.out (by kernel_rfl)) (fun _ _ _ h => h) (Or.inr ⟨by rfl, rfl⟩) ?_ ?_
                  rotate_left
                  ·simp only [Act.put, List.setIfInBounds_toArray, List.set_cons_zero, List.set_cons_succ, i64_w, i32_w]
                   rfl
                  refine pure_ (i := 9) (N := some 100) (v := undef) (a' := ?_) (bA 20 1023) rfl rfl (any_of HT_.out (by kernel_rfl)) (fun _ _ _ h => h) (Or.inr ⟨by rfl, rfl⟩) ?_ ?_
                  rotate_left
                  ·simp only [Act.put, List.setIfInBounds_toArray, List.set_cons_zero, List.set_cons_succ, i64_w, i32_w]
                   rfl
                  refine pure_ (i := 10) (N := some 101) (v := undef) (a' := ?_) (bA 20 2047) rfl rfl (any_of HT_.out (by kernel_rfl)) (fun _ _ _ h => h) (Or.inr ⟨by rfl, rfl⟩) ?_ ?_
                  rotate_left
                  ·simp only [Act.put, List.setIfInBounds_toArray, List.set_cons_zero, List.set_cons_succ, i64_w, i32_w]
                   rfl
                  refine pure_ (i := 11) (N := some 102) (v := undef) (a' := ?_) (bA 20 4095) rfl rfl (any_of HT_.out (by kernel_rfl)) (fun _ _ _ h => h) (Or.inr ⟨by rfl, rfl⟩) ?_ ?_
                  rotate_left
                  ·simp only [Act.put, List.setIfInBounds_toArray, List.set_cons_zero, List.set_cons_succ, i64_w, i32_w]
                   rfl
                  refine pure_ (i := 12) (N := some 103) (v := undef) (a' := ?_) (bA 20 8191) rfl rfl (any_of HT_.out (by kernel_rfl)) (fun _ _ _ h => h) (Or.inr ⟨by rfl, rfl⟩) ?_ ?_
                  rotate_left
                  ·simp only [Act.put, List.setIfInBounds_toArray, List.set_cons_zero, List.set_cons_succ, i64_w, i32_w]
                   rfl
                  refine pure_ (i := 13) (N := some 104) (v := undef) (a' := ?_) (bA 20 16383) rfl rfl (any_of HT_.out (by kernel_rfl)) (fun _ _ _ h => h) (Or.inr ⟨by rfl, rfl⟩) ?_ ?_
                  rotate_left
                  ·simp only [Act.put, List.setIfInBounds_toArray, List.set_cons_zero, List.set_cons_succ, i64_w, i32_w]
                   rfl
                  refine pure_ (i := 14) (N := some 105) (v := undef) (a' := ?_) (bA 20 32767) rfl rfl (any_of HT_.out (by kernel_rfl)) (fun _ _ _ h => h) (Or.inr ⟨by rfl, rfl⟩) ?_ ?_
                  rotate_left
                  ·simp only [Act.put, List.setIfInBounds_toArray, List.set_cons_zero, List.set_cons_succ, i64_w, i32_w]
                   rfl
                  refine pure_ (i := 15) (N := some 106) (v := undef) (a' := ?_) (bA 20 65535) rfl rfl (any_of HT_.out (by kernel_rfl)) (fun _ _ _ h => h) (Or.inr ⟨by rfl, rfl⟩) ?_ ?_
                  rotate_left
                  ·simp only [Act.put, List.setIfInBounds_toArray, List.set_cons_zero, List.set_cons_succ, i64_w, i32_w]
                   rfl
                  refine pure_ (i := 16) (N := some 107) (v := undef) (a' := ?_) (bA 20 131071) rfl rfl (any_of HT_.out (by kernel_rfl)) (fun _ _ _ h => h) (Or.inr ⟨by rfl, rfl⟩) ?_ ?_
                  rotate_left
                  ·simp only [Act.put, List.setIfInBounds_toArray, List.set_cons_zero, List.set_cons_succ, i64_w, i32_w]
                   rfl
                  refine pure_ (i := 17) (N := some 108) (v := undef) (a' := ?_) (bA 20 262143) rfl rfl (any_of HT_.out (by kernel_rfl)) (fun _ _ _ h => h) (Or.inr ⟨by rfl, rfl⟩) ?_ ?_
                  rotate_left
                  ·simp only [Act.put, List.setIfInBounds_toArray, List.set_cons_zero, List.set_cons_succ, i64_w, i32_w]
                   rfl
                  refine pure_ (i := 18) (N := some 109) (v := undef) (a' := ?_) (bA 20 524287) rfl rfl (any_of HT_.out (by kernel_rfl)) (fun _ _ _ h => h) (Or.inr ⟨by rfl, rfl⟩) ?_ ?_
                  rotate_left
                  ·simp only [Act.put, List.setIfInBounds_toArray, List.set_cons_zero, List.set_cons_succ, i64_w, i32_w]
                   rfl
                  refine pure_ (i := 19) (N := some 110) (v := ?_) (a' := ?_) (bA 20 1048575) rfl rfl (any_of HT_.out (by kernel_rfl)) (fun _ _ _ h => h) (Or.inl ⟨by rfl, ?_⟩) ?_ ?_
                  rotate_left
                  ·intro w'
                   go_simp
                   with_reducible rfl
                  rotate_left
                  ·simp only [Act.put, List.setIfInBounds_toArray, List.set_cons_zero, List.set_cons_succ, i64_w, i32_w]
                   rfl
                  refine done_ (done_of HT_.out (by kernel_rfl)) ?_
                  try go_wp2
                  go_ret2
                  exact ⟨_, by first | rfl | (simp [errW_none, errW_some] <;> rfl) | (simp only [← hji21, ← hji23, ← hji25, ← hji27]; first | rfl | (simp [errW_none, errW_some] <;> rfl)) | (simp [*, errW_none, errW_some] <;> rfl), by first | exact Kd.R_nil _ _ _ _ _ | exact Kd.N_nil _ _ _ _ _ | exact Kd.V_nil _ _ _ _ _ | exact Kd.Q_nil _ _ _ _ _ | exact Kd.S_nil _ _ _ _ _, (belS HB.out)⟩
                ·rw [if_neg c26] at H
                 exact absurd H (by simp)
               ·rw [if_neg c24] at H
                have c24b0 : ((ji23) == 1) = false := beq_eq_false_iff_ne.mpr c24
                have c24b1 : ((ji23) != 1) = true := bne_iff_ne.mpr c24
                replace H := Option.bind_eq_some_iff.mp H
                obtain ⟨t270, A640, H⟩ := H
                replace H : (if t270 = true then (if (x6_2.length : Int) > 0 then (if 0 ≤ (wrap64 ((x6_2.length : Int) - 1)) then (if (wrap64 ((x6_2.length : Int) - 1)) < (x6_2.length : Int) then (if ((rd_T26 x6_2 (wrap64 ((x6_2.length : Int) - 1))).f0) ≥ (wrap64 (IntKind.u64.wrap (Int.tdiv t255 16))) then (some (([] : List (S26)), false)) else (if x6_2.length < 8796093022208 then (marigraphref15_Parse.l0 kj13 l0 l1 (x6_2 ++ [(⟨wrap64 (IntKind.u64.wrap (Int.tdiv t255 16)), wrap64 (t258)⟩ : S26)]) (wrap64 (x7_2 + (wrap64 ((wrap64 (Int.tmod t255 16)) + 1)))) (wrap64 (x8_2 + 2))) else (none))) else (none)) else (none)) else (if x6_2.length < 8796093022208 then (marigraphref15_Parse.l0 kj13 l0 l1 (x6_2 ++ [(⟨wrap64 (IntKind.u64.wrap (Int.tdiv t255 16)), wrap64 (t258)⟩ : S26)]) (wrap64 (x7_2 + (wrap64 ((wrap64 (Int.tmod t255 16)) + 1)))) (wrap64 (x8_2 + 2))) else (none))) else (some (([] : List (S26)), false))) = some (r1, r2) := H
                have A64 := Aside0.mk A640
                clear A640
                by_cases c65 : t270 = true
                ·subst c65
                 have H1 : (if (x6_2.length : Int) > 0 then (if 0 ≤ (wrap64 ((x6_2.length : Int) - 1)) then (if (wrap64 ((x6_2.length : Int) - 1)) < (x6_2.length : Int) then (if ((rd_T26 x6_2 (wrap64 ((x6_2.length : Int) - 1))).f0) ≥ (wrap64 (IntKind.u64.wrap (Int.tdiv t255 16))) then (some (([] : List (S26)), false)) else (if x6_2.length < 8796093022208 then (marigraphref15_Parse.l0 kj13 l0 l1 (x6_2 ++ [(⟨wrap64 (IntKind.u64.wrap (Int.tdiv t255 16)), wrap64 (t258)⟩ : S26)]) (wrap64 (x7_2 + (wrap64 ((wrap64 (Int.tmod t255 16)) + 1)))) (wrap64 (x8_2 + 2))) else (none))) else (none)) else (none)) else (if x6_2.length < 8796093022208 then (marigraphref15_Parse.l0 kj13 l0 l1 (x6_2 ++ [(⟨wrap64 (IntKind.u64.wrap (Int.tdiv t255 16)), wrap64 (t258)⟩ : S26)]) (wrap64 (x7_2 + (wrap64 ((wrap64 (Int.tmod t255 16)) + 1)))) (wrap64 (x8_2 + 2))) else (none))) = some (r1, r2) := by rw [if_pos rfl] at H; exact H
                 clear H
                 have H := H1
                 clear H1
                 by_cases c66 : (x6_2.length : Int) > 0
                 ·rw [if_pos c66] at H
                  have c66b0 : decide (0 < (x6_2.length : Int)) = true := decide_eq_true c66
                  have c66b1 : decide (0 < x6_2.length) = true := decide_eq_true (by omega)
                  clear c66
                  obtain ⟨ji67, hji67⟩ : ∃ j_ : Int, (wrap64 ((x6_2.length : Int) - 1)) = j_ := ⟨_, rfl⟩
                  replace H : (if 0 ≤ (ji67) then (if (ji67) < (x6_2.length : Int) then (if ((rd_T26 x6_2 (ji67)).f0) ≥ (wrap64 (IntKind.u64.wrap (Int.tdiv t255 16))) then (some (([] : List (S26)), false)) else (if x6_2.length < 8796093022208 then (marigraphref15_Parse.l0 kj13 l0 l1 (x6_2 ++ [(⟨wrap64 (IntKind.u64.wrap (Int.tdiv t255 16)), wrap64 (t258)⟩ : S26)]) (wrap64 (x7_2 + (wrap64 ((wrap64 (Int.tmod t255 16)) + 1)))) (wrap64 (x8_2 + 2))) else (none))) else (none)) else (none)) = some (r1, r2) := by first | (rw [hji67] at H; exact H) | (simp only [hji67] at H ⊢; exact H)
                  (try rw [hji67] at A64)
                  have hji67w : (IntKind.i64.wrap ((x6_2.length : Int) - 1)) = ji67 := (i64_w _).trans hji67
                  by_cases c68 : 0 ≤ (ji67)
                  ·rw [if_pos c68] at H
                   have c68b0 : decide (0 ≤ (ji67)) = true := decide_eq_true c68
                   clear c68
                   by_cases c69 : (ji67) < (x6_2.length : Int)
                   ·rw [if_pos c69] at H
                    have c69b0 : decide ((ji67) < (x6_2.length : Int)) = true := decide_eq_true c69
                    clear c69
                    by_cases c70 : ((rd_T26 x6_2 (ji67)).f0) ≥ (wrap64 (IntKind.u64.wrap (Int.tdiv t255 16)))
                    ·rw [if_pos c70] at H
                     have c70b0 : decide ((wrap64 (IntKind.u64.wrap (Int.tdiv t255 16))) ≤ ((rd_T26 x6_2 (ji67)).f0)) = true := decide_eq_true c70
                     clear c70
                     simp only [Option.some.injEq, Prod.mk.injEq] at H
                     obtain ⟨rfl, rfl⟩ := H
                     try go_wp2_with (first | ((with_reducible refine gate_dst (N := 15) rfl ?_); (try (refine gate_guard (by rfl) ?_; dsimp only)); refine box_event ?hg (N := 15) ?hd (cs := #[.int .i64 0, .int .i64 0]) (t := 26) ?hr ?_; (case hd => rfl); (case hg => rfl); (case hr => first | (go_simp; done) | (go_simp; rfl)); intro gb269 hg w71 hbox hb; have n0_ := Aside0.mk (Kd.R_below (Kd.R_elderB (rowN HO_6.out) gb269 (Nat.le_of_eq hg.symm)) hb); have n1_ := Aside0.mk (below_step (belN HB.out) hb); have n2_ := Aside0.mk (hbox); have n3_ := Aside0.mk (szB hg HB.out); have n4_ := Aside0.mk (szB hg HB.out); clear HO_6; clear HB; have HO_6 := n0_; have HB := n1_; have BK269 := n2_; have GW269 := n3_; have GE269 := n4_; clear n0_ n1_ n2_ n3_ n4_; clear hb hbox hg; have hcz72_0 : w71.cell? ⟨gb269, 0, none⟩ = some (.int .i64 0) := (blk_cell BK269.out 0).trans rfl; have hcz72_1 : w71.cell? ⟨gb269, 1, none⟩ = some (.int .i64 0) := (blk_cell BK269.out 1).trans rfl; have hfz72_0 := blk_frozen BK269.out 0; have hfz72_1 := blk_frozen BK269.out 1))
                     have n0_ : Aside0 (Kd.R k26 26 ((w71.setCell ⟨gb269, 0, none⟩ (.int .i64 (wrap64 (IntKind.u64.wrap (Int.tdiv t255 16))))).setCell ⟨gb269, 1, none⟩ (.int .i64 (wrap64 (t258)))) w.heap.size (fun k_ => k_ ≠ gb269) u6 x6_2) := ⟨by (with_reducible repeat (first | apply Kd.R_alloc | apply Kd.R_drewN | apply Kd.R_drew)); exact Kd.R_mono (Kd.R_far (p := ⟨gb269, 1, none⟩) (Kd.R_far (p := ⟨gb269, 0, none⟩) (Kd.R_mono HO_6.out (fun k_ hk => (⟨hk, hk.2⟩ : _ ∧ k_ ≠ gb269))) (fun _ hk => hk.2) (.int .i64 (wrap64 (IntKind.u64.wrap (Int.tdiv t255 16))))) (fun _ hk => hk.2) (.int .i64 (wrap64 (t258)))) (fun _ hk => hk.1.2)⟩
                     have n1_ : Aside0 (((w71.setCell ⟨gb269, 0, none⟩ (.int .i64 (wrap64 (IntKind.u64.wrap (Int.tdiv t255 16))))).setCell ⟨gb269, 1, none⟩ (.int .i64 (wrap64 (t258)))).heap[gb269]? = some (.cells #[.int .i64 (wrap64 (IntKind.u64.wrap (Int.tdiv t255 16))), .int .i64 (wrap64 (t258))] 26 (0, 0))) := ⟨by (with_reducible repeat (first | refine blk_drewN ?_ _ | refine blk_drew ?_ | refine blk_alloc ?_ _)); refine blk_put (cs := #[.int .i64 (wrap64 (IntKind.u64.wrap (Int.tdiv t255 16))), .int .i64 0]) ?_ 1 _ rfl; (with_reducible repeat (first | refine blk_drewN ?_ _ | refine blk_drew ?_ | refine blk_alloc ?_ _)); refine blk_put (cs := #[.int .i64 0, .int .i64 0]) ?_ 0 _ rfl; (with_reducible repeat (first | refine blk_drewN ?_ _ | refine blk_drew ?_ | refine blk_alloc ?_ _)); exact BK269.out⟩
                     have n2_ : Aside0 (Below w.heap.size w ((w71.setCell ⟨gb269, 0, none⟩ (.int .i64 (wrap64 (IntKind.u64.wrap (Int.tdiv t255 16))))).setCell ⟨gb269, 1, none⟩ (.int .i64 (wrap64 (t258))))) := ⟨(belS HB.out)⟩
                     (try clear HO_6)
                     (try clear BK269)
                     (try clear HB)
                     generalize ((w71.setCell ⟨gb269, 0, none⟩ (.int .i64 (wrap64 (IntKind.u64.wrap (Int.tdiv t255 16))))).setCell ⟨gb269, 1, none⟩ (.int .i64 (wrap64 (t258)))) = w73 at n0_ n1_ n2_ ⊢
                     have HO_6 := n0_
                     have BK269 := n1_
                     have HB := n2_
                     clear n0_ n1_ n2_
                     have n0_ := Aside0.mk (Kd.R_drew HO_6.out)
                     have n1_ := Aside0.mk (blk_drew BK269.out)
                     have n2_ := Aside0.mk (below_drew1 HB.out)
                     clear HO_6
                     clear BK269
                     clear HB
                     have HO_6 := n0_
                     have BK269 := n1_
                     have HB := n2_
                     clear n0_ n1_ n2_
                     obtain ⟨Ao76, co76, eo76⟩ := Kd.R_slice HO_6.out
                     (first | subst eo76 | (injection eo76 with f1_ f2_ f3_; have f4_ := f1_.symm; have f5_ := f3_.symm; clear f1_ f2_ f3_; subst f4_; subst f5_))
                     have p271 : 0 ≤ ((ji67) : Int) := of_decide_eq_true (by first | (with_reducible assumption) | assumption)
                     have q271 : (ji67) < (x6_2.length : Int) := of_decide_eq_true (by first | (with_reducible assumption) | assumption)
                     obtain ⟨ad271, e271, hx271_0, hx271_1⟩ := at_T26 (Kd.R_reads' HO_6.out).2.2 (ji67) p271 q271
                     cases e271
                     replace p271 := eq_true p271
                     replace q271 := eq_true q271
                     refine start_ (n := 20) (S := fun w' => w'.cell? ⟨gb269, 0, none⟩ = some (.int .i64 (wrap64 (IntKind.u64.wrap (Int.tdiv t255 16)))) ∧ w'.cell? ⟨gb269, 1, none⟩ = some (.int .i64 (wrap64 (t258))) ∧ w'.cell? (ad271.add (((ji67)).toNat * 2)) = some (.int .i64 ((rd_T26 x6_2 (ji67)).f0)) ∧ w'.cell? ⟨(ad271.add (((ji67)).toNat * 2)).block, (ad271.add (((ji67)).toNat * 2)).off + 1, none⟩ = some (.int .i64 ((rd_T26 x6_2 (ji67)).f1))) (ds := []) #[false, false, false, false, false, false, false, false, false, false, false, false, false, false, false, false, false, false, false, false] (by kernel_rfl) rfl rfl ⟨(blk_cell BK269.out 0).trans rfl, (blk_cell BK269.out 1).trans rfl, hx271_0, hx271_1⟩ (fun hHeld => ?_); refine with_tabW marigraphref15_Parse.tab17 marigraphref15_Parse.bits17 (fun HT_ HW_ => ?_)
                     generalize w73.drew = w74 at HO_6 BK269 HB hx271_0 hx271_1 hHeld ⊢
                     refine take_ (i := 0) (N := some 91) (v := ?_) (a' := ?_) (bA 20 1) rfl rfl (take_ofW HT_.out HW_.out (by kernel_rfl)) (fun _ _ _ h => h) (Or.inl ⟨by rfl, ?_⟩) hHeld ?_ ?_
                     rotate_left
                     ·rintro w' ⟨s0, s1, s2, s3⟩
                      go_simp
                      with_reducible rfl
                     rotate_left
                     ·simp only [Act.put, List.setIfInBounds_toArray, List.set_cons_zero, List.set_cons_succ, i64_w, i32_w]
                      rfl
                     refine one_ (i := 1) (N := some 92) (bA 20 3) rfl rfl (one_of HT_.out (by kernel_rfl)) (by decide) (fun K hK => ?_)
                     refine goes_ Try.func56 (by kernel_rfl) rfl #[.agg #[.int .i64 (wrap64 (IntKind.u64.wrap (Int.tdiv t255 16))), .int .i64 (wrap64 (t258))]] (by rfl) rfl rfl argN ?_
                     with_reducible refine (marigraphref15_May.calls (wrap64 (IntKind.u64.wrap (Int.tdiv t255 16))) (wrap64 (t258)) true _ A64.out).mono ?_
                     rintro e w75 ⟨rfl, hb⟩
                     have HS2_ := (hb.cell (World.block_lt_of_cell? _ _ (hHeld.2.2.1))).trans (hHeld.2.2.1)
                     have HS3_ := (hb.cell (World.block_lt_of_cell? _ _ (hHeld.2.2.2))).trans (hHeld.2.2.2)
                     refine ⟨_, rfl, ?_⟩
                     have n0_ := Aside0.mk (Kd.R_below (rowN HO_6.out) hb)
                     have n1_ := Aside0.mk (bkB BK269.out hb)
                     have n2_ := Aside0.mk (below_step (belS HB.out) hb)
                     clear HO_6
                     clear BK269
                     clear HB
                     have HO_6 := n0_
                     have BK269 := n1_
                     have HB := n2_
                     clear n0_ n1_ n2_
                     (try clear hb)
                     (try clear hb2)
                     (try clear hk)
                     (try clear hi)
                     refine hK.out _ _ ⟨(blk_cell BK269.out 0).trans rfl, (blk_cell BK269.out 1).trans rfl, HS2_, HS3_⟩ (fun hHeld => ?_)
                     clear hK K
                     refine norm_ (a' := ?_) ?_ ?_
                     rotate_left
                     ·show Act.put _ (some 92) _ = _
                      simp only [Act.put, List.setIfInBounds_toArray, List.set_cons_zero, List.set_cons_succ, i64_w, i32_w]
                      rfl
                     refine pure_ (i := 2) (N := some 93) (v := ?_) (a' := ?_) (bA 20 7) rfl rfl (any_of HT_.out (by kernel_rfl)) (fun _ _ _ h => h) (Or.inl ⟨by rfl, ?_⟩) ?_ ?_
                     rotate_left
                     ·intro w'
                      go_simp
                      with_reducible rfl
                     rotate_left
                     ·simp only [Act.put, List.setIfInBounds_toArray, List.set_cons_zero, List.set_cons_succ, i64_w, i32_w]
                      rfl
                     refine pure_ (i := 3) (N := some 94) (v := ?_) (a' := ?_) (bA 20 15) rfl rfl (any_of HT_.out (by kernel_rfl)) (fun _ _ _ h => h) (Or.inl ⟨by rfl, ?_⟩) ?_ ?_
                     rotate_left
                     ·intro w'
                      go_simp
                      with_reducible rfl
                     rotate_left
                     ·simp only [Act.put, List.setIfInBounds_toArray, List.set_cons_zero, List.set_cons_succ, i64_w, i32_w]
                      rfl
                     refine pure_ (i := 4) (N := some 95) (v := ?_) (a' := ?_) (bA 20 31) rfl rfl (any_of HT_.out (by kernel_rfl)) (fun _ _ _ h => h) (Or.inl ⟨by rfl, ?_⟩) ?_ ?_
                     rotate_left
                     ·intro w'
                      go_simp
                      with_reducible rfl
                     rotate_left
                     ·simp only [Act.put, List.setIfInBounds_toArray, List.set_cons_zero, List.set_cons_succ, i64_w, i32_w]
                      rfl
                     refine pure_ (i := 5) (N := some 96) (v := ?_) (a' := ?_) (bA 20 63) rfl rfl (any_of HT_.out (by kernel_rfl)) (fun _ _ _ h => h) (Or.inl ⟨by rfl, ?_⟩) ?_ ?_
                     rotate_left
                     ·intro w'
                      go_simp
                      with_reducible rfl
                     rotate_left
                     ·simp only [Act.put, List.setIfInBounds_toArray, List.set_cons_zero, List.set_cons_succ, i64_w, i32_w]
                      rfl
                     refine pure_ (i := 6) (N := some 97) (v := ?_) (a' := ?_) (bA 20 127) rfl rfl (any_of HT_.out (by kernel_rfl)) (fun _ _ _ h => h) (Or.inl ⟨by rfl, ?_⟩) ?_ ?_
                     rotate_left
                     ·intro w'
                      go_simp
                      with_reducible rfl
                     rotate_left
                     ·simp only [Act.put, List.setIfInBounds_toArray, List.set_cons_zero, List.set_cons_succ, i64_w, i32_w]
                      rfl
                     refine pure_ (i := 7) (N := some 98) (v := ?_) (a' := ?_) (bA 20 255) rfl rfl (any_of HT_.out (by kernel_rfl)) (fun _ _ _ h => h) (Or.inl ⟨by rfl, ?_⟩) ?_ ?_
                     rotate_left
                     ·intro w'
                      go_simp
                      with_reducible rfl
                     rotate_left
                     ·simp only [Act.put, List.setIfInBounds_toArray, List.set_cons_zero, List.set_cons_succ, i64_w, i32_w]
                      rfl
                     refine pure_ (i := 8) (N := some 99) (v := ?_) (a' := ?_) (bA 20 511) rfl rfl (any_of HT_.out (by kernel_rfl)) (fun _ _ _ h => h) (Or.inl ⟨by rfl, ?_⟩) ?_ ?_
                     rotate_left
                     ·intro w'
                      go_simp
                      with_reducible rfl
                     rotate_left
                     ·simp only [Act.put, List.setIfInBounds_toArray, List.set_cons_zero, List.set_cons_succ, i64_w, i32_w]
                      rfl
                     refine pure_ (i := 9) (N := some 100) (v := ?_) (a' := ?_) (bA 20 1023) rfl rfl (any_of HT_.out (by kernel_rfl)) (fun _ _ _ h => h) (Or.inl ⟨by rfl, ?_⟩) ?_ ?_
                     rotate_left
                     ·intro w'
                      go_simp
                      with_reducible rfl
                     rotate_left
                     ·simp only [Act.put, List.setIfInBounds_toArray, List.set_cons_zero, List.set_cons_succ, i64_w, i32_w]
                      rfl
                     refine pure_ (i := 10) (N := some 101) (v := ?_) (a' := ?_) (bA 20 2047) rfl rfl (any_of HT_.out (by kernel_rfl)) (fun _ _ _ h => h) (Or.inl ⟨by rfl, ?_⟩) ?_ ?_
                     rotate_left
                     ·intro w'
                      go_simp
                      with_reducible rfl
                     rotate_left
                     ·simp only [Act.put, List.setIfInBounds_toArray, List.set_cons_zero, List.set_cons_succ, i64_w, i32_w]
                      rfl
                     refine pure_ (i := 11) (N := some 102) (v := ?_) (a' := ?_) (bA 20 4095) rfl rfl (any_of HT_.out (by kernel_rfl)) (fun _ _ _ h => h) (Or.inl ⟨by rfl, ?_⟩) ?_ ?_
                     rotate_left
                     ·intro w'
                      go_simp
                      with_reducible rfl
                     rotate_left
                     ·simp only [Act.put, List.setIfInBounds_toArray, List.set_cons_zero, List.set_cons_succ, i64_w, i32_w]
                      rfl
                     refine pure_ (i := 12) (N := some 103) (v := ?_) (a' := ?_) (bA 20 8191) rfl rfl (any_of HT_.out (by kernel_rfl)) (fun _ _ _ h => h) (Or.inl ⟨by rfl, ?_⟩) ?_ ?_
                     rotate_left
                     ·intro w'
                      go_simp
                      with_reducible rfl
                     rotate_left
                     ·simp only [Act.put, List.setIfInBounds_toArray, List.set_cons_zero, List.set_cons_succ, i64_w, i32_w]
                      rfl
                     refine pure_ (i := 13) (N := some 104) (v := ?_) (a' := ?_) (bA 20 16383) rfl rfl (any_of HT_.out (by kernel_rfl)) (fun _ _ _ h => h) (Or.inl ⟨by rfl, ?_⟩) ?_ ?_
                     rotate_left
                     ·intro w'
                      go_simp
                      with_reducible rfl
                     rotate_left
                     ·simp only [Act.put, List.setIfInBounds_toArray, List.set_cons_zero, List.set_cons_succ, i64_w, i32_w]
                      rfl
                     refine pure_ (i := 15) (N := some 106) (v := ?_) (a' := ?_) (bA 20 49151) rfl rfl (any_of HT_.out (by kernel_rfl)) (fun _ _ _ h => h) (Or.inl ⟨by rfl, ?_⟩) ?_ ?_
                     rotate_left
                     ·intro w'
                      go_simp
                      with_reducible rfl
                     rotate_left
                     ·simp only [Act.put, List.setIfInBounds_toArray, List.set_cons_zero, List.set_cons_succ, i64_w, i32_w]
                      rfl
                     refine take_ (i := 14) (N := some 105) (v := ?_) (a' := ?_) (bA 20 65535) rfl rfl (take_ofW HT_.out HW_.out (by kernel_rfl)) (fun _ _ _ h => h) (Or.inl ⟨by rfl, ?_⟩) hHeld ?_ ?_
                     rotate_left
                     ·rintro w' ⟨s0, s1, s2, s3⟩
                      go_simp
                      with_reducible rfl
                     rotate_left
                     ·simp only [Act.put, List.setIfInBounds_toArray, List.set_cons_zero, List.set_cons_succ, i64_w, i32_w]
                      rfl
                     refine take_ (i := 16) (N := some 107) (v := ?_) (a' := ?_) (bA 20 131071) rfl rfl (take_ofW HT_.out HW_.out (by kernel_rfl)) (fun _ _ _ h => h) (Or.inl ⟨by rfl, ?_⟩) hHeld ?_ ?_
                     rotate_left
                     ·rintro w' ⟨s0, s1, s2, s3⟩
                      go_simp
                      with_reducible rfl
                     rotate_left
                     ·simp only [Act.put, List.setIfInBounds_toArray, List.set_cons_zero, List.set_cons_succ, i64_w, i32_w]
                      rfl
                     refine pure_ (i := 17) (N := some 108) (v := ?_) (a' := ?_) (bA 20 262143) rfl rfl (any_of HT_.out (by kernel_rfl)) (fun _ _ _ h => h) (Or.inl ⟨by rfl, ?_⟩) ?_ ?_
                     rotate_left
                     ·intro w'
                      go_simp
                      with_reducible rfl
                     rotate_left
                     ·simp only [Act.put, List.setIfInBounds_toArray, List.set_cons_zero, List.set_cons_succ, i64_w, i32_w]
                      rfl
                     refine pure_ (i := 18) (N := some 109) (v := ?_) (a' := ?_) (bA 20 524287) rfl rfl (any_of HT_.out (by kernel_rfl)) (fun _ _ _ h => h) (Or.inl ⟨by rfl, ?_⟩) ?_ ?_
                     rotate_left
                     ·intro w'
                      go_simp
                      with_reducible rfl
                     rotate_left
                     ·simp only [Act.put, List.setIfInBounds_toArray, List.set_cons_zero, List.set_cons_succ, i64_w, i32_w]
                      rfl
                     refine pure_ (i := 19) (N := some 110) (v := ?_) (a' := ?_) (bA 20 1048575) rfl rfl (any_of HT_.out (by kernel_rfl)) (fun _ _ _ h => h) (Or.inl ⟨by rfl, ?_⟩) ?_ ?_
                     rotate_left
                     ·intro w'
                      go_simp
                      with_reducible rfl
                     rotate_left
                     ·simp only [Act.put, List.setIfInBounds_toArray, List.set_cons_zero, List.set_cons_succ, i64_w, i32_w]
                      rfl
                     refine done_ (done_of HT_.out (by kernel_rfl)) ?_
                     try go_wp2
                     go_ret2
                     exact ⟨_, by first | rfl | (simp [errW_none, errW_some] <;> rfl) | (simp only [← hji21, ← hji23, ← hji67]; first | rfl | (simp [errW_none, errW_some] <;> rfl)) | (simp [*, errW_none, errW_some] <;> rfl), by first | exact Kd.R_nil _ _ _ _ _ | exact Kd.N_nil _ _ _ _ _ | exact Kd.V_nil _ _ _ _ _ | exact Kd.Q_nil _ _ _ _ _ | exact Kd.S_nil _ _ _ _ _, (belS HB.out)⟩
                    ·rw [if_neg c70] at H
                     have c70b0 : decide ((wrap64 (IntKind.u64.wrap (Int.tdiv t255 16))) ≤ ((rd_T26 x6_2 (ji67)).f0)) = false := decide_eq_false c70
                     clear c70
                     by_cases c77 : x6_2.length < 8796093022208
                     ·rw [if_pos c77] at H
                      have LMc77 := Aside0.mk c77
                      clear c77
                      obtain ⟨y272, hy272⟩ : ∃ y_ : List (S26), y_ = (x6_2 ++ [(⟨wrap64 (IntKind.u64.wrap (Int.tdiv t255 16)), wrap64 (t258)⟩ : S26)]) := ⟨_, rfl⟩
                      replace H : (marigraphref15_Parse.l0 kj13 l0 l1 y272 (wrap64 (x7_2 + (wrap64 ((wrap64 (Int.tmod t255 16)) + 1)))) (wrap64 (x8_2 + 2))) = some (r1, r2) := by first | (rw [hy272]; with_reducible exact H) | (have H2_ := (Option.bind_some _ _).symm.trans H; rw [hy272]; with_reducible exact H2_) | (have H2_ := (Option.bind_some _ _).symm.trans H; with_reducible exact H2_) | with_reducible exact H | (rw [hy272]; exact H) | exact H
                      have Ny272 := Aside0.mk hy272
                      clear hy272
                      have H' := Aside0.mk H
                      clear H
                      try go_wp2_with (first | ((with_reducible refine gate_dst (N := 15) rfl ?_); (try (refine gate_guard (by rfl) ?_; dsimp only)); refine box_event ?hg (N := 15) ?hd (cs := #[.int .i64 0, .int .i64 0]) (t := 26) ?hr ?_; (case hd => rfl); (case hg => rfl); (case hr => first | (go_simp; done) | (go_simp; rfl)); intro gb269 hg w78 hbox hb; have n0_ := Aside0.mk (Kd.R_below (Kd.R_elderB (rowN HO_6.out) gb269 (Nat.le_of_eq hg.symm)) hb); have n1_ := Aside0.mk (below_step (belN HB.out) hb); have n2_ := Aside0.mk (hbox); have n3_ := Aside0.mk (szB hg HB.out); have n4_ := Aside0.mk (szB hg HB.out); clear HO_6; clear HB; have HO_6 := n0_; have HB := n1_; have BK269 := n2_; have GW269 := n3_; have GE269 := n4_; clear n0_ n1_ n2_ n3_ n4_; clear hb hbox hg; have hcz79_0 : w78.cell? ⟨gb269, 0, none⟩ = some (.int .i64 0) := (blk_cell BK269.out 0).trans rfl; have hcz79_1 : w78.cell? ⟨gb269, 1, none⟩ = some (.int .i64 0) := (blk_cell BK269.out 1).trans rfl; have hfz79_0 := blk_frozen BK269.out 0; have hfz79_1 := blk_frozen BK269.out 1))
                      have n0_ : Aside0 (Kd.R k26 26 ((w78.setCell ⟨gb269, 0, none⟩ (.int .i64 (wrap64 (IntKind.u64.wrap (Int.tdiv t255 16))))).setCell ⟨gb269, 1, none⟩ (.int .i64 (wrap64 (t258)))) w.heap.size (fun k_ => k_ ≠ gb269) u6 x6_2) := ⟨by (with_reducible repeat (first | apply Kd.R_alloc | apply Kd.R_drewN | apply Kd.R_drew)); exact Kd.R_mono (Kd.R_far (p := ⟨gb269, 1, none⟩) (Kd.R_far (p := ⟨gb269, 0, none⟩) (Kd.R_mono HO_6.out (fun k_ hk => (⟨hk, hk.2⟩ : _ ∧ k_ ≠ gb269))) (fun _ hk => hk.2) (.int .i64 (wrap64 (IntKind.u64.wrap (Int.tdiv t255 16))))) (fun _ hk => hk.2) (.int .i64 (wrap64 (t258)))) (fun _ hk => hk.1.2)⟩
                      have n1_ : Aside0 (((w78.setCell ⟨gb269, 0, none⟩ (.int .i64 (wrap64 (IntKind.u64.wrap (Int.tdiv t255 16))))).setCell ⟨gb269, 1, none⟩ (.int .i64 (wrap64 (t258)))).heap[gb269]? = some (.cells #[.int .i64 (wrap64 (IntKind.u64.wrap (Int.tdiv t255 16))), .int .i64 (wrap64 (t258))] 26 (0, 0))) := ⟨by (with_reducible repeat (first | refine blk_drewN ?_ _ | refine blk_drew ?_ | refine blk_alloc ?_ _)); refine blk_put (cs := #[.int .i64 (wrap64 (IntKind.u64.wrap (Int.tdiv t255 16))), .int .i64 0]) ?_ 1 _ rfl; (with_reducible repeat (first | refine blk_drewN ?_ _ | refine blk_drew ?_ | refine blk_alloc ?_ _)); refine blk_put (cs := #[.int .i64 0, .int .i64 0]) ?_ 0 _ rfl; (with_reducible repeat (first | refine blk_drewN ?_ _ | refine blk_drew ?_ | refine blk_alloc ?_ _)); exact BK269.out⟩
                      have n2_ : Aside0 (Below w.heap.size w ((w78.setCell ⟨gb269, 0, none⟩ (.int .i64 (wrap64 (IntKind.u64.wrap (Int.tdiv t255 16))))).setCell ⟨gb269, 1, none⟩ (.int .i64 (wrap64 (t258))))) := ⟨(belS HB.out)⟩
                      (try clear HO_6)
                      (try clear BK269)
                      (try clear HB)
                      generalize ((w78.setCell ⟨gb269, 0, none⟩ (.int .i64 (wrap64 (IntKind.u64.wrap (Int.tdiv t255 16))))).setCell ⟨gb269, 1, none⟩ (.int .i64 (wrap64 (t258)))) = w80 at n0_ n1_ n2_ ⊢
                      have HO_6 := n0_
                      have BK269 := n1_
                      have HB := n2_
                      clear n0_ n1_ n2_
                      have n0_ := Aside0.mk (Kd.R_drew HO_6.out)
                      have n1_ := Aside0.mk (blk_drew BK269.out)
                      have n2_ := Aside0.mk (below_drew1 HB.out)
                      clear HO_6
                      clear BK269
                      clear HB
                      have HO_6 := n0_
                      have BK269 := n1_
                      have HB := n2_
                      clear n0_ n1_ n2_
                      obtain ⟨Ao83, co83, eo83⟩ := Kd.R_slice HO_6.out
                      (first | subst eo83 | (injection eo83 with f1_ f2_ f3_; have f4_ := f1_.symm; have f5_ := f3_.symm; clear f1_ f2_ f3_; subst f4_; subst f5_))
                      have p271 : 0 ≤ ((ji67) : Int) := of_decide_eq_true (by first | (with_reducible assumption) | assumption)
                      have q271 : (ji67) < (x6_2.length : Int) := of_decide_eq_true (by first | (with_reducible assumption) | assumption)
                      obtain ⟨ad271, e271, hx271_0, hx271_1⟩ := at_T26 (Kd.R_reads' HO_6.out).2.2 (ji67) p271 q271
                      cases e271
                      replace p271 := eq_true p271
                      replace q271 := eq_true q271
                      refine start_ (n := 20) (S := fun w' => w'.cell? ⟨gb269, 0, none⟩ = some (.int .i64 (wrap64 (IntKind.u64.wrap (Int.tdiv t255 16)))) ∧ w'.cell? ⟨gb269, 1, none⟩ = some (.int .i64 (wrap64 (t258))) ∧ w'.cell? (ad271.add (((ji67)).toNat * 2)) = some (.int .i64 ((rd_T26 x6_2 (ji67)).f0)) ∧ w'.cell? ⟨(ad271.add (((ji67)).toNat * 2)).block, (ad271.add (((ji67)).toNat * 2)).off + 1, none⟩ = some (.int .i64 ((rd_T26 x6_2 (ji67)).f1))) (ds := []) #[false, false, false, false, false, false, false, false, false, false, false, false, false, false, false, false, false, false, false, false] (by kernel_rfl) rfl rfl ⟨(blk_cell BK269.out 0).trans rfl, (blk_cell BK269.out 1).trans rfl, hx271_0, hx271_1⟩ (fun hHeld => ?_); refine with_tabW marigraphref15_Parse.tab17 marigraphref15_Parse.bits17 (fun HT_ HW_ => ?_)
                      generalize w80.drew = w81 at HO_6 BK269 HB hx271_0 hx271_1 hHeld ⊢
                      refine take_ (i := 0) (N := some 91) (v := ?_) (a' := ?_) (bA 20 1) rfl rfl (take_ofW HT_.out HW_.out (by kernel_rfl)) (fun _ _ _ h => h) (Or.inl ⟨by rfl, ?_⟩) hHeld ?_ ?_
                      rotate_left
                      ·rintro w' ⟨s0, s1, s2, s3⟩
                       go_simp
                       with_reducible rfl
                      rotate_left
                      ·simp only [Act.put, List.setIfInBounds_toArray, List.set_cons_zero, List.set_cons_succ, i64_w, i32_w]
                       rfl
                      refine one_ (i := 1) (N := some 92) (bA 20 3) rfl rfl (one_of HT_.out (by kernel_rfl)) (by decide) (fun K hK => ?_)
                      refine goes_ Try.func56 (by kernel_rfl) rfl #[.agg #[.int .i64 (wrap64 (IntKind.u64.wrap (Int.tdiv t255 16))), .int .i64 (wrap64 (t258))]] (by rfl) rfl rfl argN ?_
                      with_reducible refine (marigraphref15_May.calls (wrap64 (IntKind.u64.wrap (Int.tdiv t255 16))) (wrap64 (t258)) true _ A64.out).mono ?_
                      rintro e w82 ⟨rfl, hb⟩
                      have HS2_ := (hb.cell (World.block_lt_of_cell? _ _ (hHeld.2.2.1))).trans (hHeld.2.2.1)
                      have HS3_ := (hb.cell (World.block_lt_of_cell? _ _ (hHeld.2.2.2))).trans (hHeld.2.2.2)
                      refine ⟨_, rfl, ?_⟩
                      have n0_ := Aside0.mk (Kd.R_below (rowN HO_6.out) hb)
                      have n1_ := Aside0.mk (bkB BK269.out hb)
                      have n2_ := Aside0.mk (below_step (belS HB.out) hb)
                      clear HO_6
                      clear BK269
                      clear HB
                      have HO_6 := n0_
                      have BK269 := n1_
                      have HB := n2_
                      clear n0_ n1_ n2_
                      (try clear hb)
                      (try clear hb2)
                      (try clear hk)
                      (try clear hi)
                      refine hK.out _ _ ⟨(blk_cell BK269.out 0).trans rfl, (blk_cell BK269.out 1).trans rfl, HS2_, HS3_⟩ (fun hHeld => ?_)
                      clear hK K
                      refine norm_ (a' := ?_) ?_ ?_
                      rotate_left
                      ·show Act.put _ (some 92) _ = _
                       simp only [Act.put, List.setIfInBounds_toArray, List.set_cons_zero, List.set_cons_succ, i64_w, i32_w]
                       rfl
                      refine pure_ (i := 2) (N := some 93) (v := ?_) (a' := ?_) (bA 20 7) rfl rfl (any_of HT_.out (by kernel_rfl)) (fun _ _ _ h => h) (Or.inl ⟨by rfl, ?_⟩) ?_ ?_
                      rotate_left
                      ·intro w'
                       go_simp
                       with_reducible rfl
                      rotate_left
                      ·simp only [Act.put, List.setIfInBounds_toArray, List.set_cons_zero, List.set_cons_succ, i64_w, i32_w]
                       rfl
                      refine pure_ (i := 3) (N := some 94) (v := ?_) (a' := ?_) (bA 20 15) rfl rfl (any_of HT_.out (by kernel_rfl)) (fun _ _ _ h => h) (Or.inl ⟨by rfl, ?_⟩) ?_ ?_
                      rotate_left
                      ·intro w'
                       go_simp
                       with_reducible rfl
                      rotate_left
                      ·simp only [Act.put, List.setIfInBounds_toArray, List.set_cons_zero, List.set_cons_succ, i64_w, i32_w]
                       rfl
                      refine pure_ (i := 4) (N := some 95) (v := ?_) (a' := ?_) (bA 20 31) rfl rfl (any_of HT_.out (by kernel_rfl)) (fun _ _ _ h => h) (Or.inl ⟨by rfl, ?_⟩) ?_ ?_
                      rotate_left
                      ·intro w'
                       go_simp
                       with_reducible rfl
                      rotate_left
                      ·simp only [Act.put, List.setIfInBounds_toArray, List.set_cons_zero, List.set_cons_succ, i64_w, i32_w]
                       rfl
                      refine pure_ (i := 5) (N := some 96) (v := ?_) (a' := ?_) (bA 20 63) rfl rfl (any_of HT_.out (by kernel_rfl)) (fun _ _ _ h => h) (Or.inl ⟨by rfl, ?_⟩) ?_ ?_
                      rotate_left
                      ·intro w'
                       go_simp
                       with_reducible rfl
                      rotate_left
                      ·simp only [Act.put, List.setIfInBounds_toArray, List.set_cons_zero, List.set_cons_succ, i64_w, i32_w]
                       rfl
                      refine pure_ (i := 6) (N := some 97) (v := ?_) (a' := ?_) (bA 20 127) rfl rfl (any_of HT_.out (by kernel_rfl)) (fun _ _ _ h => h) (Or.inl ⟨by rfl, ?_⟩) ?_ ?_
                      rotate_left
                      ·intro w'
                       go_simp
                       with_reducible rfl
                      rotate_left
                      ·simp only [Act.put, List.setIfInBounds_toArray, List.set_cons_zero, List.set_cons_succ, i64_w, i32_w]
                       rfl
                      refine pure_ (i := 7) (N := some 98) (v := ?_) (a' := ?_) (bA 20 255) rfl rfl (any_of HT_.out (by kernel_rfl)) (fun _ _ _ h => h) (Or.inl ⟨by rfl, ?_⟩) ?_ ?_
                      rotate_left
                      ·intro w'
                       go_simp
                       with_reducible rfl
                      rotate_left
                      ·simp only [Act.put, List.setIfInBounds_toArray, List.set_cons_zero, List.set_cons_succ, i64_w, i32_w]
                       rfl
                      refine pure_ (i := 8) (N := some 99) (v := ?_) (a' := ?_) (bA 20 511) rfl rfl (any_of HT_.out (by kernel_rfl)) (fun _ _ _ h => h) (Or.inl ⟨by rfl, ?_⟩) ?_ ?_
                      rotate_left
                      ·intro w'
                       go_simp
                       with_reducible rfl
                      rotate_left
                      ·simp only [Act.put, List.setIfInBounds_toArray, List.set_cons_zero, List.set_cons_succ, i64_w, i32_w]
                       rfl
                      refine pure_ (i := 9) (N := some 100) (v := ?_) (a' := ?_) (bA 20 1023) rfl rfl (any_of HT_.out (by kernel_rfl)) (fun _ _ _ h => h) (Or.inl ⟨by rfl, ?_⟩) ?_ ?_
                      rotate_left
                      ·intro w'
                       go_simp
                       with_reducible rfl
                      rotate_left
                      ·simp only [Act.put, List.setIfInBounds_toArray, List.set_cons_zero, List.set_cons_succ, i64_w, i32_w]
                       rfl
                      refine pure_ (i := 10) (N := some 101) (v := ?_) (a' := ?_) (bA 20 2047) rfl rfl (any_of HT_.out (by kernel_rfl)) (fun _ _ _ h => h) (Or.inl ⟨by rfl, ?_⟩) ?_ ?_
                      rotate_left
                      ·intro w'
                       go_simp
                       with_reducible rfl
                      rotate_left
                      ·simp only [Act.put, List.setIfInBounds_toArray, List.set_cons_zero, List.set_cons_succ, i64_w, i32_w]
                       rfl
                      refine pure_ (i := 11) (N := some 102) (v := ?_) (a' := ?_) (bA 20 4095) rfl rfl (any_of HT_.out (by kernel_rfl)) (fun _ _ _ h => h) (Or.inl ⟨by rfl, ?_⟩) ?_ ?_
                      rotate_left
                      ·intro w'
                       go_simp
                       with_reducible rfl
                      rotate_left
                      ·simp only [Act.put, List.setIfInBounds_toArray, List.set_cons_zero, List.set_cons_succ, i64_w, i32_w]
                       rfl
                      refine pure_ (i := 12) (N := some 103) (v := ?_) (a' := ?_) (bA 20 8191) rfl rfl (any_of HT_.out (by kernel_rfl)) (fun _ _ _ h => h) (Or.inl ⟨by rfl, ?_⟩) ?_ ?_
                      rotate_left
                      ·intro w'
                       go_simp
                       with_reducible rfl
                      rotate_left
                      ·simp only [Act.put, List.setIfInBounds_toArray, List.set_cons_zero, List.set_cons_succ, i64_w, i32_w]
                       rfl
                      refine pure_ (i := 13) (N := some 104) (v := ?_) (a' := ?_) (bA 20 16383) rfl rfl (any_of HT_.out (by kernel_rfl)) (fun _ _ _ h => h) (Or.inl ⟨by rfl, ?_⟩) ?_ ?_
                      rotate_left
                      ·intro w'
                       go_simp
                       with_reducible rfl
                      rotate_left
                      ·simp only [Act.put, List.setIfInBounds_toArray, List.set_cons_zero, List.set_cons_succ, i64_w, i32_w]
                       rfl
                      refine pure_ (i := 15) (N := some 106) (v := ?_) (a' := ?_) (bA 20 49151) rfl rfl (any_of HT_.out (by kernel_rfl)) (fun _ _ _ h => h) (Or.inl ⟨by rfl, ?_⟩) ?_ ?_
                      rotate_left
                      ·intro w'
                       go_simp
                       with_reducible rfl
                      rotate_left
                      ·simp only [Act.put, List.setIfInBounds_toArray, List.set_cons_zero, List.set_cons_succ, i64_w, i32_w]
                       rfl
                      refine take_ (i := 14) (N := some 105) (v := ?_) (a' := ?_) (bA 20 65535) rfl rfl (take_ofW HT_.out HW_.out (by kernel_rfl)) (fun _ _ _ h => h) (Or.inl ⟨by rfl, ?_⟩) hHeld ?_ ?_
                      rotate_left
                      ·rintro w' ⟨s0, s1, s2, s3⟩
                       go_simp
                       with_reducible rfl
                      rotate_left
                      ·simp only [Act.put, List.setIfInBounds_toArray, List.set_cons_zero, List.set_cons_succ, i64_w, i32_w]
                       rfl
                      refine take_ (i := 16) (N := some 107) (v := ?_) (a' := ?_) (bA 20 131071) rfl rfl (take_ofW HT_.out HW_.out (by kernel_rfl)) (fun _ _ _ h => h) (Or.inl ⟨by rfl, ?_⟩) hHeld ?_ ?_
                      rotate_left
                      ·rintro w' ⟨s0, s1, s2, s3⟩
                       go_simp
                       with_reducible rfl
                      rotate_left
                      ·simp only [Act.put, List.setIfInBounds_toArray, List.set_cons_zero, List.set_cons_succ, i64_w, i32_w]
                       rfl
                      refine pure_ (i := 17) (N := some 108) (v := ?_) (a' := ?_) (bA 20 262143) rfl rfl (any_of HT_.out (by kernel_rfl)) (fun _ _ _ h => h) (Or.inl ⟨by rfl, ?_⟩) ?_ ?_
                      rotate_left
                      ·intro w'
                       go_simp
                       with_reducible rfl
                      rotate_left
                      ·simp only [Act.put, List.setIfInBounds_toArray, List.set_cons_zero, List.set_cons_succ, i64_w, i32_w]
                       rfl
                      refine pure_ (i := 18) (N := some 109) (v := ?_) (a' := ?_) (bA 20 524287) rfl rfl (any_of HT_.out (by kernel_rfl)) (fun _ _ _ h => h) (Or.inl ⟨by rfl, ?_⟩) ?_ ?_
                      rotate_left
                      ·intro w'
                       go_simp
                       with_reducible rfl
                      rotate_left
                      ·simp only [Act.put, List.setIfInBounds_toArray, List.set_cons_zero, List.set_cons_succ, i64_w, i32_w]
                       rfl
                      refine pure_ (i := 19) (N := some 110) (v := ?_) (a' := ?_) (bA 20 1048575) rfl rfl (any_of HT_.out (by kernel_rfl)) (fun _ _ _ h => h) (Or.inl ⟨by rfl, ?_⟩) ?_ ?_
                      rotate_left
                      ·intro w'
                       go_simp
                       with_reducible rfl
                      rotate_left
                      ·simp only [Act.put, List.setIfInBounds_toArray, List.set_cons_zero, List.set_cons_succ, i64_w, i32_w]
                       rfl
                      refine done_ (done_of HT_.out (by kernel_rfl)) ?_
                      have hcz84_0 : w82.cell? ⟨gb269, 0, none⟩ = some (.int .i64 (wrap64 (IntKind.u64.wrap (Int.tdiv t255 16)))) := (blk_cell BK269.out 0).trans rfl
                      have hcz84_1 : w82.cell? ⟨gb269, 1, none⟩ = some (.int .i64 (wrap64 (t258))) := (blk_cell BK269.out 1).trans rfl
                      have hfz84_0 := blk_frozen BK269.out 0
                      have hfz84_1 := blk_frozen BK269.out 1
                      try go_wp2_with (first | ((with_reducible refine gate_builtin (b := .append) (xs := #[.tmp 111, .tmp 113]) rfl ?_); (try (refine gate_guard (by rfl) ?_; dsimp only)); at_builtin; refine Kd.R_append k26 (w0 := w) w.heap.size rfl (.tmp 111) (.tmp 113) 28 26 (.agg #[(.int .i64 0), (.int .i64 0)]) 16 rfl Try.underlying28 info26 rfl (by decide) (by omega) (.slice (some ad271) x6_2.length co83) x6_2 (⟨wrap64 (IntKind.u64.wrap (Int.tdiv t255 16)), wrap64 (t258)⟩ : S26) [.int .i64 (wrap64 (IntKind.u64.wrap (Int.tdiv t255 16))), .int .i64 (wrap64 (t258))] (fun k_ => k_ ≠ gb269) (fun _ => False) rfl rfl ?aP (fun _ hk => hk.elim) ?aF ?aO ?aB ?aS ?aL ?_; (case aP => exact k26_mkM _ _ _ (⟨wrap64 (IntKind.u64.wrap (Int.tdiv t255 16)), wrap64 (t258)⟩ : S26)); (case aB => exact (belS HB.out)); (case aF => exact (fun k_ hk => Kd.freshB (g := gb269) (o := .cells #[.int .i64 (wrap64 (IntKind.u64.wrap (Int.tdiv t255 16))), .int .i64 (wrap64 (t258))] 26 (0, 0)) (blkN BK269.out) k_ hk)); (case aO => exact (rowN HO_6.out)); (case aS => exact (below_size (belS HB.out))); (case aL => have := LMc77.out; omega); intro v273 w85 ho hb hg hat; rw [← Ny272.out] at ho; have n0_ := Aside0.mk (blk_grown (g := gb269) (o := .cells #[.int .i64 (wrap64 (IntKind.u64.wrap (Int.tdiv t255 16))), .int .i64 (wrap64 (t258))] 26 (0, 0)) (blkN BK269.out) hg (Kd.R_away HO_6.out (fun _ hk => hk))); have n1_ := Aside0.mk (hb); have n2_ := Aside0.mk (ho); clear BK269; clear HB; clear HO_6; have BK269 := n0_; have HB := n1_; have HO274 := n2_; clear n0_ n1_ n2_; clear ho hb hg hat))
                      go_roundg kj13
                      case measure => have := HJ2.out; have := HK2.out; have := HJ13.out; omega
                      case rel => exact ⟨(y272), (wrap64 (x7_2 + (wrap64 ((wrap64 (Int.tmod t255 16)) + 1)))), (wrap64 (x8_2 + 2)), (by first | rfl | (simp; done) | (simp [*]; done)), (by first | rfl | (simp; done) | (simp [*]; done)), H', ⟨by have := HJ2.out; have := HK2.out; have := HJ13.out; omega⟩, ⟨by (with_reducible repeat (first | apply Kd.R_alloc | apply Kd.R_drewN | apply Kd.R_drew)); exact Kd.R_mono HO274.out (fun _ hk => trivial)⟩, ⟨(belS HB.out)⟩⟩
                     ·rw [if_neg c77] at H
                      exact absurd H (by simp)
                   ·rw [if_neg c69] at H
                    exact absurd H (by simp)
                  ·rw [if_neg c68] at H
                   exact absurd H (by simp)
                 ·rw [if_neg c66] at H
                  have c66b0 : decide (0 < (x6_2.length : Int)) = false := decide_eq_false c66
                  have c66b1 : decide (0 < x6_2.length) = false := decide_eq_false (by omega)
                  clear c66
                  by_cases c86 : x6_2.length < 8796093022208
                  ·rw [if_pos c86] at H
                   have LMc86 := Aside0.mk c86
                   clear c86
                   obtain ⟨y275, hy275⟩ : ∃ y_ : List (S26), y_ = (x6_2 ++ [(⟨wrap64 (IntKind.u64.wrap (Int.tdiv t255 16)), wrap64 (t258)⟩ : S26)]) := ⟨_, rfl⟩
                   replace H : (marigraphref15_Parse.l0 kj13 l0 l1 y275 (wrap64 (x7_2 + (wrap64 ((wrap64 (Int.tmod t255 16)) + 1)))) (wrap64 (x8_2 + 2))) = some (r1, r2) := by first | (rw [hy275]; with_reducible exact H) | (have H2_ := (Option.bind_some _ _).symm.trans H; rw [hy275]; with_reducible exact H2_) | (have H2_ := (Option.bind_some _ _).symm.trans H; with_reducible exact H2_) | with_reducible exact H | (rw [hy275]; exact H) | exact H
                   have Ny275 := Aside0.mk hy275
                   clear hy275
                   have H' := Aside0.mk H
                   clear H
                   try go_wp2_with (first | ((with_reducible refine gate_dst (N := 15) rfl ?_); (try (refine gate_guard (by rfl) ?_; dsimp only)); refine box_event ?hg (N := 15) ?hd (cs := #[.int .i64 0, .int .i64 0]) (t := 26) ?hr ?_; (case hd => rfl); (case hg => rfl); (case hr => first | (go_simp; done) | (go_simp; rfl)); intro gb269 hg w87 hbox hb; have n0_ := Aside0.mk (Kd.R_below (Kd.R_elderB (rowN HO_6.out) gb269 (Nat.le_of_eq hg.symm)) hb); have n1_ := Aside0.mk (below_step (belN HB.out) hb); have n2_ := Aside0.mk (hbox); have n3_ := Aside0.mk (szB hg HB.out); have n4_ := Aside0.mk (szB hg HB.out); clear HO_6; clear HB; have HO_6 := n0_; have HB := n1_; have BK269 := n2_; have GW269 := n3_; have GE269 := n4_; clear n0_ n1_ n2_ n3_ n4_; clear hb hbox hg; have hcz88_0 : w87.cell? ⟨gb269, 0, none⟩ = some (.int .i64 0) := (blk_cell BK269.out 0).trans rfl; have hcz88_1 : w87.cell? ⟨gb269, 1, none⟩ = some (.int .i64 0) := (blk_cell BK269.out 1).trans rfl; have hfz88_0 := blk_frozen BK269.out 0; have hfz88_1 := blk_frozen BK269.out 1))
                   have n0_ : Aside0 (Kd.R k26 26 ((w87.setCell ⟨gb269, 0, none⟩ (.int .i64 (wrap64 (IntKind.u64.wrap (Int.tdiv t255 16))))).setCell ⟨gb269, 1, none⟩ (.int .i64 (wrap64 (t258)))) w.heap.size (fun k_ => k_ ≠ gb269) u6 x6_2) := ⟨by (with_reducible repeat (first | apply Kd.R_alloc | apply Kd.R_drewN | apply Kd.R_drew)); exact Kd.R_mono (Kd.R_far (p := ⟨gb269, 1, none⟩) (Kd.R_far (p := ⟨gb269, 0, none⟩) (Kd.R_mono HO_6.out (fun k_ hk => (⟨hk, hk.2⟩ : _ ∧ k_ ≠ gb269))) (fun _ hk => hk.2) (.int .i64 (wrap64 (IntKind.u64.wrap (Int.tdiv t255 16))))) (fun _ hk => hk.2) (.int .i64 (wrap64 (t258)))) (fun _ hk => hk.1.2)⟩
                   have n1_ : Aside0 (((w87.setCell ⟨gb269, 0, none⟩ (.int .i64 (wrap64 (IntKind.u64.wrap (Int.tdiv t255 16))))).setCell ⟨gb269, 1, none⟩ (.int .i64 (wrap64 (t258)))).heap[gb269]? = some (.cells #[.int .i64 (wrap64 (IntKind.u64.wrap (Int.tdiv t255 16))), .int .i64 (wrap64 (t258))] 26 (0, 0))) := ⟨by (with_reducible repeat (first | refine blk_drewN ?_ _ | refine blk_drew ?_ | refine blk_alloc ?_ _)); refine blk_put (cs := #[.int .i64 (wrap64 (IntKind.u64.wrap (Int.tdiv t255 16))), .int .i64 0]) ?_ 1 _ rfl; (with_reducible repeat (first | refine blk_drewN ?_ _ | refine blk_drew ?_ | refine blk_alloc ?_ _)); refine blk_put (cs := #[.int .i64 0, .int .i64 0]) ?_ 0 _ rfl; (with_reducible repeat (first | refine blk_drewN ?_ _ | refine blk_drew ?_ | refine blk_alloc ?_ _)); exact BK269.out⟩
                   have n2_ : Aside0 (Below w.heap.size w ((w87.setCell ⟨gb269, 0, none⟩ (.int .i64 (wrap64 (IntKind.u64.wrap (Int.tdiv t255 16))))).setCell ⟨gb269, 1, none⟩ (.int .i64 (wrap64 (t258))))) := ⟨(belS HB.out)⟩
                   (try clear HO_6)
                   (try clear BK269)
                   (try clear HB)
                   generalize ((w87.setCell ⟨gb269, 0, none⟩ (.int .i64 (wrap64 (IntKind.u64.wrap (Int.tdiv t255 16))))).setCell ⟨gb269, 1, none⟩ (.int .i64 (wrap64 (t258)))) = w89 at n0_ n1_ n2_ ⊢
                   have HO_6 := n0_
                   have BK269 := n1_
                   have HB := n2_
                   clear n0_ n1_ n2_
                   have n0_ := Aside0.mk (Kd.R_drew HO_6.out)
                   have n1_ := Aside0.mk (blk_drew BK269.out)
                   have n2_ := Aside0.mk (below_drew1 HB.out)
                   clear HO_6
                   clear BK269
                   clear HB
                   have HO_6 := n0_
                   have BK269 := n1_
                   have HB := n2_
                   clear n0_ n1_ n2_
                   obtain ⟨Ao92, co92, eo92⟩ := Kd.R_slice HO_6.out
                   (first | subst eo92 | (injection eo92 with f1_ f2_ f3_; have f4_ := f1_.symm; have f5_ := f3_.symm; clear f1_ f2_ f3_; subst f4_; subst f5_))
                   refine start_ (n := 20) (S := fun w' => w'.cell? ⟨gb269, 0, none⟩ = some (.int .i64 (wrap64 (IntKind.u64.wrap (Int.tdiv t255 16)))) ∧ w'.cell? ⟨gb269, 1, none⟩ = some (.int .i64 (wrap64 (t258)))) (ds := []) #[false, false, false, false, false, false, false, false, false, false, false, false, false, false, false, false, false, false, false, false] (by kernel_rfl) rfl rfl ⟨(blk_cell BK269.out 0).trans rfl, (blk_cell BK269.out 1).trans rfl⟩ (fun hHeld => ?_); refine with_tabW marigraphref15_Parse.tab17 marigraphref15_Parse.bits17 (fun HT_ HW_ => ?_)
                   generalize w89.drew = w90 at HO_6 BK269 HB hHeld ⊢
                   refine take_ (i := 0) (N := some 91) (v := ?_) (a' := ?_) (bA 20 1) rfl rfl (take_ofW HT_.out HW_.out (by kernel_rfl)) (fun _ _ _ h => h) (Or.inl ⟨by rfl, ?_⟩) hHeld ?_ ?_
                   rotate_left
                   ·rintro w' ⟨s0, s1⟩
                    go_simp
                    with_reducible rfl
                   rotate_left
                   ·simp only [Act.put, List.setIfInBounds_toArray, List.set_cons_zero, List.set_cons_succ, i64_w, i32_w]
                    rfl
                   refine one_ (i := 1) (N := some 92) (bA 20 3) rfl rfl (one_of HT_.out (by kernel_rfl)) (by decide) (fun K hK => ?_)
                   refine goes_ Try.func56 (by kernel_rfl) rfl #[.agg #[.int .i64 (wrap64 (IntKind.u64.wrap (Int.tdiv t255 16))), .int .i64 (wrap64 (t258))]] (by rfl) rfl rfl argN ?_
                   with_reducible refine (marigraphref15_May.calls (wrap64 (IntKind.u64.wrap (Int.tdiv t255 16))) (wrap64 (t258)) true _ A64.out).mono ?_
                   rintro e w91 ⟨rfl, hb⟩
                   refine ⟨_, rfl, ?_⟩
                   have n0_ := Aside0.mk (Kd.R_below (rowN HO_6.out) hb)
                   have n1_ := Aside0.mk (bkB BK269.out hb)
                   have n2_ := Aside0.mk (below_step (belS HB.out) hb)
                   clear HO_6
                   clear BK269
                   clear HB
                   have HO_6 := n0_
                   have BK269 := n1_
                   have HB := n2_
                   clear n0_ n1_ n2_
                   (try clear hb)
                   (try clear hb2)
                   (try clear hk)
                   (try clear hi)
                   refine hK.out _ _ ⟨(blk_cell BK269.out 0).trans rfl, (blk_cell BK269.out 1).trans rfl⟩ (fun hHeld => ?_)
                   clear hK K
                   refine norm_ (a' := ?_) ?_ ?_
                   rotate_left
                   ·show Act.put _ (some 92) _ = _
                    simp only [Act.put, List.setIfInBounds_toArray, List.set_cons_zero, List.set_cons_succ, i64_w, i32_w]
                    rfl
                   refine pure_ (i := 2) (N := some 93) (v := ?_) (a' := ?_) (bA 20 7) rfl rfl (any_of HT_.out (by kernel_rfl)) (fun _ _ _ h => h) (Or.inl ⟨by rfl, ?_⟩) ?_ ?_
                   rotate_left
                   ·intro w'
                    go_simp
                    with_reducible rfl
                   rotate_left
                   ·simp only [Act.put, List.setIfInBounds_toArray, List.set_cons_zero, List.set_cons_succ, i64_w, i32_w]
                    rfl
                   refine pure_ (i := 3) (N := some 94) (v := ?_) (a' := ?_) (bA 20 15) rfl rfl (any_of HT_.out (by kernel_rfl)) (fun _ _ _ h => h) (Or.inl ⟨by rfl, ?_⟩) ?_ ?_
                   rotate_left
                   ·intro w'
                    go_simp
                    with_reducible rfl
                   rotate_left
                   ·simp only [Act.put, List.setIfInBounds_toArray, List.set_cons_zero, List.set_cons_succ, i64_w, i32_w]
                    rfl
                   refine pure_ (i := 4) (N := some 95) (v := ?_) (a' := ?_) (bA 20 31) rfl rfl (any_of HT_.out (by kernel_rfl)) (fun _ _ _ h => h) (Or.inl ⟨by rfl, ?_⟩) ?_ ?_
                   rotate_left
                   ·intro w'
                    go_simp
                    with_reducible rfl
                   rotate_left
                   ·simp only [Act.put, List.setIfInBounds_toArray, List.set_cons_zero, List.set_cons_succ, i64_w, i32_w]
                    rfl
                   refine pure_ (i := 5) (N := some 96) (v := ?_) (a' := ?_) (bA 20 63) rfl rfl (any_of HT_.out (by kernel_rfl)) (fun _ _ _ h => h) (Or.inl ⟨by rfl, ?_⟩) ?_ ?_
                   rotate_left
                   ·intro w'
                    go_simp
                    with_reducible rfl
                   rotate_left
                   ·simp only [Act.put, List.setIfInBounds_toArray, List.set_cons_zero, List.set_cons_succ, i64_w, i32_w]
                    rfl
                   refine pure_ (i := 6) (N := some 97) (v := ?_) (a' := ?_) (bA 20 127) rfl rfl (any_of HT_.out (by kernel_rfl)) (fun _ _ _ h => h) (Or.inl ⟨by rfl, ?_⟩) ?_ ?_
                   rotate_left
                   ·intro w'
                    go_simp
                    with_reducible rfl
                   rotate_left
                   ·simp only [Act.put, List.setIfInBounds_toArray, List.set_cons_zero, List.set_cons_succ, i64_w, i32_w]
                    rfl
                   refine pure_ (i := 7) (N := some 98) (v := ?_) (a' := ?_) (bA 20 255) rfl rfl (any_of HT_.out (by kernel_rfl)) (fun _ _ _ h => h) (Or.inl ⟨by rfl, ?_⟩) ?_ ?_
                   rotate_left
                   ·intro w'
                    go_simp
                    with_reducible rfl
                   rotate_left
                   ·simp only [Act.put, List.setIfInBounds_toArray, List.set_cons_zero, List.set_cons_succ, i64_w, i32_w]
                    rfl
                   refine pure_ (i := 8) (N := some 99) (v := undef) (a' := ?_) (bA 20 511) rfl rfl (any_of HT_.out (by kernel_rfl)) (fun _ _ _ h => h) (Or.inr ⟨by rfl, rfl⟩) ?_ ?_
                   rotate_left
                   ·simp only [Act.put, List.setIfInBounds_toArray, List.set_cons_zero, List.set_cons_succ, i64_w, i32_w]
                    rfl
                   refine pure_ (i := 9) (N := some 100) (v := undef) (a' := ?_) (bA 20 1023) rfl rfl (any_of HT_.out (by kernel_rfl)) (fun _ _ _ h => h) (Or.inr ⟨by rfl, rfl⟩) ?_ ?_
                   rotate_left
                   ·simp only [Act.put, List.setIfInBounds_toArray, List.set_cons_zero, List.set_cons_succ, i64_w, i32_w]
                    rfl
                   refine pure_ (i := 10) (N := some 101) (v := undef) (a' := ?_) (bA 20 2047) rfl rfl (any_of HT_.out (by kernel_rfl)) (fun _ _ _ h => h) (Or.inr ⟨by rfl, rfl⟩) ?_ ?_
                   rotate_left
                   ·simp only [Act.put, List.setIfInBounds_toArray, List.set_cons_zero, List.set_cons_succ, i64_w, i32_w]
                    rfl
                   refine pure_ (i := 11) (N := some 102) (v := undef) (a' := ?_) (bA 20 4095) rfl rfl (any_of HT_.out (by kernel_rfl)) (fun _ _ _ h => h) (Or.inr ⟨by rfl, rfl⟩) ?_ ?_
                   rotate_left
                   ·simp only [Act.put, List.setIfInBounds_toArray, List.set_cons_zero, List.set_cons_succ, i64_w, i32_w]
                    rfl
                   refine pure_ (i := 12) (N := some 103) (v := undef) (a' := ?_) (bA 20 8191) rfl rfl (any_of HT_.out (by kernel_rfl)) (fun _ _ _ h => h) (Or.inr ⟨by rfl, rfl⟩) ?_ ?_
                   rotate_left
                   ·simp only [Act.put, List.setIfInBounds_toArray, List.set_cons_zero, List.set_cons_succ, i64_w, i32_w]
                    rfl
                   refine pure_ (i := 13) (N := some 104) (v := undef) (a' := ?_) (bA 20 16383) rfl rfl (any_of HT_.out (by kernel_rfl)) (fun _ _ _ h => h) (Or.inr ⟨by rfl, rfl⟩) ?_ ?_
                   rotate_left
                   ·simp only [Act.put, List.setIfInBounds_toArray, List.set_cons_zero, List.set_cons_succ, i64_w, i32_w]
                    rfl
                   refine pure_ (i := 14) (N := some 105) (v := undef) (a' := ?_) (bA 20 32767) rfl rfl (any_of HT_.out (by kernel_rfl)) (fun _ _ _ h => h) (Or.inr ⟨by rfl, rfl⟩) ?_ ?_
                   rotate_left
                   ·simp only [Act.put, List.setIfInBounds_toArray, List.set_cons_zero, List.set_cons_succ, i64_w, i32_w]
                    rfl
                   refine pure_ (i := 15) (N := some 106) (v := undef) (a' := ?_) (bA 20 65535) rfl rfl (any_of HT_.out (by kernel_rfl)) (fun _ _ _ h => h) (Or.inr ⟨by rfl, rfl⟩) ?_ ?_
                   rotate_left
                   ·simp only [Act.put, List.setIfInBounds_toArray, List.set_cons_zero, List.set_cons_succ, i64_w, i32_w]
                    rfl
                   refine pure_ (i := 16) (N := some 107) (v := undef) (a' := ?_) (bA 20 131071) rfl rfl (any_of HT_.out (by kernel_rfl)) (fun _ _ _ h => h) (Or.inr ⟨by rfl, rfl⟩) ?_ ?_
                   rotate_left
                   ·simp only [Act.put, List.setIfInBounds_toArray, List.set_cons_zero, List.set_cons_succ, i64_w, i32_w]
                    rfl
                   refine pure_ (i := 17) (N := some 108) (v := undef) (a' := ?_) (bA 20 262143) rfl rfl (any_of HT_.out (by kernel_rfl)) (fun _ _ _ h => h) (Or.inr ⟨by rfl, rfl⟩) ?_ ?_
                   rotate_left
                   ·simp only [Act.put, List.setIfInBounds_toArray, List.set_cons_zero, List.set_cons_succ, i64_w, i32_w]
                    rfl
                   refine pure_ (i := 18) (N := some 109) (v := ?_) (a' := ?_) (bA 20 524287) rfl rfl (any_of HT_.out (by kernel_rfl)) (fun _ _ _ h => h) (Or.inl ⟨by rfl, ?_⟩) ?_ ?_
                   rotate_left
                   ·intro w'
                    go_simp
                    with_reducible rfl
                   rotate_left
                   ·simp only [Act.put, List.setIfInBounds_toArray, List.set_cons_zero, List.set_cons_succ, i64_w, i32_w]
                    rfl
                   refine pure_ (i := 19) (N := some 110) (v := ?_) (a' := ?_) (bA 20 1048575) rfl rfl (any_of HT_.out (by kernel_rfl)) (fun _ _ _ h => h) (Or.inl ⟨by rfl, ?_⟩) ?_ ?_
                   rotate_left
                   ·intro w'
                    go_simp
                    with_reducible rfl
                   rotate_left
                   ·simp only [Act.put, List.setIfInBounds_toArray, List.set_cons_zero, List.set_cons_succ, i64_w, i32_w]
                    rfl
                   refine done_ (done_of HT_.out (by kernel_rfl)) ?_
                   have hcz93_0 : w91.cell? ⟨gb269, 0, none⟩ = some (.int .i64 (wrap64 (IntKind.u64.wrap (Int.tdiv t255 16)))) := (blk_cell BK269.out 0).trans rfl
                   have hcz93_1 : w91.cell? ⟨gb269, 1, none⟩ = some (.int .i64 (wrap64 (t258))) := (blk_cell BK269.out 1).trans rfl
                   have hfz93_0 := blk_frozen BK269.out 0
                   have hfz93_1 := blk_frozen BK269.out 1
                   try go_wp2_with (first | ((with_reducible refine gate_builtin (b := .append) (xs := #[.tmp 111, .tmp 113]) rfl ?_); (try (refine gate_guard (by rfl) ?_; dsimp only)); at_builtin; refine Kd.R_append k26 (w0 := w) w.heap.size rfl (.tmp 111) (.tmp 113) 28 26 (.agg #[(.int .i64 0), (.int .i64 0)]) 16 rfl Try.underlying28 info26 rfl (by decide) (by omega) (.slice Ao92 x6_2.length co92) x6_2 (⟨wrap64 (IntKind.u64.wrap (Int.tdiv t255 16)), wrap64 (t258)⟩ : S26) [.int .i64 (wrap64 (IntKind.u64.wrap (Int.tdiv t255 16))), .int .i64 (wrap64 (t258))] (fun k_ => k_ ≠ gb269) (fun _ => False) rfl rfl ?aP (fun _ hk => hk.elim) ?aF ?aO ?aB ?aS ?aL ?_; (case aP => exact k26_mkM _ _ _ (⟨wrap64 (IntKind.u64.wrap (Int.tdiv t255 16)), wrap64 (t258)⟩ : S26)); (case aB => exact (belS HB.out)); (case aF => exact (fun k_ hk => Kd.freshB (g := gb269) (o := .cells #[.int .i64 (wrap64 (IntKind.u64.wrap (Int.tdiv t255 16))), .int .i64 (wrap64 (t258))] 26 (0, 0)) (blkN BK269.out) k_ hk)); (case aO => exact (rowN HO_6.out)); (case aS => exact (below_size (belS HB.out))); (case aL => have := LMc86.out; omega); intro v276 w94 ho hb hg hat; rw [← Ny275.out] at ho; have n0_ := Aside0.mk (blk_grown (g := gb269) (o := .cells #[.int .i64 (wrap64 (IntKind.u64.wrap (Int.tdiv t255 16))), .int .i64 (wrap64 (t258))] 26 (0, 0)) (blkN BK269.out) hg (Kd.R_away HO_6.out (fun _ hk => hk))); have n1_ := Aside0.mk (hb); have n2_ := Aside0.mk (ho); clear BK269; clear HB; clear HO_6; have BK269 := n0_; have HB := n1_; have HO277 := n2_; clear n0_ n1_ n2_; clear ho hb hg hat))
                   go_roundg kj13
                   case measure => have := HJ2.out; have := HK2.out; have := HJ13.out; omega
                   case rel => exact ⟨(y275), (wrap64 (x7_2 + (wrap64 ((wrap64 (Int.tmod t255 16)) + 1)))), (wrap64 (x8_2 + 2)), (by first | rfl | (simp; done) | (simp [*]; done)), (by first | rfl | (simp; done) | (simp [*]; done)), H', ⟨by have := HJ2.out; have := HK2.out; have := HJ13.out; omega⟩, ⟨by (with_reducible repeat (first | apply Kd.R_alloc | apply Kd.R_drewN | apply Kd.R_drew)); exact Kd.R_mono HO277.out (fun _ hk => trivial)⟩, ⟨(belS HB.out)⟩⟩
                  ·rw [if_neg c86] at H
                   exact absurd H (by simp)
                ·replace c65 := Bool.eq_false_iff.mpr c65
                 subst c65
                 have H1 : (some (([] : List (S26)), false)) = some (r1, r2) := by rw [if_neg (show ¬ (false = true) by decide)] at H; exact H
                 clear H
                 have H := H1
                 clear H1
                 simp only [Option.some.injEq, Prod.mk.injEq] at H
                 obtain ⟨rfl, rfl⟩ := H
                 try go_wp2_with (first | ((with_reducible refine gate_dst (N := 15) rfl ?_); (try (refine gate_guard (by rfl) ?_; dsimp only)); refine box_event ?hg (N := 15) ?hd (cs := #[.int .i64 0, .int .i64 0]) (t := 26) ?hr ?_; (case hd => rfl); (case hg => rfl); (case hr => first | (go_simp; done) | (go_simp; rfl)); intro gb269 hg w95 hbox hb; have n0_ := Aside0.mk (Kd.R_below (Kd.R_elderB (rowN HO_6.out) gb269 (Nat.le_of_eq hg.symm)) hb); have n1_ := Aside0.mk (below_step (belN HB.out) hb); have n2_ := Aside0.mk (hbox); have n3_ := Aside0.mk (szB hg HB.out); have n4_ := Aside0.mk (szB hg HB.out); clear HO_6; clear HB; have HO_6 := n0_; have HB := n1_; have BK269 := n2_; have GW269 := n3_; have GE269 := n4_; clear n0_ n1_ n2_ n3_ n4_; clear hb hbox hg; have hcz96_0 : w95.cell? ⟨gb269, 0, none⟩ = some (.int .i64 0) := (blk_cell BK269.out 0).trans rfl; have hcz96_1 : w95.cell? ⟨gb269, 1, none⟩ = some (.int .i64 0) := (blk_cell BK269.out 1).trans rfl; have hfz96_0 := blk_frozen BK269.out 0; have hfz96_1 := blk_frozen BK269.out 1))
                 have n0_ : Aside0 (Kd.R k26 26 ((w95.setCell ⟨gb269, 0, none⟩ (.int .i64 (wrap64 (IntKind.u64.wrap (Int.tdiv t255 16))))).setCell ⟨gb269, 1, none⟩ (.int .i64 (wrap64 (t258)))) w.heap.size (fun k_ => k_ ≠ gb269) u6 x6_2) := ⟨by (with_reducible repeat (first | apply Kd.R_alloc | apply Kd.R_drewN | apply Kd.R_drew)); exact Kd.R_mono (Kd.R_far (p := ⟨gb269, 1, none⟩) (Kd.R_far (p := ⟨gb269, 0, none⟩) (Kd.R_mono HO_6.out (fun k_ hk => (⟨hk, hk.2⟩ : _ ∧ k_ ≠ gb269))) (fun _ hk => hk.2) (.int .i64 (wrap64 (IntKind.u64.wrap (Int.tdiv t255 16))))) (fun _ hk => hk.2) (.int .i64 (wrap64 (t258)))) (fun _ hk => hk.1.2)⟩
                 have n1_ : Aside0 (((w95.setCell ⟨gb269, 0, none⟩ (.int .i64 (wrap64 (IntKind.u64.wrap (Int.tdiv t255 16))))).setCell ⟨gb269, 1, none⟩ (.int .i64 (wrap64 (t258)))).heap[gb269]? = some (.cells #[.int .i64 (wrap64 (IntKind.u64.wrap (Int.tdiv t255 16))), .int .i64 (wrap64 (t258))] 26 (0, 0))) := ⟨by (with_reducible repeat (first | refine blk_drewN ?_ _ | refine blk_drew ?_ | refine blk_alloc ?_ _)); refine blk_put (cs := #[.int .i64 (wrap64 (IntKind.u64.wrap (Int.tdiv t255 16))), .int .i64 0]) ?_ 1 _ rfl; (with_reducible repeat (first | refine blk_drewN ?_ _ | refine blk_drew ?_ | refine blk_alloc ?_ _)); refine blk_put (cs := #[.int .i64 0, .int .i64 0]) ?_ 0 _ rfl; (with_reducible repeat (first | refine blk_drewN ?_ _ | refine blk_drew ?_ | refine blk_alloc ?_ _)); exact BK269.out⟩
                 have n2_ : Aside0 (Below w.heap.size w ((w95.setCell ⟨gb269, 0, none⟩ (.int .i64 (wrap64 (IntKind.u64.wrap (Int.tdiv t255 16))))).setCell ⟨gb269, 1, none⟩ (.int .i64 (wrap64 (t258))))) := ⟨(belS HB.out)⟩
                 (try clear HO_6)
                 (try clear BK269)
                 (try clear HB)
                 generalize ((w95.setCell ⟨gb269, 0, none⟩ (.int .i64 (wrap64 (IntKind.u64.wrap (Int.tdiv t255 16))))).setCell ⟨gb269, 1, none⟩ (.int .i64 (wrap64 (t258)))) = w97 at n0_ n1_ n2_ ⊢
                 have HO_6 := n0_
                 have BK269 := n1_
                 have HB := n2_
                 clear n0_ n1_ n2_
                 have n0_ := Aside0.mk (Kd.R_drew HO_6.out)
                 have n1_ := Aside0.mk (blk_drew BK269.out)
                 have n2_ := Aside0.mk (below_drew1 HB.out)
                 clear HO_6
                 clear BK269
                 clear HB
                 have HO_6 := n0_
                 have BK269 := n1_
                 have HB := n2_
                 clear n0_ n1_ n2_
                 refine start_ (n := 20) (S := fun w' => w'.cell? ⟨gb269, 0, none⟩ = some (.int .i64 (wrap64 (IntKind.u64.wrap (Int.tdiv t255 16)))) ∧ w'.cell? ⟨gb269, 1, none⟩ = some (.int .i64 (wrap64 (t258)))) (ds := []) #[false, false, false, false, false, false, false, false, false, false, false, false, false, false, false, false, false, false, false, false] (by kernel_rfl) rfl rfl ⟨(blk_cell BK269.out 0).trans rfl, (blk_cell BK269.out 1).trans rfl⟩ (fun hHeld => ?_); refine with_tabW marigraphref15_Parse.tab17 marigraphref15_Parse.bits17 (fun HT_ HW_ => ?_)
                 generalize w97.drew = w98 at HO_6 BK269 HB hHeld ⊢
                 refine take_ (i := 0) (N := some 91) (v := ?_) (a' := ?_) (bA 20 1) rfl rfl (take_ofW HT_.out HW_.out (by kernel_rfl)) (fun _ _ _ h => h) (Or.inl ⟨by rfl, ?_⟩) hHeld ?_ ?_
                 rotate_left
                 ·rintro w' ⟨s0, s1⟩
                  go_simp
                  with_reducible rfl
                 rotate_left
                 ·simp only [Act.put, List.setIfInBounds_toArray, List.set_cons_zero, List.set_cons_succ, i64_w, i32_w]
                  rfl
                 refine one_ (i := 1) (N := some 92) (bA 20 3) rfl rfl (one_of HT_.out (by kernel_rfl)) (by decide) (fun K hK => ?_)
                 refine goes_ Try.func56 (by kernel_rfl) rfl #[.agg #[.int .i64 (wrap64 (IntKind.u64.wrap (Int.tdiv t255 16))), .int .i64 (wrap64 (t258))]] (by rfl) rfl rfl argN ?_
                 with_reducible refine (marigraphref15_May.calls (wrap64 (IntKind.u64.wrap (Int.tdiv t255 16))) (wrap64 (t258)) false _ A64.out).mono ?_
                 rintro e w99 ⟨rfl, hb⟩
                 refine ⟨_, rfl, ?_⟩
                 have n0_ := Aside0.mk (Kd.R_below (rowN HO_6.out) hb)
                 have n1_ := Aside0.mk (bkB BK269.out hb)
                 have n2_ := Aside0.mk (below_step (belS HB.out) hb)
                 clear HO_6
                 clear BK269
                 clear HB
                 have HO_6 := n0_
                 have BK269 := n1_
                 have HB := n2_
                 clear n0_ n1_ n2_
                 (try clear hb)
                 (try clear hb2)
                 (try clear hk)
                 (try clear hi)
                 refine hK.out _ _ ⟨(blk_cell BK269.out 0).trans rfl, (blk_cell BK269.out 1).trans rfl⟩ (fun hHeld => ?_)
                 clear hK K
                 refine norm_ (a' := ?_) ?_ ?_
                 rotate_left
                 ·show Act.put _ (some 92) _ = _
                  simp only [Act.put, List.setIfInBounds_toArray, List.set_cons_zero, List.set_cons_succ, i64_w, i32_w]
                  rfl
                 refine pure_ (i := 2) (N := some 93) (v := ?_) (a' := ?_) (bA 20 7) rfl rfl (any_of HT_.out (by kernel_rfl)) (fun _ _ _ h => h) (Or.inl ⟨by rfl, ?_⟩) ?_ ?_
                 rotate_left
                 ·intro w'
                  go_simp
                  with_reducible rfl
                 rotate_left
                 ·simp only [Act.put, List.setIfInBounds_toArray, List.set_cons_zero, List.set_cons_succ, i64_w, i32_w]
                  rfl
                 refine pure_ (i := 3) (N := some 94) (v := ?_) (a' := ?_) (bA 20 15) rfl rfl (any_of HT_.out (by kernel_rfl)) (fun _ _ _ h => h) (Or.inl ⟨by rfl, ?_⟩) ?_ ?_
                 rotate_left
                 ·intro w'
                  go_simp
                  with_reducible rfl
                 rotate_left
                 ·simp only [Act.put, List.setIfInBounds_toArray, List.set_cons_zero, List.set_cons_succ, i64_w, i32_w]
                  rfl
                 refine pure_ (i := 4) (N := some 95) (v := undef) (a' := ?_) (bA 20 31) rfl rfl (any_of HT_.out (by kernel_rfl)) (fun _ _ _ h => h) (Or.inr ⟨by rfl, rfl⟩) ?_ ?_
                 rotate_left
                 ·simp only [Act.put, List.setIfInBounds_toArray, List.set_cons_zero, List.set_cons_succ, i64_w, i32_w]
                  rfl
                 refine pure_ (i := 5) (N := some 96) (v := undef) (a' := ?_) (bA 20 63) rfl rfl (any_of HT_.out (by kernel_rfl)) (fun _ _ _ h => h) (Or.inr ⟨by rfl, rfl⟩) ?_ ?_
                 rotate_left
                 ·simp only [Act.put, List.setIfInBounds_toArray, List.set_cons_zero, List.set_cons_succ, i64_w, i32_w]
                  rfl
                 refine pure_ (i := 6) (N := some 97) (v := undef) (a' := ?_) (bA 20 127) rfl rfl (any_of HT_.out (by kernel_rfl)) (fun _ _ _ h => h) (Or.inr ⟨by rfl, rfl⟩) ?_ ?_
                 rotate_left
                 ·simp only [Act.put, List.setIfInBounds_toArray, List.set_cons_zero, List.set_cons_succ, i64_w, i32_w]
                  rfl
                 refine pure_ (i := 7) (N := some 98) (v := undef) (a' := ?_) (bA 20 255) rfl rfl (any_of HT_.out (by kernel_rfl)) (fun _ _ _ h => h) (Or.inr ⟨by rfl, rfl⟩) ?_ ?_
                 rotate_left
                 ·simp only [Act.put, List.setIfInBounds_toArray, List.set_cons_zero, List.set_cons_succ, i64_w, i32_w]
                  rfl
                 refine pure_ (i := 8) (N := some 99) (v := undef) (a' := ?_) (bA 20 511) rfl rfl (any_of HT_.out (by kernel_rfl)) (fun _ _ _ h => h) (Or.inr ⟨by rfl, rfl⟩) ?_ ?_
                 rotate_left
                 ·simp only [Act.put, List.setIfInBounds_toArray, List.set_cons_zero, List.set_cons_succ, i64_w, i32_w]
                  rfl
                 refine pure_ (i := 9) (N := some 100) (v := undef) (a' := ?_) (bA 20 1023) rfl rfl (any_of HT_.out (by kernel_rfl)) (fun _ _ _ h => h) (Or.inr ⟨by rfl, rfl⟩) ?_ ?_
                 rotate_left
                 ·simp only [Act.put, List.setIfInBounds_toArray, List.set_cons_zero, List.set_cons_succ, i64_w, i32_w]
                  rfl
                 refine pure_ (i := 10) (N := some 101) (v := undef) (a' := ?_) (bA 20 2047) rfl rfl (any_of HT_.out (by kernel_rfl)) (fun _ _ _ h => h) (Or.inr ⟨by rfl, rfl⟩) ?_ ?_
                 rotate_left
                 ·simp only [Act.put, List.setIfInBounds_toArray, List.set_cons_zero, List.set_cons_succ, i64_w, i32_w]
                  rfl
                 refine pure_ (i := 11) (N := some 102) (v := undef) (a' := ?_) (bA 20 4095) rfl rfl (any_of HT_.out (by kernel_rfl)) (fun _ _ _ h => h) (Or.inr ⟨by rfl, rfl⟩) ?_ ?_
                 rotate_left
                 ·simp only [Act.put, List.setIfInBounds_toArray, List.set_cons_zero, List.set_cons_succ, i64_w, i32_w]
                  rfl
                 refine pure_ (i := 12) (N := some 103) (v := undef) (a' := ?_) (bA 20 8191) rfl rfl (any_of HT_.out (by kernel_rfl)) (fun _ _ _ h => h) (Or.inr ⟨by rfl, rfl⟩) ?_ ?_
                 rotate_left
                 ·simp only [Act.put, List.setIfInBounds_toArray, List.set_cons_zero, List.set_cons_succ, i64_w, i32_w]
                  rfl
                 refine pure_ (i := 13) (N := some 104) (v := undef) (a' := ?_) (bA 20 16383) rfl rfl (any_of HT_.out (by kernel_rfl)) (fun _ _ _ h => h) (Or.inr ⟨by rfl, rfl⟩) ?_ ?_
                 rotate_left
                 ·simp only [Act.put, List.setIfInBounds_toArray, List.set_cons_zero, List.set_cons_succ, i64_w, i32_w]
                  rfl
                 refine pure_ (i := 14) (N := some 105) (v := undef) (a' := ?_) (bA 20 32767) rfl rfl (any_of HT_.out (by kernel_rfl)) (fun _ _ _ h => h) (Or.inr ⟨by rfl, rfl⟩) ?_ ?_
                 rotate_left
                 ·simp only [Act.put, List.setIfInBounds_toArray, List.set_cons_zero, List.set_cons_succ, i64_w, i32_w]
                  rfl
                 refine pure_ (i := 15) (N := some 106) (v := undef) (a' := ?_) (bA 20 65535) rfl rfl (any_of HT_.out (by kernel_rfl)) (fun _ _ _ h => h) (Or.inr ⟨by rfl, rfl⟩) ?_ ?_
                 rotate_left
                 ·simp only [Act.put, List.setIfInBounds_toArray, List.set_cons_zero, List.set_cons_succ, i64_w, i32_w]
                  rfl
                 refine pure_ (i := 16) (N := some 107) (v := undef) (a' := ?_) (bA 20 131071) rfl rfl (any_of HT_.out (by kernel_rfl)) (fun _ _ _ h => h) (Or.inr ⟨by rfl, rfl⟩) ?_ ?_
                 rotate_left
                 ·simp only [Act.put, List.setIfInBounds_toArray, List.set_cons_zero, List.set_cons_succ, i64_w, i32_w]
                  rfl
                 refine pure_ (i := 17) (N := some 108) (v := undef) (a' := ?_) (bA 20 262143) rfl rfl (any_of HT_.out (by kernel_rfl)) (fun _ _ _ h => h) (Or.inr ⟨by rfl, rfl⟩) ?_ ?_
                 rotate_left
                 ·simp only [Act.put, List.setIfInBounds_toArray, List.set_cons_zero, List.set_cons_succ, i64_w, i32_w]
                  rfl
                 refine pure_ (i := 18) (N := some 109) (v := undef) (a' := ?_) (bA 20 524287) rfl rfl (any_of HT_.out (by kernel_rfl)) (fun _ _ _ h => h) (Or.inr ⟨by rfl, rfl⟩) ?_ ?_
                 rotate_left
                 ·simp only [Act.put, List.setIfInBounds_toArray, List.set_cons_zero, List.set_cons_succ, i64_w, i32_w]
                  rfl
                 refine pure_ (i := 19) (N := some 110) (v := ?_) (a' := ?_) (bA 20 1048575) rfl rfl (any_of HT_.out (by kernel_rfl)) (fun _ _ _ h => h) (Or.inl ⟨by rfl, ?_⟩) ?_ ?_
                 rotate_left
                 ·intro w'
                  go_simp
                  with_reducible rfl
                 rotate_left
                 ·simp only [Act.put, List.setIfInBounds_toArray, List.set_cons_zero, List.set_cons_succ, i64_w, i32_w]
                  rfl
                 refine done_ (done_of HT_.out (by kernel_rfl)) ?_
                 try go_wp2
                 go_ret2
                 exact ⟨_, by first | rfl | (simp [errW_none, errW_some] <;> rfl) | (simp only [← hji21, ← hji23]; first | rfl | (simp [errW_none, errW_some] <;> rfl)) | (simp [*, errW_none, errW_some] <;> rfl), by first | exact Kd.R_nil _ _ _ _ _ | exact Kd.N_nil _ _ _ _ _ | exact Kd.V_nil _ _ _ _ _ | exact Kd.Q_nil _ _ _ _ _ | exact Kd.S_nil _ _ _ _ _, (belS HB.out)⟩
              ·rw [if_neg c22] at H
               exact absurd H (by simp)
          ·rw [if_neg c12] at H
           exact absurd H (by simp)
         ·rw [if_neg c11] at H
          exact absurd H (by simp)
        ·rw [if_neg c9] at H
         exact absurd H (by simp)
       ·rw [if_neg c8] at H
        exact absurd H (by simp)
      ·rw [if_neg c7] at H
       have c7b0 : decide (x8_2 < (l0.length : Int)) = false := decide_eq_false c7
       clear c7
       replace H := Option.bind_eq_some_iff.mp H
       obtain ⟨⟨t248, t249⟩, A1000, H⟩ := H
       replace H : (if (strOfNums t248).toList = (strOfNums l0).toList then (if (strOfNums t249).toList = (strOfNums l1).toList then (some (x6_2, true)) else (some (([] : List (S26)), false))) else (some (([] : List (S26)), false))) = some (r1, r2) := H
       have A100 := Aside0.mk A1000
       clear A1000
       by_cases c101 : (strOfNums t248).toList = (strOfNums l0).toList
       ·rw [if_pos c101] at H
        have c101b0 : ((strOfNums t248).toList == (strOfNums l0).toList) = true := beq_iff_eq.mpr c101
        have c101b1 : ((strOfNums t248).toList != (strOfNums l0).toList) = false := bne_eq_false_iff_eq.mpr c101
        clear c101
        by_cases c102 : (strOfNums t249).toList = (strOfNums l1).toList
        ·rw [if_pos c102] at H
         have c102b0 : ((strOfNums t249).toList == (strOfNums l1).toList) = true := beq_iff_eq.mpr c102
         have c102b1 : ((strOfNums t249).toList != (strOfNums l1).toList) = false := bne_eq_false_iff_eq.mpr c102
         clear c102
         simp only [Option.some.injEq, Prod.mk.injEq] at H
         obtain ⟨rfl, rfl⟩ := H
         obtain ⟨Ao103, co103, eo103⟩ := Kd.R_slice HO_6.out
         subst eo103
         go_wp2_with (first | ((with_reducible refine gate_callee (f := 19) rfl ?_); refine goesL_ (some 120) rfl rfl Try.func19 (by kernel_rfl) rfl #[.slice Ao103 x6_2.length co103] rfl argN ?_; (with_reducible refine (marigraphref15_Cell.calls k2 _ _ x6_2 t248 t249 _ ?side1 ?side2 A100.out).mono ?_); (case side1 => repeat (first | exact (Kd.R_reads' HO_6.out).2.2 | (with_reducible refine Kd.C_alloc ?_ _) | (with_reducible refine Kd.C_drewN ?_ _) | (with_reducible refine Kd.C_drew ?_))); (case side2 => exact (Kd.R_reads' HO_6.out).2.1); rintro e w104 ⟨v250, v252, rfl, ho0, ho1, hb⟩; refine ⟨_, rfl, ?_⟩; have n0_ := Aside0.mk (Kd.R_below (rowN HO_6.out) hb); have n1_ := Aside0.mk (Kd.R_lower ho0 (below_size (belN HB.out))); have n2_ := Aside0.mk (Kd.R_lower ho1 (below_size (belN HB.out))); have n3_ := Aside0.mk (below_step (belN HB.out) hb); clear HO_6; clear HB; have HO_6 := n0_; have HO251 := n1_; have HO253 := n2_; have HB := n3_; clear n0_ n1_ n2_ n3_; (try clear hb); (try clear hb2); (try clear hk); (try clear hi); (try clear ho0); (try clear ho1); have hcv105 := own_string (P := Try.prog) Try.underlying30 Try.underlying5 Try.underlying9 (Kd.own_of_R HO251.out); have hcv106 := Kd.C_string (P := Try.prog) (A := A0) (c := c0) Try.underlying30 Try.underlying5 Try.underlying9 (Kd.C_below HR0.out HB.out); have hcv107 := own_string (P := Try.prog) Try.underlying30 Try.underlying5 Try.underlying9 (Kd.own_of_R HO253.out); have hcv108 := Kd.C_string (P := Try.prog) (A := A1) (c := c1) Try.underlying30 Try.underlying5 Try.underlying9 (Kd.C_below HR1.out HB.out)))
         go_ret2
         exact ⟨_, by first | rfl | (simp [errW_none, errW_some] <;> rfl) | (simp [*, errW_none, errW_some] <;> rfl), (rowN HO_6.out), (belN HB.out)⟩
        ·rw [if_neg c102] at H
         have c102b0 : ((strOfNums t249).toList == (strOfNums l1).toList) = false := beq_eq_false_iff_ne.mpr c102
         have c102b1 : ((strOfNums t249).toList != (strOfNums l1).toList) = true := bne_iff_ne.mpr c102
         simp only [Option.some.injEq, Prod.mk.injEq] at H
         obtain ⟨rfl, rfl⟩ := H
         obtain ⟨Ao109, co109, eo109⟩ := Kd.R_slice HO_6.out
         subst eo109
         go_wp2_with (first | ((with_reducible refine gate_callee (f := 19) rfl ?_); refine goesL_ (some 120) rfl rfl Try.func19 (by kernel_rfl) rfl #[.slice Ao109 x6_2.length co109] rfl argN ?_; (with_reducible refine (marigraphref15_Cell.calls k2 _ _ x6_2 t248 t249 _ ?side1 ?side2 A100.out).mono ?_); (case side1 => repeat (first | exact (Kd.R_reads' HO_6.out).2.2 | (with_reducible refine Kd.C_alloc ?_ _) | (with_reducible refine Kd.C_drewN ?_ _) | (with_reducible refine Kd.C_drew ?_))); (case side2 => exact (Kd.R_reads' HO_6.out).2.1); rintro e w110 ⟨v250, v252, rfl, ho0, ho1, hb⟩; refine ⟨_, rfl, ?_⟩; have n0_ := Aside0.mk (Kd.R_below (rowN HO_6.out) hb); have n1_ := Aside0.mk (Kd.R_lower ho0 (below_size (belN HB.out))); have n2_ := Aside0.mk (Kd.R_lower ho1 (below_size (belN HB.out))); have n3_ := Aside0.mk (below_step (belN HB.out) hb); clear HO_6; clear HB; have HO_6 := n0_; have HO251 := n1_; have HO253 := n2_; have HB := n3_; clear n0_ n1_ n2_ n3_; (try clear hb); (try clear hb2); (try clear hk); (try clear hi); (try clear ho0); (try clear ho1); have hcv111 := own_string (P := Try.prog) Try.underlying30 Try.underlying5 Try.underlying9 (Kd.own_of_R HO251.out); have hcv112 := Kd.C_string (P := Try.prog) (A := A0) (c := c0) Try.underlying30 Try.underlying5 Try.underlying9 (Kd.C_below HR0.out HB.out); have hcv113 := own_string (P := Try.prog) Try.underlying30 Try.underlying5 Try.underlying9 (Kd.own_of_R HO253.out); have hcv114 := Kd.C_string (P := Try.prog) (A := A1) (c := c1) Try.underlying30 Try.underlying5 Try.underlying9 (Kd.C_below HR1.out HB.out)))
         go_ret2
         exact ⟨_, by first | rfl | (simp [errW_none, errW_some] <;> rfl) | (simp [*, errW_none, errW_some] <;> rfl), by first | exact Kd.R_nil _ _ _ _ _ | exact Kd.N_nil _ _ _ _ _ | exact Kd.V_nil _ _ _ _ _ | exact Kd.Q_nil _ _ _ _ _ | exact Kd.S_nil _ _ _ _ _, (belN HB.out)⟩
       ·rw [if_neg c101] at H
        have c101b0 : ((strOfNums t248).toList == (strOfNums l0).toList) = false := beq_eq_false_iff_ne.mpr c101
        have c101b1 : ((strOfNums t248).toList != (strOfNums l0).toList) = true := bne_iff_ne.mpr c101
        simp only [Option.some.injEq, Prod.mk.injEq] at H
        obtain ⟨rfl, rfl⟩ := H
        obtain ⟨Ao115, co115, eo115⟩ := Kd.R_slice HO_6.out
        subst eo115
        go_wp2_with (first | ((with_reducible refine gate_callee (f := 19) rfl ?_); refine goesL_ (some 120) rfl rfl Try.func19 (by kernel_rfl) rfl #[.slice Ao115 x6_2.length co115] rfl argN ?_; (with_reducible refine (marigraphref15_Cell.calls k2 _ _ x6_2 t248 t249 _ ?side1 ?side2 A100.out).mono ?_); (case side1 => repeat (first | exact (Kd.R_reads' HO_6.out).2.2 | (with_reducible refine Kd.C_alloc ?_ _) | (with_reducible refine Kd.C_drewN ?_ _) | (with_reducible refine Kd.C_drew ?_))); (case side2 => exact (Kd.R_reads' HO_6.out).2.1); rintro e w116 ⟨v250, v252, rfl, ho0, ho1, hb⟩; refine ⟨_, rfl, ?_⟩; have n0_ := Aside0.mk (Kd.R_below (rowN HO_6.out) hb); have n1_ := Aside0.mk (Kd.R_lower ho0 (below_size (belN HB.out))); have n2_ := Aside0.mk (Kd.R_lower ho1 (below_size (belN HB.out))); have n3_ := Aside0.mk (below_step (belN HB.out) hb); clear HO_6; clear HB; have HO_6 := n0_; have HO251 := n1_; have HO253 := n2_; have HB := n3_; clear n0_ n1_ n2_ n3_; (try clear hb); (try clear hb2); (try clear hk); (try clear hi); (try clear ho0); (try clear ho1); have hcv117 := own_string (P := Try.prog) Try.underlying30 Try.underlying5 Try.underlying9 (Kd.own_of_R HO251.out); have hcv118 := Kd.C_string (P := Try.prog) (A := A0) (c := c0) Try.underlying30 Try.underlying5 Try.underlying9 (Kd.C_below HR0.out HB.out)))
        go_ret2
        exact ⟨_, by first | rfl | (simp [errW_none, errW_some] <;> rfl) | (simp [*, errW_none, errW_some] <;> rfl), by first | exact Kd.R_nil _ _ _ _ _ | exact Kd.N_nil _ _ _ _ _ | exact Kd.V_nil _ _ _ _ _ | exact Kd.Q_nil _ _ _ _ _ | exact Kd.S_nil _ _ _ _ _, (belN HB.out)⟩

end Go.Proofs.Ytjafaojmbapkbaa.PCellTells

/- The walk of the Go functions that a law reaches, told as plain functions; a program of this session has written it. No condition beyond the statement's own. -/
import Derived.Test.YteghihdcagbmbaaPFilterNumbersx0
import Derived.Test.YteghihdcagbmbaaPFilterNumbersx1
import Derived.Test.YteghihdcagbmbaaPFilterNumbersx2
import Derived.Test.YteghihdcagbmbaaPFilterNumbersx5
namespace Go.Proofs.Yteghihdcagbmbaa.PFilterNumbers
open Go.RowKit Go.Proofs.YteghihdcagbmbaaW.PrintWords Go.Proofs.YteghihdcagbmbaaW.PrintLast Go.Proofs.YteghihdcagbmbaaW.PrintMore
attribute [local go_sem] max2_int min2_int max_two min_two max_three min_three max_four min_four   -- for this text's walks alone
set_option linter.unusedVariables false
set_option linter.unusedSimpArgs false

/-! ### marigraphlaw19_FilterNumbers: function 5 -/
mutual
def marigraphlaw19_FilterNumbers.l0 : Nat → List ByteArray → Int → Option (Bool)
 | 0, _, _ => none
 | k + 1, x1, x2 => if x2 < 7 then (if 8 ≤ (x1.length : Int) then ((some (([[], (([(⟨#[49]⟩ : ByteArray)] : List ByteArray)), (([(⟨#[50]⟩ : ByteArray)] : List ByteArray)), (([(⟨#[50]⟩ : ByteArray), (⟨#[49]⟩ : ByteArray)] : List ByteArray)), (([(⟨#[110, 111, 116, 32, 114, 105, 103, 104, 116]⟩ : ByteArray)] : List ByteArray)), (([(⟨#[]⟩ : ByteArray)] : List ByteArray)), x1, (x1.take 8)] : List (List ByteArray)) : List (List ByteArray))).bind fun y149 => (marigraphlaw19_FilterNumbers.l1 k x1 x2 y149 (y149.length : Int) 0)) else (none)) else ((marigraphlaw19_known.f k).bind fun t128 => (some t128))
def marigraphlaw19_FilterNumbers.l1 : Nat → List ByteArray → Int → List (List ByteArray) → Int → Int → Option (Bool)
 | 0, _, _, _, _, _ => none
 | k + 1, x1, x2, x20, x21, x22 => if x22 < x21 then (if 0 ≤ x22 then (if x22 < (x20.length : Int) then ((some (([[], (([(⟨(⟨#[97]⟩ : ByteArray), (⟨#[49]⟩ : ByteArray)⟩ : S44)] : List (S44))), (([(⟨(⟨#[97]⟩ : ByteArray), (⟨#[51]⟩ : ByteArray)⟩ : S44), (⟨(⟨#[98]⟩ : ByteArray), (⟨#[49]⟩ : ByteArray)⟩ : S44)] : List (S44))), (([(⟨(⟨#[99]⟩ : ByteArray), (⟨#[57]⟩ : ByteArray)⟩ : S44)] : List (S44)))] : List (List (S44))) : List (List (S44)))).bind fun y162 => (marigraphlaw19_FilterNumbers.l2 k x1 x2 (rd_L2 x20 x22) x20 x21 x22 y162 (y162.length : Int) 0)) else (none)) else (none)) else (marigraphlaw19_FilterNumbers.l0 k x1 (wrap64 (x2 + 1)))
def marigraphlaw19_FilterNumbers.l2 : Nat → List ByteArray → Int → List ByteArray → List (List ByteArray) → Int → Int → List (List (S44)) → Int → Int → Option (Bool)
 | 0, _, _, _, _, _, _, _, _, _ => none
 | k + 1, x1, x2, x4, x20, x21, x22, x33, x34, x35 => if x35 < x34 then (if 0 ≤ x35 then (if x35 < (x33.length : Int) then ((marigraphlaw19_same.f k (⟨#[97]⟩ : ByteArray) x2 x4 (rd_L5 x33 x35)).bind fun t166 => (if t166 = true then ((marigraphlaw19_same.f k (⟨#[]⟩ : ByteArray) x2 x4 (rd_L5 x33 x35)).bind fun t167 => (if t167 = true then (marigraphlaw19_FilterNumbers.l2 k x1 x2 x4 x20 x21 x22 x33 x34 (wrap64 (x35 + 1))) else (some false))) else (some false))) else (none)) else (none)) else (marigraphlaw19_FilterNumbers.l1 k x1 x2 x20 x21 (wrap64 (x22 + 1)))
end
def marigraphlaw19_FilterNumbers.f (k : Nat)  : Option (Bool) := marigraphlaw19_FilterNumbers.l0 k (([(⟨#[49]⟩ : ByteArray), (⟨#[50]⟩ : ByteArray), (⟨#[51]⟩ : ByteArray), (⟨#[52]⟩ : ByteArray), (⟨#[53]⟩ : ByteArray), (⟨#[54]⟩ : ByteArray), (⟨#[55]⟩ : ByteArray), (⟨#[56]⟩ : ByteArray), (⟨#[57]⟩ : ByteArray)] : List ByteArray)) (-1)
theorem marigraphlaw19_FilterNumbers.mono_l : ∀ k, (∀ y0 y1, LeO (marigraphlaw19_FilterNumbers.l0 k y0 y1) (marigraphlaw19_FilterNumbers.l0 (k + 1) y0 y1)) ∧ (∀ y0 y1 y2 y3 y4, LeO (marigraphlaw19_FilterNumbers.l1 k y0 y1 y2 y3 y4) (marigraphlaw19_FilterNumbers.l1 (k + 1) y0 y1 y2 y3 y4)) ∧ (∀ y0 y1 y2 y3 y4 y5 y6 y7 y8, LeO (marigraphlaw19_FilterNumbers.l2 k y0 y1 y2 y3 y4 y5 y6 y7 y8) (marigraphlaw19_FilterNumbers.l2 (k + 1) y0 y1 y2 y3 y4 y5 y6 y7 y8))
 | 0 => ⟨fun _ _ r h => by simp [marigraphlaw19_FilterNumbers.l0] at h, fun _ _ _ _ _ r h => by simp [marigraphlaw19_FilterNumbers.l1] at h, fun _ _ _ _ _ _ _ _ _ r h => by simp [marigraphlaw19_FilterNumbers.l2] at h⟩
 | k + 1 => by
  obtain ⟨ih0, ih1, ih2⟩ := marigraphlaw19_FilterNumbers.mono_l k
  refine ⟨?_, ?_, ?_⟩
  ·intro y0 y1
   unfold marigraphlaw19_FilterNumbers.l0
   repeat' first
   | (with_reducible exact ih0 _ _)
   | (with_reducible exact ih1 _ _ _ _ _)
   | (with_reducible exact ih2 _ _ _ _ _ _ _ _ _)
   | (with_reducible exact marigraphlaw19_known.mono _)
   | (with_reducible exact marigraphlaw19_same.mono _ _ _ _ _)
   | (with_reducible exact LeO.refl _)
   | (with_reducible exact LeO.none _)
   | (with_reducible refine LeO.ite ?_ ?_)
   | (with_reducible refine LeO.bind ?_ (fun _ => ?_))
   | exact ih0 _ _
   | exact ih1 _ _ _ _ _
   | exact ih2 _ _ _ _ _ _ _ _ _
   | exact marigraphlaw19_known.mono _
   | exact marigraphlaw19_same.mono _ _ _ _ _
   | exact LeO.none _
   | refine LeO.ite ?_ ?_
   | refine LeO.bind ?_ (fun _ => ?_)
  ·intro y0 y1 y2 y3 y4
   unfold marigraphlaw19_FilterNumbers.l1
   repeat' first
   | (with_reducible exact ih0 _ _)
   | (with_reducible exact ih1 _ _ _ _ _)
   | (with_reducible exact ih2 _ _ _ _ _ _ _ _ _)
   | (with_reducible exact marigraphlaw19_known.mono _)
   | (with_reducible exact marigraphlaw19_same.mono _ _ _ _ _)
   | (with_reducible exact LeO.refl _)
   | (with_reducible exact LeO.none _)
   | (with_reducible refine LeO.ite ?_ ?_)
   | (with_reducible refine LeO.bind ?_ (fun _ => ?_))
   | exact ih0 _ _
   | exact ih1 _ _ _ _ _
   | exact ih2 _ _ _ _ _ _ _ _ _
   | exact marigraphlaw19_known.mono _
   | exact marigraphlaw19_same.mono _ _ _ _ _
   | exact LeO.none _
   | refine LeO.ite ?_ ?_
   | refine LeO.bind ?_ (fun _ => ?_)
  ·intro y0 y1 y2 y3 y4 y5 y6 y7 y8
   unfold marigraphlaw19_FilterNumbers.l2
   repeat' first
   | (with_reducible exact ih0 _ _)
   | (with_reducible exact ih1 _ _ _ _ _)
   | (with_reducible exact ih2 _ _ _ _ _ _ _ _ _)
   | (with_reducible exact marigraphlaw19_known.mono _)
   | (with_reducible exact marigraphlaw19_same.mono _ _ _ _ _)
   | (with_reducible exact LeO.refl _)
   | (with_reducible exact LeO.none _)
   | (with_reducible refine LeO.ite ?_ ?_)
   | (with_reducible refine LeO.bind ?_ (fun _ => ?_))
   | exact ih0 _ _
   | exact ih1 _ _ _ _ _
   | exact ih2 _ _ _ _ _ _ _ _ _
   | exact marigraphlaw19_known.mono _
   | exact marigraphlaw19_same.mono _ _ _ _ _
   | exact LeO.none _
   | refine LeO.ite ?_ ?_
   | refine LeO.bind ?_ (fun _ => ?_)
theorem marigraphlaw19_FilterNumbers.mono : ∀ k, LeO (marigraphlaw19_FilterNumbers.f k ) (marigraphlaw19_FilterNumbers.f (k + 1) ) := by
 intro  k
 obtain ⟨ih0, ih1, ih2⟩ := marigraphlaw19_FilterNumbers.mono_l k
 unfold marigraphlaw19_FilterNumbers.f
 repeat' first
   | (with_reducible exact ih0 _ _)
   | (with_reducible exact ih1 _ _ _ _ _)
   | (with_reducible exact ih2 _ _ _ _ _ _ _ _ _)
   | (with_reducible exact marigraphlaw19_known.mono _)
   | (with_reducible exact marigraphlaw19_same.mono _ _ _ _ _)
   | (with_reducible exact LeO.refl _)
   | (with_reducible exact LeO.none _)
   | (with_reducible refine LeO.ite ?_ ?_)
   | (with_reducible refine LeO.bind ?_ (fun _ => ?_))
   | exact ih0 _ _
   | exact ih1 _ _ _ _ _
   | exact ih2 _ _ _ _ _ _ _ _ _
   | exact marigraphlaw19_known.mono _
   | exact marigraphlaw19_same.mono _ _ _ _ _
   | exact LeO.none _
   | refine LeO.ite ?_ ?_
   | refine LeO.bind ?_ (fun _ => ?_)
set_option maxHeartbeats 8000000 in
set_option maxRecDepth 100000 in
theorem marigraphlaw19_FilterNumbers.calls (k : Nat)  (r : Bool) (w : World) (h : marigraphlaw19_FilterNumbers.f k  = some r) :
  Calls Try.prog 5 #[] w fun e w' => e = .returned (.bool r) ∧ Below w.heap.size w w' := by
 have hu44 := Try.underlying44
 have hu29 := Try.underlying29
 have HB := Aside0.mk (Below.refl w.heap.size w)
 have H : (marigraphlaw19_FilterNumbers.l0 k (([(⟨#[49]⟩ : ByteArray), (⟨#[50]⟩ : ByteArray), (⟨#[51]⟩ : ByteArray), (⟨#[52]⟩ : ByteArray), (⟨#[53]⟩ : ByteArray), (⟨#[54]⟩ : ByteArray), (⟨#[55]⟩ : ByteArray), (⟨#[56]⟩ : ByteArray), (⟨#[57]⟩ : ByteArray)] : List ByteArray)) (-1)) = some r := h
 clear h
 obtain ⟨y125, hy125⟩ : ∃ y_ : List ByteArray, y_ = (([(⟨#[49]⟩ : ByteArray), (⟨#[50]⟩ : ByteArray), (⟨#[51]⟩ : ByteArray), (⟨#[52]⟩ : ByteArray), (⟨#[53]⟩ : ByteArray), (⟨#[54]⟩ : ByteArray), (⟨#[55]⟩ : ByteArray), (⟨#[56]⟩ : ByteArray), (⟨#[57]⟩ : ByteArray)] : List ByteArray)) := ⟨_, rfl⟩
 replace H : (marigraphlaw19_FilterNumbers.l0 k y125 (-1)) = some r := by first | (rw [hy125]; with_reducible exact H) | (have H2_ := (Option.bind_some _ _).symm.trans H; rw [hy125]; with_reducible exact H2_) | (have H2_ := (Option.bind_some _ _).symm.trans H; with_reducible exact H2_) | with_reducible exact H | (rw [hy125]; exact H) | exact H
 have Ny125 := Aside0.mk hy125
 clear hy125
 have H' := Aside0.mk H
 clear H
 go_enter Try.func5, Try.ntmps5
 go_wp2_with (first | ((with_reducible refine gate_dst (N := 7) rfl ?_); refine Kd.R_lit Kd.string _ 9 ?hg (N := 7) ?hd (xs := ([(⟨#[49]⟩ : ByteArray), (⟨#[50]⟩ : ByteArray), (⟨#[51]⟩ : ByteArray), (⟨#[52]⟩ : ByteArray), (⟨#[53]⟩ : ByteArray), (⟨#[54]⟩ : ByteArray), (⟨#[55]⟩ : ByteArray), (⟨#[56]⟩ : ByteArray), (⟨#[57]⟩ : ByteArray)] : List ByteArray)) (inner := [.string (⟨#[49]⟩ : ByteArray), .string (⟨#[50]⟩ : ByteArray), .string (⟨#[51]⟩ : ByteArray), .string (⟨#[52]⟩ : ByteArray), .string (⟨#[53]⟩ : ByteArray), .string (⟨#[54]⟩ : ByteArray), .string (⟨#[55]⟩ : ByteArray), .string (⟨#[56]⟩ : ByteArray), .string (⟨#[57]⟩ : ByteArray)]) (ok := fun _ => True) (okp := fun _ => True) ?hr ?hp (fun _ hk => hk) trivial (Below.refl _ _) (Nat.le_refl _) (by simp) ?_; (case hd => rfl); (case hg => rfl); (case hr => first | (go_simp; done) | (go_simp; rfl)); (case hp => exact (Reps.one (show Kd.M Kd.string _ _ _ (⟨#[49]⟩ : ByteArray) [.string (⟨#[49]⟩ : ByteArray)] from rfl) (Reps.one (show Kd.M Kd.string _ _ _ (⟨#[50]⟩ : ByteArray) [.string (⟨#[50]⟩ : ByteArray)] from rfl) (Reps.one (show Kd.M Kd.string _ _ _ (⟨#[51]⟩ : ByteArray) [.string (⟨#[51]⟩ : ByteArray)] from rfl) (Reps.one (show Kd.M Kd.string _ _ _ (⟨#[52]⟩ : ByteArray) [.string (⟨#[52]⟩ : ByteArray)] from rfl) (Reps.one (show Kd.M Kd.string _ _ _ (⟨#[53]⟩ : ByteArray) [.string (⟨#[53]⟩ : ByteArray)] from rfl) (Reps.one (show Kd.M Kd.string _ _ _ (⟨#[54]⟩ : ByteArray) [.string (⟨#[54]⟩ : ByteArray)] from rfl) (Reps.one (show Kd.M Kd.string _ _ _ (⟨#[55]⟩ : ByteArray) [.string (⟨#[55]⟩ : ByteArray)] from rfl) (Reps.one (show Kd.M Kd.string _ _ _ (⟨#[56]⟩ : ByteArray) [.string (⟨#[56]⟩ : ByteArray)] from rfl) (Reps.one (show Kd.M Kd.string _ _ _ (⟨#[57]⟩ : ByteArray) [.string (⟨#[57]⟩ : ByteArray)] from rfl) (Reps.none _ _))))))))))); intro v126 w1 ho2 hb hg_ hnew_; clear hg_ hnew_; (first | rw [← Ny125.out] at ho2 | (simp only [Int.reduceToNat] at ho2; rw [← Ny125.out] at ho2)); have n0_ := Aside0.mk (Kd.R_lower ho2 (below_size (belN HB.out))); have n1_ := Aside0.mk (below_step (belN HB.out) hb); clear HB; have HO127 := n0_; have HB := n1_; clear n0_ n1_; clear hb ho2))
 go_loopg [2] k (fun kq v2 w' => ∃ (x2_1 : Int), v2 = .int .i64 x2_1 ∧ Aside0 (marigraphlaw19_FilterNumbers.l0 kq y125 x2_1 = some r) ∧ Aside0 (kq ≤ k) ∧ Aside0 (Kd.R Kd.string 9 w' w.heap.size (fun _ => True) v126 y125) ∧ Aside0 (Below w.heap.size w w'))
 case atStart => exact ⟨((-1)), (by first | rfl | (simp; done) | (simp [*]; done)), H', ⟨Nat.le_refl _⟩, ⟨(rowN HO127.out)⟩, ⟨(belN HB.out)⟩⟩
 case round =>
  clear H'
  try clear p2
  obtain ⟨x2_1, rfl, HA, HK1, HO_1, HB⟩ := hrel
  cases gk with
  | zero => exact absurd HA.out (by simp [marigraphlaw19_FilterNumbers.l0])
  | succ k1 =>
   have H := HA.out
   clear HA
   simp only [marigraphlaw19_FilterNumbers.l0] at H
   by_cases c3 : x2_1 < 7
   ·rw [if_pos c3] at H
    have c3b0 : decide (x2_1 < 7) = true := decide_eq_true c3
    clear c3
    obtain ⟨y129, hy129⟩ : ∃ y_ : List ByteArray, y_ = (([(⟨#[49]⟩ : ByteArray)] : List ByteArray)) := ⟨_, rfl⟩
    replace H : (if 8 ≤ (y125.length : Int) then ((some (([[], y129, (([(⟨#[50]⟩ : ByteArray)] : List ByteArray)), (([(⟨#[50]⟩ : ByteArray), (⟨#[49]⟩ : ByteArray)] : List ByteArray)), (([(⟨#[110, 111, 116, 32, 114, 105, 103, 104, 116]⟩ : ByteArray)] : List ByteArray)), (([(⟨#[]⟩ : ByteArray)] : List ByteArray)), y125, (y125.take 8)] : List (List ByteArray)) : List (List ByteArray))).bind fun y149 => (marigraphlaw19_FilterNumbers.l1 k1 y125 x2_1 y149 (y149.length : Int) 0)) else (none)) = some r := by first | (rw [hy129]; with_reducible exact H) | (have H2_ := (Option.bind_some _ _).symm.trans H; rw [hy129]; with_reducible exact H2_) | (have H2_ := (Option.bind_some _ _).symm.trans H; with_reducible exact H2_) | with_reducible exact H | (rw [hy129]; exact H) | exact H
    have Ny129 := Aside0.mk hy129
    clear hy129
    obtain ⟨y132, hy132⟩ : ∃ y_ : List ByteArray, y_ = (([(⟨#[50]⟩ : ByteArray)] : List ByteArray)) := ⟨_, rfl⟩
    replace H : (if 8 ≤ (y125.length : Int) then ((some (([[], y129, y132, (([(⟨#[50]⟩ : ByteArray), (⟨#[49]⟩ : ByteArray)] : List ByteArray)), (([(⟨#[110, 111, 116, 32, 114, 105, 103, 104, 116]⟩ : ByteArray)] : List ByteArray)), (([(⟨#[]⟩ : ByteArray)] : List ByteArray)), y125, (y125.take 8)] : List (List ByteArray)) : List (List ByteArray))).bind fun y149 => (marigraphlaw19_FilterNumbers.l1 k1 y125 x2_1 y149 (y149.length : Int) 0)) else (none)) = some r := by first | (rw [hy132]; with_reducible exact H) | (have H2_ := (Option.bind_some _ _).symm.trans H; rw [hy132]; with_reducible exact H2_) | (have H2_ := (Option.bind_some _ _).symm.trans H; with_reducible exact H2_) | with_reducible exact H | (rw [hy132]; exact H) | exact H
    have Ny132 := Aside0.mk hy132
    clear hy132
    obtain ⟨y135, hy135⟩ : ∃ y_ : List ByteArray, y_ = (([(⟨#[50]⟩ : ByteArray), (⟨#[49]⟩ : ByteArray)] : List ByteArray)) := ⟨_, rfl⟩
    replace H : (if 8 ≤ (y125.length : Int) then ((some (([[], y129, y132, y135, (([(⟨#[110, 111, 116, 32, 114, 105, 103, 104, 116]⟩ : ByteArray)] : List ByteArray)), (([(⟨#[]⟩ : ByteArray)] : List ByteArray)), y125, (y125.take 8)] : List (List ByteArray)) : List (List ByteArray))).bind fun y149 => (marigraphlaw19_FilterNumbers.l1 k1 y125 x2_1 y149 (y149.length : Int) 0)) else (none)) = some r := by first | (rw [hy135]; with_reducible exact H) | (have H2_ := (Option.bind_some _ _).symm.trans H; rw [hy135]; with_reducible exact H2_) | (have H2_ := (Option.bind_some _ _).symm.trans H; with_reducible exact H2_) | with_reducible exact H | (rw [hy135]; exact H) | exact H
    have Ny135 := Aside0.mk hy135
    clear hy135
    obtain ⟨y138, hy138⟩ : ∃ y_ : List ByteArray, y_ = (([(⟨#[110, 111, 116, 32, 114, 105, 103, 104, 116]⟩ : ByteArray)] : List ByteArray)) := ⟨_, rfl⟩
    replace H : (if 8 ≤ (y125.length : Int) then ((some (([[], y129, y132, y135, y138, (([(⟨#[]⟩ : ByteArray)] : List ByteArray)), y125, (y125.take 8)] : List (List ByteArray)) : List (List ByteArray))).bind fun y149 => (marigraphlaw19_FilterNumbers.l1 k1 y125 x2_1 y149 (y149.length : Int) 0)) else (none)) = some r := by first | (rw [hy138]; with_reducible exact H) | (have H2_ := (Option.bind_some _ _).symm.trans H; rw [hy138]; with_reducible exact H2_) | (have H2_ := (Option.bind_some _ _).symm.trans H; with_reducible exact H2_) | with_reducible exact H | (rw [hy138]; exact H) | exact H
    have Ny138 := Aside0.mk hy138
    clear hy138
    obtain ⟨y141, hy141⟩ : ∃ y_ : List ByteArray, y_ = (([(⟨#[]⟩ : ByteArray)] : List ByteArray)) := ⟨_, rfl⟩
    replace H : (if 8 ≤ (y125.length : Int) then ((some (([[], y129, y132, y135, y138, y141, y125, (y125.take 8)] : List (List ByteArray)) : List (List ByteArray))).bind fun y149 => (marigraphlaw19_FilterNumbers.l1 k1 y125 x2_1 y149 (y149.length : Int) 0)) else (none)) = some r := by first | (rw [hy141]; with_reducible exact H) | (have H2_ := (Option.bind_some _ _).symm.trans H; rw [hy141]; with_reducible exact H2_) | (have H2_ := (Option.bind_some _ _).symm.trans H; with_reducible exact H2_) | with_reducible exact H | (rw [hy141]; exact H) | exact H
    have Ny141 := Aside0.mk hy141
    clear hy141
    by_cases c4 : 8 ≤ (y125.length : Int)
    ·rw [if_pos c4] at H
     have c4b0 := eq_true c4
     have c4b1 : decide (8 ≤ (y125.length : Int)) = true := decide_eq_true c4
     clear c4
     obtain ⟨y144, hy144⟩ : ∃ y_ : List ByteArray, y_ = (y125.take 8) := ⟨_, rfl⟩
     replace H : ((some (([[], y129, y132, y135, y138, y141, y125, y144] : List (List ByteArray)) : List (List ByteArray))).bind fun y149 => (marigraphlaw19_FilterNumbers.l1 k1 y125 x2_1 y149 (y149.length : Int) 0)) = some r := by first | (rw [hy144]; with_reducible exact H) | (have H2_ := (Option.bind_some _ _).symm.trans H; rw [hy144]; with_reducible exact H2_) | (have H2_ := (Option.bind_some _ _).symm.trans H; with_reducible exact H2_) | with_reducible exact H | (rw [hy144]; exact H) | exact H
     have Ny144 := Aside0.mk hy144
     clear hy144
     obtain ⟨y149, hy149⟩ : ∃ y_ : List (List ByteArray), y_ = (([[], y129, y132, y135, y138, y141, y125, y144] : List (List ByteArray))) := ⟨_, rfl⟩
     replace H : (marigraphlaw19_FilterNumbers.l1 k1 y125 x2_1 y149 (y149.length : Int) 0) = some r := by first | (rw [hy149]; with_reducible exact H) | (have H2_ := (Option.bind_some _ _).symm.trans H; rw [hy149]; with_reducible exact H2_) | (have H2_ := (Option.bind_some _ _).symm.trans H; with_reducible exact H2_) | with_reducible exact H | (rw [hy149]; exact H) | exact H
     have Ny149 := Aside0.mk hy149
     clear hy149
     have H' := Aside0.mk H
     clear H
     go_wp2_with (first | ((with_reducible refine gate_dst (N := 12) rfl ?_); refine Kd.R_lit Kd.string _ 9 ?hg (N := 12) ?hd (xs := ([(⟨#[49]⟩ : ByteArray)] : List ByteArray)) (inner := [.string (⟨#[49]⟩ : ByteArray)]) (ok := fun _ => True) (okp := fun _ => True) ?hr ?hp (fun _ hk => hk) trivial (Below.refl _ _) (Nat.le_refl _) (by simp) ?_; (case hd => rfl); (case hg => rfl); (case hr => first | (go_simp; done) | (go_simp; rfl)); (case hp => exact (Reps.one (show Kd.M Kd.string _ _ _ (⟨#[49]⟩ : ByteArray) [.string (⟨#[49]⟩ : ByteArray)] from rfl) (Reps.none _ _))); intro v130 w5 ho6 hb hg_ hnew_; clear hg_ hnew_; (first | rw [← Ny129.out] at ho6 | (simp only [Int.reduceToNat] at ho6; rw [← Ny129.out] at ho6)); have n0_ := Aside0.mk (Kd.R_elder' (rowN HO_1.out) (Kd.R_base ho6) hb); have n1_ := Aside0.mk (Kd.R_lower (Kd.R_new' ho6 (Kd.R_lt (rowN HO_1.out))) (below_size (belN HB.out))); have n2_ := Aside0.mk (below_step (belN HB.out) hb); clear HO_1; clear HB; have HO_1 := n0_; have HO131 := n1_; have HB := n2_; clear n0_ n1_ n2_; clear hb ho6) | ((with_reducible refine gate_dst (N := 13) rfl ?_); refine Kd.R_lit Kd.string _ 9 ?hg (N := 13) ?hd (xs := ([(⟨#[50]⟩ : ByteArray)] : List ByteArray)) (inner := [.string (⟨#[50]⟩ : ByteArray)]) (ok := fun _ => True) (okp := fun _ => True) ?hr ?hp (fun _ hk => hk) trivial (Below.refl _ _) (Nat.le_refl _) (by simp) ?_; (case hd => rfl); (case hg => rfl); (case hr => first | (go_simp; done) | (go_simp; rfl)); (case hp => exact (Reps.one (show Kd.M Kd.string _ _ _ (⟨#[50]⟩ : ByteArray) [.string (⟨#[50]⟩ : ByteArray)] from rfl) (Reps.none _ _))); intro v133 w7 ho8 hb hg_ hnew_; clear hg_ hnew_; (first | rw [← Ny132.out] at ho8 | (simp only [Int.reduceToNat] at ho8; rw [← Ny132.out] at ho8)); have n0_ := Aside0.mk (Kd.R_elder' (rowN HO_1.out) (Kd.R_base ho8) hb); have n1_ := Aside0.mk (Kd.R_elder' (rowN HO131.out) (Kd.R_base ho8) hb); have n2_ := Aside0.mk (Kd.R_lower (Kd.R_new' (Kd.R_new' ho8 (Kd.R_lt (rowN HO_1.out))) (Kd.R_lt (rowN HO131.out))) (below_size (belN HB.out))); have n3_ := Aside0.mk (below_step (belN HB.out) hb); clear HO_1; clear HO131; clear HB; have HO_1 := n0_; have HO131 := n1_; have HO134 := n2_; have HB := n3_; clear n0_ n1_ n2_ n3_; clear hb ho8) | ((with_reducible refine gate_dst (N := 14) rfl ?_); refine Kd.R_lit Kd.string _ 9 ?hg (N := 14) ?hd (xs := ([(⟨#[50]⟩ : ByteArray), (⟨#[49]⟩ : ByteArray)] : List ByteArray)) (inner := [.string (⟨#[50]⟩ : ByteArray), .string (⟨#[49]⟩ : ByteArray)]) (ok := fun _ => True) (okp := fun _ => True) ?hr ?hp (fun _ hk => hk) trivial (Below.refl _ _) (Nat.le_refl _) (by simp) ?_; (case hd => rfl); (case hg => rfl); (case hr => first | (go_simp; done) | (go_simp; rfl)); (case hp => exact (Reps.one (show Kd.M Kd.string _ _ _ (⟨#[50]⟩ : ByteArray) [.string (⟨#[50]⟩ : ByteArray)] from rfl) (Reps.one (show Kd.M Kd.string _ _ _ (⟨#[49]⟩ : ByteArray) [.string (⟨#[49]⟩ : ByteArray)] from rfl) (Reps.none _ _)))); intro v136 w9 ho10 hb hg_ hnew_; clear hg_ hnew_; (first | rw [← Ny135.out] at ho10 | (simp only [Int.reduceToNat] at ho10; rw [← Ny135.out] at ho10)); have n0_ := Aside0.mk (Kd.R_elder' (rowN HO_1.out) (Kd.R_base ho10) hb); have n1_ := Aside0.mk (Kd.R_elder' (rowN HO131.out) (Kd.R_base ho10) hb); have n2_ := Aside0.mk (Kd.R_elder' (rowN HO134.out) (Kd.R_base ho10) hb); have n3_ := Aside0.mk (Kd.R_lower (Kd.R_new' (Kd.R_new' (Kd.R_new' ho10 (Kd.R_lt (rowN HO_1.out))) (Kd.R_lt (rowN HO131.out))) (Kd.R_lt (rowN HO134.out))) (below_size (belN HB.out))); have n4_ := Aside0.mk (below_step (belN HB.out) hb); clear HO_1; clear HO131; clear HO134; clear HB; have HO_1 := n0_; have HO131 := n1_; have HO134 := n2_; have HO137 := n3_; have HB := n4_; clear n0_ n1_ n2_ n3_ n4_; clear hb ho10) | ((with_reducible refine gate_dst (N := 15) rfl ?_); refine Kd.R_lit Kd.string _ 9 ?hg (N := 15) ?hd (xs := ([(⟨#[110, 111, 116, 32, 114, 105, 103, 104, 116]⟩ : ByteArray)] : List ByteArray)) (inner := [.string (⟨#[110, 111, 116, 32, 114, 105, 103, 104, 116]⟩ : ByteArray)]) (ok := fun _ => True) (okp := fun _ => True) ?hr ?hp (fun _ hk => hk) trivial (Below.refl _ _) (Nat.le_refl _) (by simp) ?_; (case hd => rfl); (case hg => rfl); (case hr => first | (go_simp; done) | (go_simp; rfl)); (case hp => exact (Reps.one (show Kd.M Kd.string _ _ _ (⟨#[110, 111, 116, 32, 114, 105, 103, 104, 116]⟩ : ByteArray) [.string (⟨#[110, 111, 116, 32, 114, 105, 103, 104, 116]⟩ : ByteArray)] from rfl) (Reps.none _ _))); intro v139 w11 ho12 hb hg_ hnew_; clear hg_ hnew_; (first | rw [← Ny138.out] at ho12 | (simp only [Int.reduceToNat] at ho12; rw [← Ny138.out] at ho12)); have n0_ := Aside0.mk (Kd.R_elder' (rowN HO_1.out) (Kd.R_base ho12) hb); have n1_ := Aside0.mk (Kd.R_elder' (rowN HO131.out) (Kd.R_base ho12) hb); have n2_ := Aside0.mk (Kd.R_elder' (rowN HO134.out) (Kd.R_base ho12) hb); have n3_ := Aside0.mk (Kd.R_elder' (rowN HO137.out) (Kd.R_base ho12) hb); have n4_ := Aside0.mk (Kd.R_lower (Kd.R_new' (Kd.R_new' (Kd.R_new' (Kd.R_new' ho12 (Kd.R_lt (rowN HO_1.out))) (Kd.R_lt (rowN HO131.out))) (Kd.R_lt (rowN HO134.out))) (Kd.R_lt (rowN HO137.out))) (below_size (belN HB.out))); have n5_ := Aside0.mk (below_step (belN HB.out) hb); clear HO_1; clear HO131; clear HO134; clear HO137; clear HB; have HO_1 := n0_; have HO131 := n1_; have HO134 := n2_; have HO137 := n3_; have HO140 := n4_; have HB := n5_; clear n0_ n1_ n2_ n3_ n4_ n5_; clear hb ho12) | ((with_reducible refine gate_dst (N := 16) rfl ?_); refine Kd.R_lit Kd.string _ 9 ?hg (N := 16) ?hd (xs := ([(⟨#[]⟩ : ByteArray)] : List ByteArray)) (inner := [.string (⟨#[]⟩ : ByteArray)]) (ok := fun _ => True) (okp := fun _ => True) ?hr ?hp (fun _ hk => hk) trivial (Below.refl _ _) (Nat.le_refl _) (by simp) ?_; (case hd => rfl); (case hg => rfl); (case hr => first | (go_simp; done) | (go_simp; rfl)); (case hp => exact (Reps.one (show Kd.M Kd.string _ _ _ (⟨#[]⟩ : ByteArray) [.string (⟨#[]⟩ : ByteArray)] from rfl) (Reps.none _ _))); intro v142 w13 ho14 hb hg_ hnew_; clear hg_ hnew_; (first | rw [← Ny141.out] at ho14 | (simp only [Int.reduceToNat] at ho14; rw [← Ny141.out] at ho14)); have n0_ := Aside0.mk (Kd.R_elder' (rowN HO_1.out) (Kd.R_base ho14) hb); have n1_ := Aside0.mk (Kd.R_elder' (rowN HO131.out) (Kd.R_base ho14) hb); have n2_ := Aside0.mk (Kd.R_elder' (rowN HO134.out) (Kd.R_base ho14) hb); have n3_ := Aside0.mk (Kd.R_elder' (rowN HO137.out) (Kd.R_base ho14) hb); have n4_ := Aside0.mk (Kd.R_elder' (rowN HO140.out) (Kd.R_base ho14) hb); have n5_ := Aside0.mk (Kd.R_lower (Kd.R_new' (Kd.R_new' (Kd.R_new' (Kd.R_new' (Kd.R_new' ho14 (Kd.R_lt (rowN HO_1.out))) (Kd.R_lt (rowN HO131.out))) (Kd.R_lt (rowN HO134.out))) (Kd.R_lt (rowN HO137.out))) (Kd.R_lt (rowN HO140.out))) (below_size (belN HB.out))); have n6_ := Aside0.mk (below_step (belN HB.out) hb); clear HO_1; clear HO131; clear HO134; clear HO137; clear HO140; clear HB; have HO_1 := n0_; have HO131 := n1_; have HO134 := n2_; have HO137 := n3_; have HO140 := n4_; have HO143 := n5_; have HB := n6_; clear n0_ n1_ n2_ n3_ n4_ n5_ n6_; clear hb ho14; obtain ⟨Ao16, co16, eo16⟩ := Kd.R_slice HO_1.out; subst eo16; have q15 : (8 : Int) ≤ ((y125.length : Int) : Int) := of_decide_eq_true (by first | (with_reducible assumption) | assumption); obtain ⟨i015, hi015, _, hsz15, _⟩ := info_parts info9; have hroom15 : y125.length ≤ co16 := (Kd.R_reads' HO_1.out).2.1; have hC15 : Kd.F Kd.string _ _ Ao16 y125.length y125 := (Kd.V_at (base := w.heap.size) (Kd.R_V HO_1.out)).2.2; have hcut15 := cut_to (P := Try.prog) 27 9 .i64 Try.underlying27 hi015 Ao16 y125.length co16 8 (by omega) q15 hroom15; have hr15 := Kd.F_take (m := 8) hC15 (by omega); have hy15 : y144.length = (8 : Int).toNat := (by rw [Ny144.out, List.length_take]; omega); rw [← Ny144.out] at hr15; rw [← hy15] at hcut15; have HO148 := Aside0.mk (show Kd.V Kd.string 9 _ w.heap.size _ (.slice Ao16 y144.length co16) y144 from Kd.V_mk (by omega) hr15); have HC148 := Aside0.mk (show y144.length ≤ co16 from by omega); clear hr15 hC15 hroom15 hi015 hsz15; have KY15 := Aside0.mk hy15; clear hy15; replace q15 := eq_true q15; obtain ⟨Ao17, co17, eo17⟩ := Kd.R_slice HO131.out; subst eo17; obtain ⟨Ao18, co18, eo18⟩ := Kd.R_slice HO134.out; subst eo18; obtain ⟨Ao19, co19, eo19⟩ := Kd.R_slice HO137.out; subst eo19; obtain ⟨Ao20, co20, eo20⟩ := Kd.R_slice HO140.out; subst eo20; obtain ⟨Ao21, co21, eo21⟩ := Kd.R_slice HO143.out; subst eo21) | ((with_reducible refine gate_dst (N := 20) rfl ?_); refine Kd.N_lit (Kd.slice 9 Kd.string) _ 27 ?hg (N' := 20) ?hd (xs := ([[], y129, y132, y135, y138, y141, y125, y144] : List (List ByteArray))) (inner := [.slice none 0 0, .slice Ao17 y129.length co17, .slice Ao18 y132.length co18, .slice Ao19 y135.length co19, .slice Ao20 y138.length co20, .slice Ao21 y141.length co21, .slice Ao16 y125.length co16, .slice Ao16 y144.length co16]) (ok := (fun _ => True)) (okp := (fun _ => True)) ?hr ?hp (fun _ hk => hk) ((show ∀ k_, w13.heap.size ≤ k_ → (fun _ => True) k_ from fun k_ hk => trivial) _ (Nat.le_refl _)) (Below.refl _ _) (Nat.le_refl _) (by simp) ?_; (case hd => rfl); (case hg => rfl); (case hr => first | (go_simp; done) | (go_simp; rfl)); (case hp => exact (Reps.one (show Kd.FK (Kd.slice 9 Kd.string) _ _ [] [.slice none 0 0] from (Kd.FK_slice_mk (Nat.le_refl _) (Kd.F_nil _ _ _))) (Reps.one (show Kd.FK (Kd.slice 9 Kd.string) _ _ y129 [.slice Ao17 y129.length co17] from (Kd.FK_slice_mk (Kd.R_reads' (Kd.R_mono (ok' := (fun _ => True)) (HO131.out) (fun k_ hk => trivial))).2.1 (Kd.R_F (Kd.R_mono (ok' := (fun _ => True)) (HO131.out) (fun k_ hk => trivial))))) (Reps.one (show Kd.FK (Kd.slice 9 Kd.string) _ _ y132 [.slice Ao18 y132.length co18] from (Kd.FK_slice_mk (Kd.R_reads' (Kd.R_mono (ok' := (fun _ => True)) (HO134.out) (fun k_ hk => trivial))).2.1 (Kd.R_F (Kd.R_mono (ok' := (fun _ => True)) (HO134.out) (fun k_ hk => trivial))))) (Reps.one (show Kd.FK (Kd.slice 9 Kd.string) _ _ y135 [.slice Ao19 y135.length co19] from (Kd.FK_slice_mk (Kd.R_reads' (Kd.R_mono (ok' := (fun _ => True)) (HO137.out) (fun k_ hk => trivial))).2.1 (Kd.R_F (Kd.R_mono (ok' := (fun _ => True)) (HO137.out) (fun k_ hk => trivial))))) (Reps.one (show Kd.FK (Kd.slice 9 Kd.string) _ _ y138 [.slice Ao20 y138.length co20] from (Kd.FK_slice_mk (Kd.R_reads' (Kd.R_mono (ok' := (fun _ => True)) (HO140.out) (fun k_ hk => trivial))).2.1 (Kd.R_F (Kd.R_mono (ok' := (fun _ => True)) (HO140.out) (fun k_ hk => trivial))))) (Reps.one (show Kd.FK (Kd.slice 9 Kd.string) _ _ y141 [.slice Ao21 y141.length co21] from (Kd.FK_slice_mk (Kd.R_reads' (Kd.R_mono (ok' := (fun _ => True)) (HO143.out) (fun k_ hk => trivial))).2.1 (Kd.R_F (Kd.R_mono (ok' := (fun _ => True)) (HO143.out) (fun k_ hk => trivial))))) (Reps.one (show Kd.FK (Kd.slice 9 Kd.string) _ _ y125 [.slice Ao16 y125.length co16] from (Kd.FK_slice_mk (Kd.R_reads' (Kd.R_mono (ok' := (fun _ => True)) (HO_1.out) (fun k_ hk => trivial))).2.1 (Kd.R_F (Kd.R_mono (ok' := (fun _ => True)) (HO_1.out) (fun k_ hk => trivial))))) (Reps.one (show Kd.FK (Kd.slice 9 Kd.string) _ _ y144 [.slice Ao16 y144.length co16] from (Kd.FK_slice_mk (Kd.V_reads' (Kd.V_mono (ok' := (fun _ => True)) (HO148.out) (fun k_ hk => trivial))).2.1 (Kd.V_F (Kd.V_mono (ok' := (fun _ => True)) (HO148.out) (fun k_ hk => trivial))))) (Reps.none _ _)))))))))); intro v150 w22 ho23 hb hg_ hnew_; clear hg_ hnew_; (first | rw [← Ny149.out] at ho23 | (simp only [Int.reduceToNat] at ho23; rw [← Ny149.out] at ho23)); have n0_ := Aside0.mk (Kd.V_elder' (by (with_reducible repeat (first | apply Kd.V_alloc | apply Kd.V_drewN | apply Kd.V_drew)); exact HO148.out) (Kd.N_base ho23) hb); have n1_ := Aside0.mk (Kd.N_lower ho23 (below_size (belN HB.out))); have n2_ := Aside0.mk (below_step (belN HB.out) hb); have n3_ := Aside0.mk (Kd.R_mono (ok' := fun _ => True) (Kd.R_below HO_1.out hb) (fun _ _ => trivial)); clear HO148; clear HB; clear HO131; clear HO134; clear HO137; clear HO140; clear HO143; clear HO_1; have HO_1 := n3_; clear n3_; have HO148 := n0_; have HO151 := n1_; have HB := n2_; clear n0_ n1_ n2_; clear hb ho23; obtain ⟨Ao24, co24, eo24⟩ := Kd.N_slice HO151.out; subst eo24))
     go_loopg [22] k1 (fun kq v22 w' => ∃ (x22_2 : Int), v22 = .int .i64 x22_2 ∧ Aside0 (marigraphlaw19_FilterNumbers.l1 kq y125 x2_1 y149 (y149.length : Int) x22_2 = some r) ∧ Aside0 (kq ≤ k1) ∧ Aside0 (Kd.R Kd.string 9 w' w.heap.size (fun _ => True) (.slice Ao16 y125.length co16) y125) ∧ Aside0 (Kd.N (Kd.slice 9 Kd.string) 27 w' w.heap.size (fun _ => True) (.slice Ao24 y149.length co24) y149) ∧ Aside0 (Below w.heap.size w w'))
     case atStart => exact ⟨(0), (by first | rfl | (simp; done) | (simp [*]; done)), H', ⟨Nat.le_refl _⟩, ⟨(rowN HO_1.out)⟩, ⟨by (with_reducible repeat (first | apply Kd.N_alloc | apply Kd.N_drewN | apply Kd.N_drew)); exact HO151.out⟩, ⟨(belN HB.out)⟩⟩
     case round =>
      clear H'
      try clear q1
      try clear p2
      try clear c3
      try clear c3b0
      try clear c4
      try clear c4b0
      try clear c4b1
      try clear c5
      try clear q15
      try clear p2
      try clear q15
      obtain ⟨x22_2, rfl, HA, HK2, HO_1, HO_20, HB⟩ := hrel
      cases gk with
      | zero => exact absurd HA.out (by simp [marigraphlaw19_FilterNumbers.l1])
      | succ k2 =>
       have H := HA.out
       clear HA
       simp only [marigraphlaw19_FilterNumbers.l1] at H
       by_cases c25 : x22_2 < (y149.length : Int)
       ·rw [if_pos c25] at H
        have c25b0 : decide (x22_2 < (y149.length : Int)) = true := decide_eq_true c25
        clear c25
        by_cases c26 : 0 ≤ x22_2
        ·rw [if_pos c26] at H
         have c26b0 : decide (0 ≤ x22_2) = true := decide_eq_true c26
         clear c26
         by_cases c27 : x22_2 < (y149.length : Int)
         ·rw [if_pos c27] at H
          have c27b0 : decide (x22_2 < (y149.length : Int)) = true := decide_eq_true c27
          clear c27
          obtain ⟨y153, hy153⟩ : ∃ y_ : List (S44), y_ = (([(⟨(⟨#[97]⟩ : ByteArray), (⟨#[49]⟩ : ByteArray)⟩ : S44)] : List (S44))) := ⟨_, rfl⟩
          replace H : ((some (([[], y153, (([(⟨(⟨#[97]⟩ : ByteArray), (⟨#[51]⟩ : ByteArray)⟩ : S44), (⟨(⟨#[98]⟩ : ByteArray), (⟨#[49]⟩ : ByteArray)⟩ : S44)] : List (S44))), (([(⟨(⟨#[99]⟩ : ByteArray), (⟨#[57]⟩ : ByteArray)⟩ : S44)] : List (S44)))] : List (List (S44))) : List (List (S44)))).bind fun y162 => (marigraphlaw19_FilterNumbers.l2 k2 y125 x2_1 (rd_L2 y149 x22_2) y149 (y149.length : Int) x22_2 y162 (y162.length : Int) 0)) = some r := by first | (rw [hy153]; with_reducible exact H) | (have H2_ := (Option.bind_some _ _).symm.trans H; rw [hy153]; with_reducible exact H2_) | (have H2_ := (Option.bind_some _ _).symm.trans H; with_reducible exact H2_) | with_reducible exact H | (rw [hy153]; exact H) | exact H
          have Ny153 := Aside0.mk hy153
          clear hy153
          obtain ⟨y156, hy156⟩ : ∃ y_ : List (S44), y_ = (([(⟨(⟨#[97]⟩ : ByteArray), (⟨#[51]⟩ : ByteArray)⟩ : S44), (⟨(⟨#[98]⟩ : ByteArray), (⟨#[49]⟩ : ByteArray)⟩ : S44)] : List (S44))) := ⟨_, rfl⟩
          replace H : ((some (([[], y153, y156, (([(⟨(⟨#[99]⟩ : ByteArray), (⟨#[57]⟩ : ByteArray)⟩ : S44)] : List (S44)))] : List (List (S44))) : List (List (S44)))).bind fun y162 => (marigraphlaw19_FilterNumbers.l2 k2 y125 x2_1 (rd_L2 y149 x22_2) y149 (y149.length : Int) x22_2 y162 (y162.length : Int) 0)) = some r := by first | (rw [hy156]; with_reducible exact H) | (have H2_ := (Option.bind_some _ _).symm.trans H; rw [hy156]; with_reducible exact H2_) | (have H2_ := (Option.bind_some _ _).symm.trans H; with_reducible exact H2_) | with_reducible exact H | (rw [hy156]; exact H) | exact H
          have Ny156 := Aside0.mk hy156
          clear hy156
          obtain ⟨y159, hy159⟩ : ∃ y_ : List (S44), y_ = (([(⟨(⟨#[99]⟩ : ByteArray), (⟨#[57]⟩ : ByteArray)⟩ : S44)] : List (S44))) := ⟨_, rfl⟩
          replace H : ((some (([[], y153, y156, y159] : List (List (S44))) : List (List (S44)))).bind fun y162 => (marigraphlaw19_FilterNumbers.l2 k2 y125 x2_1 (rd_L2 y149 x22_2) y149 (y149.length : Int) x22_2 y162 (y162.length : Int) 0)) = some r := by first | (rw [hy159]; with_reducible exact H) | (have H2_ := (Option.bind_some _ _).symm.trans H; rw [hy159]; with_reducible exact H2_) | (have H2_ := (Option.bind_some _ _).symm.trans H; with_reducible exact H2_) | with_reducible exact H | (rw [hy159]; exact H) | exact H
          have Ny159 := Aside0.mk hy159
          clear hy159
          obtain ⟨y162, hy162⟩ : ∃ y_ : List (List (S44)), y_ = (([[], y153, y156, y159] : List (List (S44)))) := ⟨_, rfl⟩
          replace H : (marigraphlaw19_FilterNumbers.l2 k2 y125 x2_1 (rd_L2 y149 x22_2) y149 (y149.length : Int) x22_2 y162 (y162.length : Int) 0) = some r := by first | (rw [hy162]; with_reducible exact H) | (have H2_ := (Option.bind_some _ _).symm.trans H; rw [hy162]; with_reducible exact H2_) | (have H2_ := (Option.bind_some _ _).symm.trans H; with_reducible exact H2_) | with_reducible exact H | (rw [hy162]; exact H) | exact H
          have Ny162 := Aside0.mk hy162
          clear hy162
          have H' := Aside0.mk H
          clear H
          have p152 : 0 ≤ (x22_2 : Int) := of_decide_eq_true (by first | (with_reducible assumption) | assumption)
          have q152 : x22_2 < (y149.length : Int) := of_decide_eq_true (by first | (with_reducible assumption) | assumption)
          obtain ⟨ad152, A152_0, c152_0, e152, hx152_0, hl152_0, hi152_0⟩ := at_L2 (Kd.N_reads' HO_20.out).2.2 x22_2 p152 q152
          cases e152
          obtain ⟨ce152, hce152, hMe152, hcc152⟩ := Kd.N_get HO_20.out [] x22_2 p152 (by first | exact q152 | exact of_decide_eq_true (by first | (with_reducible assumption) | assumption) | (have e_ := (Kd.N_reads' HO_20.out).1; omega))
          obtain ⟨ua152_0, uc152_0, rfl, ul152_0, ge152_0⟩ := Kd.FK_slice_open hMe152
          have hv152_0 := hcc152 0 _ rfl
          rw [Nat.add_zero, show ((Kd.slice 9 Kd.string)).sz = 1 from rfl, Nat.mul_one] at hv152_0
          replace hv152_0 := Option.some.inj (hv152_0.symm.trans hx152_0)
          injection hv152_0 with hva_ hvn_ hvc_
          rw [hva_] at ge152_0
          rw [hvc_] at ul152_0
          have HL152_0 := Aside0.mk (show Kd.V Kd.string 9 _ w.heap.size _ _ (rd_L2 y149 x22_2) from Kd.V_mk ul152_0 ge152_0)
          clear hva_ hvn_ hvc_ ge152_0 ul152_0
          clear hcc152 hce152
          have HR152_0 := Aside0.mk hi152_0
          have HC152_0 := Aside0.mk hl152_0
          clear hi152_0 hl152_0
          replace p152 := eq_true p152
          replace q152 := eq_true q152
          go_wp2_with (first | ((with_reducible refine gate_dst (N := 27) rfl ?_); refine Kd.R_lit k44 _ 44 ?hg (N := 27) ?hd (xs := ([(⟨(⟨#[97]⟩ : ByteArray), (⟨#[49]⟩ : ByteArray)⟩ : S44)] : List (S44))) (inner := [.string (⟨#[97]⟩ : ByteArray), .string (⟨#[49]⟩ : ByteArray)]) (ok := fun _ => True) (okp := fun _ => True) ?hr ?hp (fun _ hk => hk) trivial (Below.refl _ _) (Nat.le_refl _) (by simp) ?_; (case hd => rfl); (case hg => rfl); (case hr => first | (go_simp; done) | (go_simp; rfl)); (case hp => exact (Reps.c2 (show Kd.M k44 _ _ _ (⟨(⟨#[97]⟩ : ByteArray), (⟨#[49]⟩ : ByteArray)⟩ : S44) [.string (⟨#[97]⟩ : ByteArray), .string (⟨#[49]⟩ : ByteArray)] from (k44_mkM _ _ _ (⟨(⟨#[97]⟩ : ByteArray), (⟨#[49]⟩ : ByteArray)⟩ : S44) )) (Reps.none _ _))); intro v154 w28 ho29 hb hg_ hnew_; clear hg_ hnew_; (first | rw [← Ny153.out] at ho29 | (simp only [Int.reduceToNat] at ho29; rw [← Ny153.out] at ho29)); have n0_ := Aside0.mk (Kd.R_below (rowN HO_1.out) hb); have n1_ := Aside0.mk (Kd.N_elder' (by (with_reducible repeat (first | apply Kd.N_alloc | apply Kd.N_drewN | apply Kd.N_drew)); exact HO_20.out) (Kd.R_base ho29) hb); have n2_ := Aside0.mk (Kd.V_elder' (by (with_reducible repeat (first | apply Kd.V_alloc | apply Kd.V_drewN | apply Kd.V_drew)); exact HL152_0.out) (Kd.R_base ho29) hb); have n3_ := Aside0.mk (Kd.R_lower ho29 (below_size (belN HB.out))); have n4_ := Aside0.mk (cbN HR152_0.out hb); have n5_ := Aside0.mk (below_step (belN HB.out) hb); clear HO_1; clear HO_20; clear HL152_0; clear HR152_0; clear HB; have HO_1 := n0_; have HO_20 := n1_; have HL152_0 := n2_; have HO155 := n3_; have HR152_0 := n4_; have HB := n5_; clear n0_ n1_ n2_ n3_ n4_ n5_; clear hb ho29) | ((with_reducible refine gate_dst (N := 30) rfl ?_); refine Kd.R_lit k44 _ 44 ?hg (N := 30) ?hd (xs := ([(⟨(⟨#[97]⟩ : ByteArray), (⟨#[51]⟩ : ByteArray)⟩ : S44), (⟨(⟨#[98]⟩ : ByteArray), (⟨#[49]⟩ : ByteArray)⟩ : S44)] : List (S44))) (inner := [.string (⟨#[97]⟩ : ByteArray), .string (⟨#[51]⟩ : ByteArray), .string (⟨#[98]⟩ : ByteArray), .string (⟨#[49]⟩ : ByteArray)]) (ok := fun _ => True) (okp := fun _ => True) ?hr ?hp (fun _ hk => hk) trivial (Below.refl _ _) (Nat.le_refl _) (by simp) ?_; (case hd => rfl); (case hg => rfl); (case hr => first | (go_simp; done) | (go_simp; rfl)); (case hp => exact (Reps.c2 (show Kd.M k44 _ _ _ (⟨(⟨#[97]⟩ : ByteArray), (⟨#[51]⟩ : ByteArray)⟩ : S44) [.string (⟨#[97]⟩ : ByteArray), .string (⟨#[51]⟩ : ByteArray)] from (k44_mkM _ _ _ (⟨(⟨#[97]⟩ : ByteArray), (⟨#[51]⟩ : ByteArray)⟩ : S44) )) (Reps.c2 (show Kd.M k44 _ _ _ (⟨(⟨#[98]⟩ : ByteArray), (⟨#[49]⟩ : ByteArray)⟩ : S44) [.string (⟨#[98]⟩ : ByteArray), .string (⟨#[49]⟩ : ByteArray)] from (k44_mkM _ _ _ (⟨(⟨#[98]⟩ : ByteArray), (⟨#[49]⟩ : ByteArray)⟩ : S44) )) (Reps.none _ _)))); intro v157 w30 ho31 hb hg_ hnew_; clear hg_ hnew_; (first | rw [← Ny156.out] at ho31 | (simp only [Int.reduceToNat] at ho31; rw [← Ny156.out] at ho31)); have n0_ := Aside0.mk (Kd.R_below (rowN HO_1.out) hb); have n1_ := Aside0.mk (Kd.N_elder' (by (with_reducible repeat (first | apply Kd.N_alloc | apply Kd.N_drewN | apply Kd.N_drew)); exact HO_20.out) (Kd.R_base ho31) hb); have n2_ := Aside0.mk (Kd.V_elder' (by (with_reducible repeat (first | apply Kd.V_alloc | apply Kd.V_drewN | apply Kd.V_drew)); exact HL152_0.out) (Kd.R_base ho31) hb); have n3_ := Aside0.mk (Kd.R_elder' (rowN HO155.out) (Kd.R_base ho31) hb); have n4_ := Aside0.mk (Kd.R_lower (Kd.R_new' ho31 (Kd.R_lt (rowN HO155.out))) (below_size (belN HB.out))); have n5_ := Aside0.mk (cbN HR152_0.out hb); have n6_ := Aside0.mk (below_step (belN HB.out) hb); clear HO_1; clear HO_20; clear HL152_0; clear HO155; clear HR152_0; clear HB; have HO_1 := n0_; have HO_20 := n1_; have HL152_0 := n2_; have HO155 := n3_; have HO158 := n4_; have HR152_0 := n5_; have HB := n6_; clear n0_ n1_ n2_ n3_ n4_ n5_ n6_; clear hb ho31) | ((with_reducible refine gate_dst (N := 32) rfl ?_); refine Kd.R_lit k44 _ 44 ?hg (N := 32) ?hd (xs := ([(⟨(⟨#[99]⟩ : ByteArray), (⟨#[57]⟩ : ByteArray)⟩ : S44)] : List (S44))) (inner := [.string (⟨#[99]⟩ : ByteArray), .string (⟨#[57]⟩ : ByteArray)]) (ok := fun _ => True) (okp := fun _ => True) ?hr ?hp (fun _ hk => hk) trivial (Below.refl _ _) (Nat.le_refl _) (by simp) ?_; (case hd => rfl); (case hg => rfl); (case hr => first | (go_simp; done) | (go_simp; rfl)); (case hp => exact (Reps.c2 (show Kd.M k44 _ _ _ (⟨(⟨#[99]⟩ : ByteArray), (⟨#[57]⟩ : ByteArray)⟩ : S44) [.string (⟨#[99]⟩ : ByteArray), .string (⟨#[57]⟩ : ByteArray)] from (k44_mkM _ _ _ (⟨(⟨#[99]⟩ : ByteArray), (⟨#[57]⟩ : ByteArray)⟩ : S44) )) (Reps.none _ _))); intro v160 w32 ho33 hb hg_ hnew_; clear hg_ hnew_; (first | rw [← Ny159.out] at ho33 | (simp only [Int.reduceToNat] at ho33; rw [← Ny159.out] at ho33)); have n0_ := Aside0.mk (Kd.R_below (rowN HO_1.out) hb); have n1_ := Aside0.mk (Kd.N_elder' (by (with_reducible repeat (first | apply Kd.N_alloc | apply Kd.N_drewN | apply Kd.N_drew)); exact HO_20.out) (Kd.R_base ho33) hb); have n2_ := Aside0.mk (Kd.V_elder' (by (with_reducible repeat (first | apply Kd.V_alloc | apply Kd.V_drewN | apply Kd.V_drew)); exact HL152_0.out) (Kd.R_base ho33) hb); have n3_ := Aside0.mk (Kd.R_elder' (rowN HO155.out) (Kd.R_base ho33) hb); have n4_ := Aside0.mk (Kd.R_elder' (rowN HO158.out) (Kd.R_base ho33) hb); have n5_ := Aside0.mk (Kd.R_lower (Kd.R_new' (Kd.R_new' ho33 (Kd.R_lt (rowN HO155.out))) (Kd.R_lt (rowN HO158.out))) (below_size (belN HB.out))); have n6_ := Aside0.mk (cbN HR152_0.out hb); have n7_ := Aside0.mk (below_step (belN HB.out) hb); clear HO_1; clear HO_20; clear HL152_0; clear HO155; clear HO158; clear HR152_0; clear HB; have HO_1 := n0_; have HO_20 := n1_; have HL152_0 := n2_; have HO155 := n3_; have HO158 := n4_; have HO161 := n5_; have HR152_0 := n6_; have HB := n7_; clear n0_ n1_ n2_ n3_ n4_ n5_ n6_ n7_; clear hb ho33; obtain ⟨Ao34, co34, eo34⟩ := Kd.R_slice HO155.out; subst eo34; obtain ⟨Ao35, co35, eo35⟩ := Kd.R_slice HO158.out; subst eo35; obtain ⟨Ao36, co36, eo36⟩ := Kd.R_slice HO161.out; subst eo36) | ((with_reducible refine gate_dst (N := 33) rfl ?_); refine Kd.N_lit (Kd.slice 44 k44) _ 31 ?hg (N' := 33) ?hd (xs := ([[], y153, y156, y159] : List (List (S44)))) (inner := [.slice none 0 0, .slice Ao34 y153.length co34, .slice Ao35 y156.length co35, .slice Ao36 y159.length co36]) (ok := (fun k_ => some k_ ≠ (.slice Ao16 y125.length co16 : Value).ownBlock ∧ some k_ ≠ (.slice (some ad152) y149.length co24 : Value).ownBlock)) (okp := (fun k_ => some k_ ≠ (.slice Ao16 y125.length co16 : Value).ownBlock ∧ some k_ ≠ (.slice (some ad152) y149.length co24 : Value).ownBlock)) ?hr ?hp (fun _ hk => hk) ((show ∀ k_, w32.heap.size ≤ k_ → (fun k_ => some k_ ≠ (.slice Ao16 y125.length co16 : Value).ownBlock ∧ some k_ ≠ (.slice (some ad152) y149.length co24 : Value).ownBlock) k_ from fun k_ hk => ⟨Kd.fresh' (Kd.R_lt (rowN HO_1.out)) k_ hk, Kd.fresh' (Kd.N_lt (by (with_reducible repeat (first | apply Kd.N_alloc | apply Kd.N_drewN | apply Kd.N_drew)); exact HO_20.out)) k_ hk⟩) _ (Nat.le_refl _)) (Below.refl _ _) (Nat.le_refl _) (by simp) ?_; (case hd => rfl); (case hg => rfl); (case hr => first | (go_simp; done) | (go_simp; rfl)); (case hp => exact (Reps.one (show Kd.FK (Kd.slice 44 k44) _ _ [] [.slice none 0 0] from (Kd.FK_slice_mk (Nat.le_refl _) (Kd.F_nil _ _ _))) (Reps.one (show Kd.FK (Kd.slice 44 k44) _ _ y153 [.slice Ao34 y153.length co34] from (Kd.FK_slice_mk (Kd.R_reads' (Kd.R_mono (ok' := (fun k_ => some k_ ≠ (.slice Ao16 y125.length co16 : Value).ownBlock ∧ some k_ ≠ (.slice (some ad152) y149.length co24 : Value).ownBlock)) (Kd.R_apart' (Kd.R_apart' (HO155.out) (Kd.R_typed HO_1.out) (by decide)) (Kd.N_typed HO_20.out) (by decide)) (fun k_ hk => ⟨hk.1.2, hk.2⟩))).2.1 (Kd.R_F (Kd.R_mono (ok' := (fun k_ => some k_ ≠ (.slice Ao16 y125.length co16 : Value).ownBlock ∧ some k_ ≠ (.slice (some ad152) y149.length co24 : Value).ownBlock)) (Kd.R_apart' (Kd.R_apart' (HO155.out) (Kd.R_typed HO_1.out) (by decide)) (Kd.N_typed HO_20.out) (by decide)) (fun k_ hk => ⟨hk.1.2, hk.2⟩))))) (Reps.one (show Kd.FK (Kd.slice 44 k44) _ _ y156 [.slice Ao35 y156.length co35] from (Kd.FK_slice_mk (Kd.R_reads' (Kd.R_mono (ok' := (fun k_ => some k_ ≠ (.slice Ao16 y125.length co16 : Value).ownBlock ∧ some k_ ≠ (.slice (some ad152) y149.length co24 : Value).ownBlock)) (Kd.R_apart' (Kd.R_apart' (HO158.out) (Kd.R_typed HO_1.out) (by decide)) (Kd.N_typed HO_20.out) (by decide)) (fun k_ hk => ⟨hk.1.2, hk.2⟩))).2.1 (Kd.R_F (Kd.R_mono (ok' := (fun k_ => some k_ ≠ (.slice Ao16 y125.length co16 : Value).ownBlock ∧ some k_ ≠ (.slice (some ad152) y149.length co24 : Value).ownBlock)) (Kd.R_apart' (Kd.R_apart' (HO158.out) (Kd.R_typed HO_1.out) (by decide)) (Kd.N_typed HO_20.out) (by decide)) (fun k_ hk => ⟨hk.1.2, hk.2⟩))))) (Reps.one (show Kd.FK (Kd.slice 44 k44) _ _ y159 [.slice Ao36 y159.length co36] from (Kd.FK_slice_mk (Kd.R_reads' (Kd.R_mono (ok' := (fun k_ => some k_ ≠ (.slice Ao16 y125.length co16 : Value).ownBlock ∧ some k_ ≠ (.slice (some ad152) y149.length co24 : Value).ownBlock)) (Kd.R_apart' (Kd.R_apart' (HO161.out) (Kd.R_typed HO_1.out) (by decide)) (Kd.N_typed HO_20.out) (by decide)) (fun k_ hk => ⟨hk.1.2, hk.2⟩))).2.1 (Kd.R_F (Kd.R_mono (ok' := (fun k_ => some k_ ≠ (.slice Ao16 y125.length co16 : Value).ownBlock ∧ some k_ ≠ (.slice (some ad152) y149.length co24 : Value).ownBlock)) (Kd.R_apart' (Kd.R_apart' (HO161.out) (Kd.R_typed HO_1.out) (by decide)) (Kd.N_typed HO_20.out) (by decide)) (fun k_ hk => ⟨hk.1.2, hk.2⟩))))) (Reps.none _ _)))))); intro v163 w37 ho38 hb hg_ hnew_; clear hg_ hnew_; (first | rw [← Ny162.out] at ho38 | (simp only [Int.reduceToNat] at ho38; rw [← Ny162.out] at ho38)); have n0_ := Aside0.mk (Kd.R_below (rowN HO_1.out) hb); have n1_ := Aside0.mk (Kd.N_elder' (by (with_reducible repeat (first | apply Kd.N_alloc | apply Kd.N_drewN | apply Kd.N_drew)); exact HO_20.out) (Kd.N_base ho38) hb); have n2_ := Aside0.mk (Kd.V_elder' (by (with_reducible repeat (first | apply Kd.V_alloc | apply Kd.V_drewN | apply Kd.V_drew)); exact HL152_0.out) (Kd.N_base ho38) hb); have n3_ := Aside0.mk (Kd.N_lower ho38 (below_size (belN HB.out))); have n4_ := Aside0.mk (cbN HR152_0.out hb); have n5_ := Aside0.mk (below_step (belN HB.out) hb); clear HO_1; clear HO_20; clear HL152_0; clear HR152_0; clear HB; clear HO155; clear HO158; clear HO161; have HO_1 := n0_; have HO_20 := n1_; have HL152_0 := n2_; have HO164 := n3_; have HR152_0 := n4_; have HB := n5_; clear n0_ n1_ n2_ n3_ n4_ n5_; clear hb ho38; obtain ⟨Ao39, co39, eo39⟩ := Kd.N_slice HO164.out; subst eo39))
          go_loopg [35] k2 (fun kq v35 w' => ∃ (x35_3 : Int), v35 = .int .i64 x35_3 ∧ Aside0 (marigraphlaw19_FilterNumbers.l2 kq y125 x2_1 (rd_L2 y149 x22_2) y149 (y149.length : Int) x22_2 y162 (y162.length : Int) x35_3 = some r) ∧ Aside0 (kq ≤ k2) ∧ Aside0 (Kd.R Kd.string 9 w' w.heap.size (fun _ => True) (.slice Ao16 y125.length co16) y125) ∧ Aside0 (Kd.N (Kd.slice 9 Kd.string) 27 w' w.heap.size (fun k_ => some k_ ≠ ((.slice Ao39 y162.length co39) : Value).ownBlock) (.slice (some ad152) y149.length co24) y149) ∧ Aside0 (Kd.N (Kd.slice 44 k44) 31 w' w.heap.size (fun k_ => some k_ ≠ ((.slice Ao16 y125.length co16) : Value).ownBlock ∧ some k_ ≠ ((.slice (some ad152) y149.length co24) : Value).ownBlock) (.slice Ao39 y162.length co39) y162) ∧ Aside0 (Kd.C Kd.string w' A152_0 (rd_L2 y149 x22_2).length (rd_L2 y149 x22_2)) ∧ Aside0 (Below w.heap.size w w'))
          case atStart => exact ⟨(0), (by first | rfl | (simp; done) | (simp [*]; done)), H', ⟨Nat.le_refl _⟩, ⟨(rowN HO_1.out)⟩, ⟨by (with_reducible repeat (first | apply Kd.N_alloc | apply Kd.N_drewN | apply Kd.N_drew)); exact Kd.N_mono HO_20.out (fun _ hk => hk.2)⟩, ⟨by (with_reducible repeat (first | apply Kd.N_alloc | apply Kd.N_drewN | apply Kd.N_drew)); exact HO164.out⟩, ⟨by repeat (first | (with_reducible exact HR152_0.out) | (with_reducible refine Kd.C_alloc ?_ _) | (with_reducible refine Kd.C_drewN ?_ _) | (with_reducible refine Kd.C_drew ?_) | exact HR152_0.out)⟩, ⟨(belN HB.out)⟩⟩
          case round =>
           clear H'
           try clear c1
           try clear p1
           try clear q1
           try clear hx1
           try clear c2
           try clear p2
           try clear c3
           try clear c3b0
           try clear c4
           try clear c4b0
           try clear c4b1
           try clear c5
           try clear c15
           try clear p15
           try clear q15
           try clear hx15
           try clear c25
           try clear c25b0
           try clear c26
           try clear c26b0
           try clear c27
           try clear c27b0
           try clear hx152_0
           try clear p152
           try clear p2
           try clear q1
           try clear q15
           try clear q152
           obtain ⟨x35_3, rfl, HA, HK3, HO_1, HO_20, HO_33, HR152_0, HB⟩ := hrel
           cases gk with
           | zero => exact absurd HA.out (by simp [marigraphlaw19_FilterNumbers.l2])
           | succ k3 =>
            have H := HA.out
            clear HA
            simp only [marigraphlaw19_FilterNumbers.l2] at H
            by_cases c40 : x35_3 < (y162.length : Int)
            ·rw [if_pos c40] at H
             have c40b0 : decide (x35_3 < (y162.length : Int)) = true := decide_eq_true c40
             clear c40
             by_cases c41 : 0 ≤ x35_3
             ·rw [if_pos c41] at H
              have c41b0 : decide (0 ≤ x35_3) = true := decide_eq_true c41
              clear c41
              by_cases c42 : x35_3 < (y162.length : Int)
              ·rw [if_pos c42] at H
               have c42b0 : decide (x35_3 < (y162.length : Int)) = true := decide_eq_true c42
               clear c42
               replace H := Option.bind_eq_some_iff.mp H
               obtain ⟨t166, A430, H⟩ := H
               replace H : (if t166 = true then ((marigraphlaw19_same.f k3 (⟨#[]⟩ : ByteArray) x2_1 (rd_L2 y149 x22_2) (rd_L5 y162 x35_3)).bind fun t167 => (if t167 = true then (marigraphlaw19_FilterNumbers.l2 k3 y125 x2_1 (rd_L2 y149 x22_2) y149 (y149.length : Int) x22_2 y162 (y162.length : Int) (wrap64 (x35_3 + 1))) else (some false))) else (some false)) = some r := H
               have A43 := Aside0.mk A430
               clear A430
               by_cases c44 : t166 = true
               ·subst c44
                have H1 : ((marigraphlaw19_same.f k3 (⟨#[]⟩ : ByteArray) x2_1 (rd_L2 y149 x22_2) (rd_L5 y162 x35_3)).bind fun t167 => (if t167 = true then (marigraphlaw19_FilterNumbers.l2 k3 y125 x2_1 (rd_L2 y149 x22_2) y149 (y149.length : Int) x22_2 y162 (y162.length : Int) (wrap64 (x35_3 + 1))) else (some false))) = some r := by rw [if_pos rfl] at H; exact H
                clear H
                have H := H1
                clear H1
                replace H := Option.bind_eq_some_iff.mp H
                obtain ⟨t167, A450, H⟩ := H
                replace H : (if t167 = true then (marigraphlaw19_FilterNumbers.l2 k3 y125 x2_1 (rd_L2 y149 x22_2) y149 (y149.length : Int) x22_2 y162 (y162.length : Int) (wrap64 (x35_3 + 1))) else (some false)) = some r := H
                have A45 := Aside0.mk A450
                clear A450
                by_cases c46 : t167 = true
                ·subst c46
                 have H1 : (marigraphlaw19_FilterNumbers.l2 k3 y125 x2_1 (rd_L2 y149 x22_2) y149 (y149.length : Int) x22_2 y162 (y162.length : Int) (wrap64 (x35_3 + 1))) = some r := by rw [if_pos rfl] at H; exact H
                 clear H
                 have H := H1
                 clear H1
                 have H' := Aside0.mk H
                 clear H
                 have p165 : 0 ≤ (x35_3 : Int) := of_decide_eq_true (by first | (with_reducible assumption) | assumption)
                 have q165 : x35_3 < (y162.length : Int) := of_decide_eq_true (by first | (with_reducible assumption) | assumption)
                 obtain ⟨ad165, A165_0, c165_0, e165, hx165_0, hl165_0, hi165_0⟩ := at_L5 (Kd.N_reads' HO_33.out).2.2 x35_3 p165 q165
                 cases e165
                 obtain ⟨ce165, hce165, hMe165, hcc165⟩ := Kd.N_get HO_33.out [] x35_3 p165 (by first | exact q165 | exact of_decide_eq_true (by first | (with_reducible assumption) | assumption) | (have e_ := (Kd.N_reads' HO_33.out).1; omega))
                 obtain ⟨ua165_0, uc165_0, rfl, ul165_0, ge165_0⟩ := Kd.FK_slice_open hMe165
                 have hv165_0 := hcc165 0 _ rfl
                 rw [Nat.add_zero, show ((Kd.slice 44 k44)).sz = 1 from rfl, Nat.mul_one] at hv165_0
                 replace hv165_0 := Option.some.inj (hv165_0.symm.trans hx165_0)
                 injection hv165_0 with hva_ hvn_ hvc_
                 rw [hva_] at ge165_0
                 rw [hvc_] at ul165_0
                 have HL165_0 := Aside0.mk (show Kd.V k44 44 _ w.heap.size _ _ (rd_L5 y162 x35_3) from Kd.V_mk ul165_0 ge165_0)
                 clear hva_ hvn_ hvc_ ge165_0 ul165_0
                 clear hcc165 hce165
                 have HR165_0 := Aside0.mk hi165_0
                 have HC165_0 := Aside0.mk hl165_0
                 clear hi165_0 hl165_0
                 replace p165 := eq_true p165
                 replace q165 := eq_true q165
                 go_wp2_with (first | ((with_reducible refine gate_callee (f := 12) rfl ?_); refine goesL_ (some 43) rfl rfl Try.func12 (by kernel_rfl) rfl #[.agg #[.string (⟨#[97]⟩ : ByteArray), .int .i64 x2_1, .slice A152_0 (rd_L2 y149 x22_2).length c152_0], .slice A165_0 (rd_L5 y162 x35_3).length c165_0] rfl argN ?_; (with_reducible refine (marigraphlaw19_same.calls k3 (⟨#[97]⟩ : ByteArray) x2_1 _ _ (rd_L2 y149 x22_2) _ _ (rd_L5 y162 x35_3) true _ ?side1 ?side2 ?side3 ?side4 A43.out).mono ?_); (case side1 => repeat (first | exact HR152_0.out | exact (Kd.C_below HR152_0.out HB.out) | (with_reducible refine Kd.C_alloc ?_ _) | (with_reducible refine Kd.C_drewN ?_ _) | (with_reducible refine Kd.C_drew ?_))); (case side2 => exact HC152_0.out); (case side3 => repeat (first | exact (by repeat (first | (with_reducible exact HR165_0.out) | (with_reducible refine Kd.C_alloc ?_ _) | (with_reducible refine Kd.C_drewN ?_ _) | (with_reducible refine Kd.C_drew ?_) | exact HR165_0.out)) | (with_reducible refine Kd.C_alloc ?_ _) | (with_reducible refine Kd.C_drewN ?_ _) | (with_reducible refine Kd.C_drew ?_))); (case side4 => exact HC165_0.out); rintro e w47 ⟨rfl, hb⟩; refine ⟨_, rfl, ?_⟩; have n0_ := Aside0.mk (Kd.R_below (rowN HO_1.out) hb); have n1_ := Aside0.mk (Kd.N_below (by (with_reducible repeat (first | apply Kd.N_alloc | apply Kd.N_drewN | apply Kd.N_drew)); exact HO_20.out) hb); have n2_ := Aside0.mk (Kd.N_below (by (with_reducible repeat (first | apply Kd.N_alloc | apply Kd.N_drewN | apply Kd.N_drew)); exact HO_33.out) hb); have n3_ := Aside0.mk (Kd.V_below (by (with_reducible repeat (first | apply Kd.V_alloc | apply Kd.V_drewN | apply Kd.V_drew)); exact HL165_0.out) hb); have n4_ := Aside0.mk (cbN HR152_0.out hb); have n5_ := Aside0.mk (cbN HR165_0.out hb); have n6_ := Aside0.mk (below_step (belN HB.out) hb); clear HO_1; clear HO_20; clear HO_33; clear HL165_0; clear HR152_0; clear HR165_0; clear HB; have HO_1 := n0_; have HO_20 := n1_; have HO_33 := n2_; have HL165_0 := n3_; have HR152_0 := n4_; have HR165_0 := n5_; have HB := n6_; clear n0_ n1_ n2_ n3_ n4_ n5_ n6_; (try clear hb); (try clear hk)) | (go_at_call 12; (with_reducible refine (marigraphlaw19_same.calls k3 (⟨#[]⟩ : ByteArray) x2_1 _ _ (rd_L2 y149 x22_2) _ _ (rd_L5 y162 x35_3) true _ ?side1 ?side2 ?side3 ?side4 A45.out).mono ?_); (case side1 => repeat (first | exact HR152_0.out | exact (Kd.C_below HR152_0.out HB.out) | (with_reducible refine Kd.C_alloc ?_ _) | (with_reducible refine Kd.C_drewN ?_ _) | (with_reducible refine Kd.C_drew ?_))); (case side2 => exact HC152_0.out); (case side3 => repeat (first | exact (by repeat (first | (with_reducible exact HR165_0.out) | (with_reducible refine Kd.C_alloc ?_ _) | (with_reducible refine Kd.C_drewN ?_ _) | (with_reducible refine Kd.C_drew ?_) | exact HR165_0.out)) | (with_reducible refine Kd.C_alloc ?_ _) | (with_reducible refine Kd.C_drewN ?_ _) | (with_reducible refine Kd.C_drew ?_))); (case side4 => exact HC165_0.out); rintro e w48 ⟨rfl, hb⟩; have n0_ := Aside0.mk (Kd.R_below (rowN HO_1.out) hb); have n1_ := Aside0.mk (Kd.N_below (by (with_reducible repeat (first | apply Kd.N_alloc | apply Kd.N_drewN | apply Kd.N_drew)); exact HO_20.out) hb); have n2_ := Aside0.mk (Kd.N_below (by (with_reducible repeat (first | apply Kd.N_alloc | apply Kd.N_drewN | apply Kd.N_drew)); exact HO_33.out) hb); have n3_ := Aside0.mk (Kd.V_below (by (with_reducible repeat (first | apply Kd.V_alloc | apply Kd.V_drewN | apply Kd.V_drew)); exact HL165_0.out) hb); have n4_ := Aside0.mk (cbN HR152_0.out hb); have n5_ := Aside0.mk (cbN HR165_0.out hb); have n6_ := Aside0.mk (below_step (belN HB.out) hb); clear HO_1; clear HO_20; clear HO_33; clear HL165_0; clear HR152_0; clear HR165_0; clear HB; have HO_1 := n0_; have HO_20 := n1_; have HO_33 := n2_; have HL165_0 := n3_; have HR152_0 := n4_; have HR165_0 := n5_; have HB := n6_; clear n0_ n1_ n2_ n3_ n4_ n5_ n6_; (try clear hb); (try clear hk)))
                 go_roundg k3
                 case measure => have := HK1.out; have := HK2.out; have := HK3.out; omega
                 case rel => exact ⟨(wrap64 (x35_3 + 1)), (by first | rfl | (simp; done) | (simp [*]; done)), H', ⟨by have := HK1.out; have := HK2.out; have := HK3.out; omega⟩, ⟨(rowN HO_1.out)⟩, ⟨by (with_reducible repeat (first | apply Kd.N_alloc | apply Kd.N_drewN | apply Kd.N_drew)); exact HO_20.out⟩, ⟨by (with_reducible repeat (first | apply Kd.N_alloc | apply Kd.N_drewN | apply Kd.N_drew)); exact HO_33.out⟩, ⟨by repeat (first | (with_reducible exact HR152_0.out) | (with_reducible refine Kd.C_alloc ?_ _) | (with_reducible refine Kd.C_drewN ?_ _) | (with_reducible refine Kd.C_drew ?_) | exact HR152_0.out)⟩, ⟨(belN HB.out)⟩⟩
                ·replace c46 := Bool.eq_false_iff.mpr c46
                 subst c46
                 have H1 : (some false) = some r := by rw [if_neg (show ¬ (false = true) by decide)] at H; exact H
                 clear H
                 have H := H1
                 clear H1
                 obtain rfl := Option.some.inj H
                 have p165 : 0 ≤ (x35_3 : Int) := of_decide_eq_true (by first | (with_reducible assumption) | assumption)
                 have q165 : x35_3 < (y162.length : Int) := of_decide_eq_true (by first | (with_reducible assumption) | assumption)
                 obtain ⟨ad165, A165_0, c165_0, e165, hx165_0, hl165_0, hi165_0⟩ := at_L5 (Kd.N_reads' HO_33.out).2.2 x35_3 p165 q165
                 cases e165
                 obtain ⟨ce165, hce165, hMe165, hcc165⟩ := Kd.N_get HO_33.out [] x35_3 p165 (by first | exact q165 | exact of_decide_eq_true (by first | (with_reducible assumption) | assumption) | (have e_ := (Kd.N_reads' HO_33.out).1; omega))
                 obtain ⟨ua165_0, uc165_0, rfl, ul165_0, ge165_0⟩ := Kd.FK_slice_open hMe165
                 have hv165_0 := hcc165 0 _ rfl
                 rw [Nat.add_zero, show ((Kd.slice 44 k44)).sz = 1 from rfl, Nat.mul_one] at hv165_0
                 replace hv165_0 := Option.some.inj (hv165_0.symm.trans hx165_0)
                 injection hv165_0 with hva_ hvn_ hvc_
                 rw [hva_] at ge165_0
                 rw [hvc_] at ul165_0
                 have HL165_0 := Aside0.mk (show Kd.V k44 44 _ w.heap.size _ _ (rd_L5 y162 x35_3) from Kd.V_mk ul165_0 ge165_0)
                 clear hva_ hvn_ hvc_ ge165_0 ul165_0
                 clear hcc165 hce165
                 have HR165_0 := Aside0.mk hi165_0
                 have HC165_0 := Aside0.mk hl165_0
                 clear hi165_0 hl165_0
                 replace p165 := eq_true p165
                 replace q165 := eq_true q165
                 go_wp2_with (first | ((with_reducible refine gate_callee (f := 12) rfl ?_); refine goesL_ (some 43) rfl rfl Try.func12 (by kernel_rfl) rfl #[.agg #[.string (⟨#[97]⟩ : ByteArray), .int .i64 x2_1, .slice A152_0 (rd_L2 y149 x22_2).length c152_0], .slice A165_0 (rd_L5 y162 x35_3).length c165_0] rfl argN ?_; (with_reducible refine (marigraphlaw19_same.calls k3 (⟨#[97]⟩ : ByteArray) x2_1 _ _ (rd_L2 y149 x22_2) _ _ (rd_L5 y162 x35_3) true _ ?side1 ?side2 ?side3 ?side4 A43.out).mono ?_); (case side1 => repeat (first | exact HR152_0.out | exact (Kd.C_below HR152_0.out HB.out) | (with_reducible refine Kd.C_alloc ?_ _) | (with_reducible refine Kd.C_drewN ?_ _) | (with_reducible refine Kd.C_drew ?_))); (case side2 => exact HC152_0.out); (case side3 => repeat (first | exact (by repeat (first | (with_reducible exact HR165_0.out) | (with_reducible refine Kd.C_alloc ?_ _) | (with_reducible refine Kd.C_drewN ?_ _) | (with_reducible refine Kd.C_drew ?_) | exact HR165_0.out)) | (with_reducible refine Kd.C_alloc ?_ _) | (with_reducible refine Kd.C_drewN ?_ _) | (with_reducible refine Kd.C_drew ?_))); (case side4 => exact HC165_0.out); rintro e w49 ⟨rfl, hb⟩; refine ⟨_, rfl, ?_⟩; have n0_ := Aside0.mk (Kd.R_below (rowN HO_1.out) hb); have n1_ := Aside0.mk (Kd.N_below (by (with_reducible repeat (first | apply Kd.N_alloc | apply Kd.N_drewN | apply Kd.N_drew)); exact HO_20.out) hb); have n2_ := Aside0.mk (Kd.N_below (by (with_reducible repeat (first | apply Kd.N_alloc | apply Kd.N_drewN | apply Kd.N_drew)); exact HO_33.out) hb); have n3_ := Aside0.mk (Kd.V_below (by (with_reducible repeat (first | apply Kd.V_alloc | apply Kd.V_drewN | apply Kd.V_drew)); exact HL165_0.out) hb); have n4_ := Aside0.mk (cbN HR152_0.out hb); have n5_ := Aside0.mk (cbN HR165_0.out hb); have n6_ := Aside0.mk (below_step (belN HB.out) hb); clear HO_1; clear HO_20; clear HO_33; clear HL165_0; clear HR152_0; clear HR165_0; clear HB; have HO_1 := n0_; have HO_20 := n1_; have HO_33 := n2_; have HL165_0 := n3_; have HR152_0 := n4_; have HR165_0 := n5_; have HB := n6_; clear n0_ n1_ n2_ n3_ n4_ n5_ n6_; (try clear hb); (try clear hk)) | (go_at_call 12; (with_reducible refine (marigraphlaw19_same.calls k3 (⟨#[]⟩ : ByteArray) x2_1 _ _ (rd_L2 y149 x22_2) _ _ (rd_L5 y162 x35_3) false _ ?side1 ?side2 ?side3 ?side4 A45.out).mono ?_); (case side1 => repeat (first | exact HR152_0.out | exact (Kd.C_below HR152_0.out HB.out) | (with_reducible refine Kd.C_alloc ?_ _) | (with_reducible refine Kd.C_drewN ?_ _) | (with_reducible refine Kd.C_drew ?_))); (case side2 => exact HC152_0.out); (case side3 => repeat (first | exact (by repeat (first | (with_reducible exact HR165_0.out) | (with_reducible refine Kd.C_alloc ?_ _) | (with_reducible refine Kd.C_drewN ?_ _) | (with_reducible refine Kd.C_drew ?_) | exact HR165_0.out)) | (with_reducible refine Kd.C_alloc ?_ _) | (with_reducible refine Kd.C_drewN ?_ _) | (with_reducible refine Kd.C_drew ?_))); (case side4 => exact HC165_0.out); rintro e w50 ⟨rfl, hb⟩; have n0_ := Aside0.mk (Kd.R_below (rowN HO_1.out) hb); have n1_ := Aside0.mk (Kd.N_below (by (with_reducible repeat (first | apply Kd.N_alloc | apply Kd.N_drewN | apply Kd.N_drew)); exact HO_20.out) hb); have n2_ := Aside0.mk (Kd.N_below (by (with_reducible repeat (first | apply Kd.N_alloc | apply Kd.N_drewN | apply Kd.N_drew)); exact HO_33.out) hb); have n3_ := Aside0.mk (Kd.V_below (by (with_reducible repeat (first | apply Kd.V_alloc | apply Kd.V_drewN | apply Kd.V_drew)); exact HL165_0.out) hb); have n4_ := Aside0.mk (cbN HR152_0.out hb); have n5_ := Aside0.mk (cbN HR165_0.out hb); have n6_ := Aside0.mk (below_step (belN HB.out) hb); clear HO_1; clear HO_20; clear HO_33; clear HL165_0; clear HR152_0; clear HR165_0; clear HB; have HO_1 := n0_; have HO_20 := n1_; have HO_33 := n2_; have HL165_0 := n3_; have HR152_0 := n4_; have HR165_0 := n5_; have HB := n6_; clear n0_ n1_ n2_ n3_ n4_ n5_ n6_; (try clear hb); (try clear hk)))
                 go_ret
                 exact ⟨by first | rfl | (simp [errW_none, errW_some] <;> rfl) | (simp [*, errW_none, errW_some] <;> rfl), (belN HB.out)⟩
               ·replace c44 := Bool.eq_false_iff.mpr c44
                subst c44
                have H1 : (some false) = some r := by rw [if_neg (show ¬ (false = true) by decide)] at H; exact H
                clear H
                have H := H1
                clear H1
                obtain rfl := Option.some.inj H
                have p165 : 0 ≤ (x35_3 : Int) := of_decide_eq_true (by first | (with_reducible assumption) | assumption)
                have q165 : x35_3 < (y162.length : Int) := of_decide_eq_true (by first | (with_reducible assumption) | assumption)
                obtain ⟨ad165, A165_0, c165_0, e165, hx165_0, hl165_0, hi165_0⟩ := at_L5 (Kd.N_reads' HO_33.out).2.2 x35_3 p165 q165
                cases e165
                obtain ⟨ce165, hce165, hMe165, hcc165⟩ := Kd.N_get HO_33.out [] x35_3 p165 (by first | exact q165 | exact of_decide_eq_true (by first | (with_reducible assumption) | assumption) | (have e_ := (Kd.N_reads' HO_33.out).1; omega))
                obtain ⟨ua165_0, uc165_0, rfl, ul165_0, ge165_0⟩ := Kd.FK_slice_open hMe165
                have hv165_0 := hcc165 0 _ rfl
                rw [Nat.add_zero, show ((Kd.slice 44 k44)).sz = 1 from rfl, Nat.mul_one] at hv165_0
                replace hv165_0 := Option.some.inj (hv165_0.symm.trans hx165_0)
                injection hv165_0 with hva_ hvn_ hvc_
                rw [hva_] at ge165_0
                rw [hvc_] at ul165_0
                have HL165_0 := Aside0.mk (show Kd.V k44 44 _ w.heap.size _ _ (rd_L5 y162 x35_3) from Kd.V_mk ul165_0 ge165_0)
                clear hva_ hvn_ hvc_ ge165_0 ul165_0
                clear hcc165 hce165
                have HR165_0 := Aside0.mk hi165_0
                have HC165_0 := Aside0.mk hl165_0
                clear hi165_0 hl165_0
                replace p165 := eq_true p165
                replace q165 := eq_true q165
                go_wp2_with (first | ((with_reducible refine gate_callee (f := 12) rfl ?_); refine goesL_ (some 43) rfl rfl Try.func12 (by kernel_rfl) rfl #[.agg #[.string (⟨#[97]⟩ : ByteArray), .int .i64 x2_1, .slice A152_0 (rd_L2 y149 x22_2).length c152_0], .slice A165_0 (rd_L5 y162 x35_3).length c165_0] rfl argN ?_; (with_reducible refine (marigraphlaw19_same.calls k3 (⟨#[97]⟩ : ByteArray) x2_1 _ _ (rd_L2 y149 x22_2) _ _ (rd_L5 y162 x35_3) false _ ?side1 ?side2 ?side3 ?side4 A43.out).mono ?_); (case side1 => repeat (first | exact HR152_0.out | exact (Kd.C_below HR152_0.out HB.out) | (with_reducible refine Kd.C_alloc ?_ _) | (with_reducible refine Kd.C_drewN ?_ _) | (with_reducible refine Kd.C_drew ?_))); (case side2 => exact HC152_0.out); (case side3 => repeat (first | exact (by repeat (first | (with_reducible exact HR165_0.out) | (with_reducible refine Kd.C_alloc ?_ _) | (with_reducible refine Kd.C_drewN ?_ _) | (with_reducible refine Kd.C_drew ?_) | exact HR165_0.out)) | (with_reducible refine Kd.C_alloc ?_ _) | (with_reducible refine Kd.C_drewN ?_ _) | (with_reducible refine Kd.C_drew ?_))); (case side4 => exact HC165_0.out); rintro e w51 ⟨rfl, hb⟩; refine ⟨_, rfl, ?_⟩; have n0_ := Aside0.mk (Kd.R_below (rowN HO_1.out) hb); have n1_ := Aside0.mk (Kd.N_below (by (with_reducible repeat (first | apply Kd.N_alloc | apply Kd.N_drewN | apply Kd.N_drew)); exact HO_20.out) hb); have n2_ := Aside0.mk (Kd.N_below (by (with_reducible repeat (first | apply Kd.N_alloc | apply Kd.N_drewN | apply Kd.N_drew)); exact HO_33.out) hb); have n3_ := Aside0.mk (Kd.V_below (by (with_reducible repeat (first | apply Kd.V_alloc | apply Kd.V_drewN | apply Kd.V_drew)); exact HL165_0.out) hb); have n4_ := Aside0.mk (cbN HR152_0.out hb); have n5_ := Aside0.mk (cbN HR165_0.out hb); have n6_ := Aside0.mk (below_step (belN HB.out) hb); clear HO_1; clear HO_20; clear HO_33; clear HL165_0; clear HR152_0; clear HR165_0; clear HB; have HO_1 := n0_; have HO_20 := n1_; have HO_33 := n2_; have HL165_0 := n3_; have HR152_0 := n4_; have HR165_0 := n5_; have HB := n6_; clear n0_ n1_ n2_ n3_ n4_ n5_ n6_; (try clear hb); (try clear hk)))
                go_ret
                exact ⟨by first | rfl | (simp [errW_none, errW_some] <;> rfl) | (simp [*, errW_none, errW_some] <;> rfl), (belN HB.out)⟩
              ·rw [if_neg c42] at H
               exact absurd H (by simp)
             ·rw [if_neg c41] at H
              exact absurd H (by simp)
            ·rw [if_neg c40] at H
             have c40b0 : decide (x35_3 < (y162.length : Int)) = false := decide_eq_false c40
             clear c40
             have H' := Aside0.mk H
             clear H
             go_wp2
             go_roundg k3
             case measure => have := HK1.out; have := HK2.out; have := HK3.out; omega
             case rel => exact ⟨(wrap64 (x22_2 + 1)), (by first | rfl | (simp; done) | (simp [*]; done)), H', ⟨by have := HK1.out; have := HK2.out; have := HK3.out; omega⟩, ⟨(rowN HO_1.out)⟩, ⟨by (with_reducible repeat (first | apply Kd.N_alloc | apply Kd.N_drewN | apply Kd.N_drew)); exact Kd.N_mono HO_20.out (fun _ hk => trivial)⟩, ⟨(belN HB.out)⟩⟩
         ·rw [if_neg c27] at H
          exact absurd H (by simp)
        ·rw [if_neg c26] at H
         exact absurd H (by simp)
       ·rw [if_neg c25] at H
        have c25b0 : decide (x22_2 < (y149.length : Int)) = false := decide_eq_false c25
        clear c25
        have H' := Aside0.mk H
        clear H
        go_wp2
        go_roundg k2
        case measure => have := HK1.out; have := HK2.out; omega
        case rel => exact ⟨(wrap64 (x2_1 + 1)), (by first | rfl | (simp; done) | (simp [*]; done)), H', ⟨by have := HK1.out; have := HK2.out; omega⟩, ⟨(rowN HO_1.out)⟩, ⟨(belN HB.out)⟩⟩
    ·rw [if_neg c4] at H
     exact absurd H (by simp)
   ·rw [if_neg c3] at H
    have c3b0 : decide (x2_1 < 7) = false := decide_eq_false c3
    clear c3
    replace H := Option.bind_eq_some_iff.mp H
    obtain ⟨t128, A520, H⟩ := H
    replace H : (some t128) = some r := H
    have A52 := Aside0.mk A520
    clear A520
    obtain rfl := Option.some.inj H
    go_wp2_with (first | ((with_reducible refine gate_callee (f := 10) rfl ?_); refine goesL_ (some 55) rfl rfl Try.func10 (by kernel_rfl) rfl #[] rfl argN ?_; (with_reducible refine (marigraphlaw19_known.calls k1  t128 _ A52.out).mono ?_); rintro e w53 ⟨rfl, hb⟩; refine ⟨_, rfl, ?_⟩; have n0_ := Aside0.mk (Kd.R_below (rowN HO_1.out) hb); have n1_ := Aside0.mk (below_step (belN HB.out) hb); clear HO_1; clear HB; have HO_1 := n0_; have HB := n1_; clear n0_ n1_; (try clear hb); (try clear hk)))
    go_ret
    exact ⟨by first | rfl | (simp [errW_none, errW_some] <;> rfl) | (simp [*, errW_none, errW_some] <;> rfl), (belN HB.out)⟩

/-- THE ONE PURE STATEMENT of marigraphlaw19_FilterNumbers: yours. -/
def marigraphlaw19_FilterNumbers.Pure : Prop := ∃ k, marigraphlaw19_FilterNumbers.f k  = some true
theorem marigraphlaw19_FilterNumbers.walk (P : marigraphlaw19_FilterNumbers.Pure)  (w : World)  :
  Calls Try.prog 5 #[] w fun e w' => e = .returned (.bool true) ∧ Below w.heap.size w w' := by
 obtain ⟨k, h⟩ := P
 refine (marigraphlaw19_FilterNumbers.calls k  true w h).mono ?_
 rintro e w' ⟨rfl, hd⟩
 exact ⟨rfl, hd⟩

end Go.Proofs.Yteghihdcagbmbaa.PFilterNumbers

/- The walk of the Go functions that a law reaches, told as plain functions; a program of this session has written it. No condition beyond the statement's own. -/
import Derived.Test.YtlmhgjnlbokceaaPDownTellsx0
import Derived.Test.YtlmhgjnlbokceaaPDownTellsx3
import Derived.Test.YtlmhgjnlbokceaaPDownTellsx10
import Derived.Test.YtlmhgjnlbokceaaPDownTellsx13
import Derived.Test.YtlmhgjnlbokceaaPDownTellsx14
import Derived.Test.YtlmhgjnlbokceaaPDownTellsx15
namespace Go.Proofs.Ytlmhgjnlbokceaa.PDownTells
open Go.RowKit Go.Proofs.YtlmhgjnlbokceaaW.PrintWords Go.Proofs.YtlmhgjnlbokceaaW.PrintLast Go.Proofs.YtlmhgjnlbokceaaW.PrintMore
attribute [local go_sem] max2_int min2_int max_two min_two max_three min_three max_four min_four   -- for this text's walks alone
set_option linter.unusedVariables false
set_option linter.unusedSimpArgs false

/-! ### marigraphref21_Down: function 18 -/
mutual
def marigraphref21_Down.j0 : Nat → List (S31) → Int → Int → Int → Int → Bool → Bool → Option ((List (S31)) × Int)
 | 0, _, _, _, _, _, _, _ => none
 | k + 1, x0, x1, x2, x3, x4, x5, x51 => if x51 = true then (some (([] : List (S31)), 1)) else ((marigraphref21_Bucket.f x1 x3).bind fun t310 => ((marigraphref21_Bucket.f x2 x3).bind fun t311 => (if x5 = true then (if x3 = 0 then (none) else (marigraphref21_Down.j1 k x0 x1 x2 x3 x4 x5 t310 t311 (decide ((wrap64 ((wrap64 (Int.tdiv (wrap64 (t311 - t310)) x3)) + 1)) > 4096)))) else (marigraphref21_Down.j1 k x0 x1 x2 x3 x4 x5 t310 t311 false))))
def marigraphref21_Down.j1 : Nat → List (S31) → Int → Int → Int → Int → Bool → Int → Int → Bool → Option ((List (S31)) × Int)
 | 0, _, _, _, _, _, _, _, _, _ => none
 | k + 1, x0, x1, x2, x3, x4, x5, x14, x15, x67 => if x67 = true then (some (([] : List (S31)), 3)) else (marigraphref21_Down.l0 k x0 x1 x2 x3 x4 x5 x15 ([] : List (S31)) x14 0)
def marigraphref21_Down.l0 : Nat → List (S31) → Int → Int → Int → Int → Bool → Int → List (S31) → Int → Int → Option ((List (S31)) × Int)
 | 0, _, _, _, _, _, _, _, _, _, _ => none
 | k + 1, x0, x1, x2, x3, x4, x5, x15, x16, x17, x18 => if x18 < (x0.length : Int) then (if 0 ≤ x18 then (if ((rd_T31 x0 x18).f0) < x1 then (marigraphref21_Down.j3 k x0 x1 x2 x3 x4 x5 x15 x16 x17 x18 true) else (marigraphref21_Down.j3 k x0 x1 x2 x3 x4 x5 x15 x16 x17 x18 (decide (((rd_T31 x0 x18).f0) > x2)))) else (none)) else (marigraphref21_Down.l3 k x3 x5 x15 x16 x17)
def marigraphref21_Down.j3 : Nat → List (S31) → Int → Int → Int → Int → Bool → Int → List (S31) → Int → Int → Bool → Option ((List (S31)) × Int)
 | 0, _, _, _, _, _, _, _, _, _, _, _ => none
 | k + 1, x0, x1, x2, x3, x4, x5, x15, x16, x17, x18, x88 => if x88 = true then (marigraphref21_Down.l0 k x0 x1 x2 x3 x4 x5 x15 x16 x17 (wrap64 (x18 + 1))) else (if 0 ≤ x18 then (if x18 < (x0.length : Int) then ((marigraphref21_Bucket.f ((rd_T31 x0 x18).f0) x3).bind fun t315 => (marigraphref21_Down.l1 k x0 x1 x2 x3 x4 x5 x15 x16 x17 x18 t315 ([] : List (S29)))) else (none)) else (none))
def marigraphref21_Down.j5 : Nat → List (S31) → Int → Int → Int → Int → Bool → Int → List (S31) → Int → Int → Int → List (S29) → Option ((List (S31)) × Int)
 | 0, _, _, _, _, _, _, _, _, _, _, _, _ => none
 | k + 1, x0, x1, x2, x3, x4, x5, x15, x16, x17, x18, x19, x20 => marigraphref21_Down.l2 k x0 x1 x2 x3 x4 x5 x15 x16 x17 x18 x19 x20
def marigraphref21_Down.l2 : Nat → List (S31) → Int → Int → Int → Int → Bool → Int → List (S31) → Int → Int → Int → List (S29) → Option ((List (S31)) × Int)
 | 0, _, _, _, _, _, _, _, _, _, _, _, _ => none
 | k + 1, x0, x1, x2, x3, x4, x5, x15, x16, x17, x18, x19, x20 => if x5 = true then (if x17 < x19 then (if x16.length < 5864062014805 then (marigraphref21_Down.l2 k x0 x1 x2 x3 x4 x5 x15 (x16 ++ [(⟨x17, (⟨0, 1⟩ : S29)⟩ : S31)]) (wrap64 (x17 + x3)) x18 x19 x20) else (none)) else ((marigraphref20_Do.f k x4 x20).bind fun bt326 => (if bt326.2.2 = 0 then (if x16.length < 5864062014805 then (marigraphref21_Down.l0 k x0 x1 x2 x3 x4 x5 x15 (x16 ++ [(⟨x19, (⟨bt326.1, bt326.2.1⟩ : S29)⟩ : S31)]) (wrap64 (x19 + x3)) x18) else (none)) else (some (([] : List (S31)), bt326.2.2))))) else ((marigraphref20_Do.f k x4 x20).bind fun bt333 => (if bt333.2.2 = 0 then (if x16.length < 5864062014805 then (marigraphref21_Down.l0 k x0 x1 x2 x3 x4 x5 x15 (x16 ++ [(⟨x19, (⟨bt333.1, bt333.2.1⟩ : S29)⟩ : S31)]) (wrap64 (x19 + x3)) x18) else (none)) else (some (([] : List (S31)), bt333.2.2))))
def marigraphref21_Down.l1 : Nat → List (S31) → Int → Int → Int → Int → Bool → Int → List (S31) → Int → Int → Int → List (S29) → Option ((List (S31)) × Int)
 | 0, _, _, _, _, _, _, _, _, _, _, _, _ => none
 | k + 1, x0, x1, x2, x3, x4, x5, x15, x16, x17, x18, x19, x20 => if x18 < (x0.length : Int) then (if 0 ≤ x18 then (if ((rd_T31 x0 x18).f0) ≤ x2 then ((marigraphref21_Bucket.f ((rd_T31 x0 x18).f0) x3).bind fun t318 => (if t318 = x19 then (if x20.length < 8796093022208 then (marigraphref21_Down.l1 k x0 x1 x2 x3 x4 x5 x15 x16 x17 (wrap64 (x18 + 1)) x19 (x20 ++ [(⟨(rd_T31 x0 x18).f1.f0, (rd_T31 x0 x18).f1.f1⟩ : S29)])) else (none)) else (marigraphref21_Down.j5 k x0 x1 x2 x3 x4 x5 x15 x16 x17 x18 x19 x20))) else (marigraphref21_Down.j5 k x0 x1 x2 x3 x4 x5 x15 x16 x17 x18 x19 x20)) else (none)) else (marigraphref21_Down.j5 k x0 x1 x2 x3 x4 x5 x15 x16 x17 x18 x19 x20)
def marigraphref21_Down.l3 : Nat → Int → Bool → Int → List (S31) → Int → Option ((List (S31)) × Int)
 | 0, _, _, _, _, _ => none
 | k + 1, x3, x5, x15, x16, x17 => if x5 = true then (if x17 ≤ x15 then (if x16.length < 5864062014805 then (marigraphref21_Down.l3 k x3 x5 x15 (x16 ++ [(⟨x17, (⟨0, 1⟩ : S29)⟩ : S31)]) (wrap64 (x17 + x3))) else (none)) else (some (x16, 0))) else (some (x16, 0))
end
def marigraphref21_Down.f (k : Nat) (l0 : List (S31)) (a1 : Int) (a2 : Int) (a3 : Int) (a4 : Int) (a5 : Bool) : Option ((List (S31)) × Int) := (marigraphref21_Right.f k l0).bind fun t308 => (if t308 = true then (if a1 < 0 then (marigraphref21_Down.j0 k l0 a1 a2 a3 a4 a5 true) else (if a2 < a1 then (marigraphref21_Down.j0 k l0 a1 a2 a3 a4 a5 true) else (if a2 > 4294967295 then (marigraphref21_Down.j0 k l0 a1 a2 a3 a4 a5 true) else (if a3 < 1 then (marigraphref21_Down.j0 k l0 a1 a2 a3 a4 a5 true) else (if a3 > 4294967295 then (marigraphref21_Down.j0 k l0 a1 a2 a3 a4 a5 true) else ((marigraphref20_Right.f a4).bind fun t309 => (marigraphref21_Down.j0 k l0 a1 a2 a3 a4 a5 (!t309)))))))) else (marigraphref21_Down.j0 k l0 a1 a2 a3 a4 a5 true))
theorem marigraphref21_Down.mono_l : ∀ k, (∀ y0 y1 y2 y3 y4 y5 y6, LeO (marigraphref21_Down.j0 k y0 y1 y2 y3 y4 y5 y6) (marigraphref21_Down.j0 (k + 1) y0 y1 y2 y3 y4 y5 y6)) ∧ (∀ y0 y1 y2 y3 y4 y5 y6 y7 y8, LeO (marigraphref21_Down.j1 k y0 y1 y2 y3 y4 y5 y6 y7 y8) (marigraphref21_Down.j1 (k + 1) y0 y1 y2 y3 y4 y5 y6 y7 y8)) ∧ (∀ y0 y1 y2 y3 y4 y5 y6 y7 y8 y9, LeO (marigraphref21_Down.l0 k y0 y1 y2 y3 y4 y5 y6 y7 y8 y9) (marigraphref21_Down.l0 (k + 1) y0 y1 y2 y3 y4 y5 y6 y7 y8 y9)) ∧ (∀ y0 y1 y2 y3 y4 y5 y6 y7 y8 y9 y10, LeO (marigraphref21_Down.j3 k y0 y1 y2 y3 y4 y5 y6 y7 y8 y9 y10) (marigraphref21_Down.j3 (k + 1) y0 y1 y2 y3 y4 y5 y6 y7 y8 y9 y10)) ∧ (∀ y0 y1 y2 y3 y4 y5 y6 y7 y8 y9 y10 y11, LeO (marigraphref21_Down.j5 k y0 y1 y2 y3 y4 y5 y6 y7 y8 y9 y10 y11) (marigraphref21_Down.j5 (k + 1) y0 y1 y2 y3 y4 y5 y6 y7 y8 y9 y10 y11)) ∧ (∀ y0 y1 y2 y3 y4 y5 y6 y7 y8 y9 y10 y11, LeO (marigraphref21_Down.l2 k y0 y1 y2 y3 y4 y5 y6 y7 y8 y9 y10 y11) (marigraphref21_Down.l2 (k + 1) y0 y1 y2 y3 y4 y5 y6 y7 y8 y9 y10 y11)) ∧ (∀ y0 y1 y2 y3 y4 y5 y6 y7 y8 y9 y10 y11, LeO (marigraphref21_Down.l1 k y0 y1 y2 y3 y4 y5 y6 y7 y8 y9 y10 y11) (marigraphref21_Down.l1 (k + 1) y0 y1 y2 y3 y4 y5 y6 y7 y8 y9 y10 y11)) ∧ (∀ y0 y1 y2 y3 y4, LeO (marigraphref21_Down.l3 k y0 y1 y2 y3 y4) (marigraphref21_Down.l3 (k + 1) y0 y1 y2 y3 y4))
 | 0 => ⟨fun _ _ _ _ _ _ _ r h => by simp [marigraphref21_Down.j0] at h, fun _ _ _ _ _ _ _ _ _ r h => by simp [marigraphref21_Down.j1] at h, fun _ _ _ _ _ _ _ _ _ _ r h => by simp [marigraphref21_Down.l0] at h, fun _ _ _ _ _ _ _ _ _ _ _ r h => by simp [marigraphref21_Down.j3] at h, fun _ _ _ _ _ _ _ _ _ _ _ _ r h => by simp [marigraphref21_Down.j5] at h, fun _ _ _ _ _ _ _ _ _ _ _ _ r h => by simp [marigraphref21_Down.l2] at h, fun _ _ _ _ _ _ _ _ _ _ _ _ r h => by simp [marigraphref21_Down.l1] at h, fun _ _ _ _ _ r h => by simp [marigraphref21_Down.l3] at h⟩
 | k + 1 => by
  obtain ⟨ih0, ih1, ih2, ih3, ih4, ih5, ih6, ih7⟩ := marigraphref21_Down.mono_l k
  refine ⟨?_, ?_, ?_, ?_, ?_, ?_, ?_, ?_⟩
  ·intro y0 y1 y2 y3 y4 y5 y6
   unfold marigraphref21_Down.j0
   repeat' first
   | (with_reducible exact ih0 _ _ _ _ _ _ _)
   | (with_reducible exact ih1 _ _ _ _ _ _ _ _ _)
   | (with_reducible exact ih2 _ _ _ _ _ _ _ _ _ _)
   | (with_reducible exact ih3 _ _ _ _ _ _ _ _ _ _ _)
   | (with_reducible exact ih4 _ _ _ _ _ _ _ _ _ _ _ _)
   | (with_reducible exact ih5 _ _ _ _ _ _ _ _ _ _ _ _)
   | (with_reducible exact ih6 _ _ _ _ _ _ _ _ _ _ _ _)
   | (with_reducible exact ih7 _ _ _ _ _)
   | (with_reducible exact marigraphref20_Do.mono _ _ _)
   | (with_reducible exact marigraphref21_Right.mono _ _)
   | (with_reducible exact LeO.refl _)
   | (with_reducible exact LeO.none _)
   | (with_reducible refine LeO.ite ?_ ?_)
   | (with_reducible refine LeO.bind ?_ (fun _ => ?_))
   | exact ih0 _ _ _ _ _ _ _
   | exact ih1 _ _ _ _ _ _ _ _ _
   | exact ih2 _ _ _ _ _ _ _ _ _ _
   | exact ih3 _ _ _ _ _ _ _ _ _ _ _
   | exact ih4 _ _ _ _ _ _ _ _ _ _ _ _
   | exact ih5 _ _ _ _ _ _ _ _ _ _ _ _
   | exact ih6 _ _ _ _ _ _ _ _ _ _ _ _
   | exact ih7 _ _ _ _ _
   | exact marigraphref20_Do.mono _ _ _
   | exact marigraphref21_Right.mono _ _
   | exact LeO.none _
   | refine LeO.ite ?_ ?_
   | refine LeO.bind ?_ (fun _ => ?_)
  ·intro y0 y1 y2 y3 y4 y5 y6 y7 y8
   unfold marigraphref21_Down.j1
   repeat' first
   | (with_reducible exact ih0 _ _ _ _ _ _ _)
   | (with_reducible exact ih1 _ _ _ _ _ _ _ _ _)
   | (with_reducible exact ih2 _ _ _ _ _ _ _ _ _ _)
   | (with_reducible exact ih3 _ _ _ _ _ _ _ _ _ _ _)
   | (with_reducible exact ih4 _ _ _ _ _ _ _ _ _ _ _ _)
   | (with_reducible exact ih5 _ _ _ _ _ _ _ _ _ _ _ _)
   | (with_reducible exact ih6 _ _ _ _ _ _ _ _ _ _ _ _)
   | (with_reducible exact ih7 _ _ _ _ _)
   | (with_reducible exact marigraphref20_Do.mono _ _ _)
   | (with_reducible exact marigraphref21_Right.mono _ _)
   | (with_reducible exact LeO.refl _)
   | (with_reducible exact LeO.none _)
   | (with_reducible refine LeO.ite ?_ ?_)
   | (with_reducible refine LeO.bind ?_ (fun _ => ?_))
   | exact ih0 _ _ _ _ _ _ _
   | exact ih1 _ _ _ _ _ _ _ _ _
   | exact ih2 _ _ _ _ _ _ _ _ _ _
   | exact ih3 _ _ _ _ _ _ _ _ _ _ _
   | exact ih4 _ _ _ _ _ _ _ _ _ _ _ _
   | exact ih5 _ _ _ _ _ _ _ _ _ _ _ _
   | exact ih6 _ _ _ _ _ _ _ _ _ _ _ _
   | exact ih7 _ _ _ _ _
   | exact marigraphref20_Do.mono _ _ _
   | exact marigraphref21_Right.mono _ _
   | exact LeO.none _
   | refine LeO.ite ?_ ?_
   | refine LeO.bind ?_ (fun _ => ?_)
  ·intro y0 y1 y2 y3 y4 y5 y6 y7 y8 y9
   unfold marigraphref21_Down.l0
   repeat' first
   | (with_reducible exact ih0 _ _ _ _ _ _ _)
   | (with_reducible exact ih1 _ _ _ _ _ _ _ _ _)
   | (with_reducible exact ih2 _ _ _ _ _ _ _ _ _ _)
   | (with_reducible exact ih3 _ _ _ _ _ _ _ _ _ _ _)
   | (with_reducible exact ih4 _ _ _ _ _ _ _ _ _ _ _ _)
   | (with_reducible exact ih5 _ _ _ _ _ _ _ _ _ _ _ _)
   | (with_reducible exact ih6 _ _ _ _ _ _ _ _ _ _ _ _)
   | (with_reducible exact ih7 _ _ _ _ _)
   | (with_reducible exact marigraphref20_Do.mono _ _ _)
   | (with_reducible exact marigraphref21_Right.mono _ _)
   | (with_reducible exact LeO.refl _)
   | (with_reducible exact LeO.none _)
   | (with_reducible refine LeO.ite ?_ ?_)
   | (with_reducible refine LeO.bind ?_ (fun _ => ?_))
   | exact ih0 _ _ _ _ _ _ _
   | exact ih1 _ _ _ _ _ _ _ _ _
   | exact ih2 _ _ _ _ _ _ _ _ _ _
   | exact ih3 _ _ _ _ _ _ _ _ _ _ _
   | exact ih4 _ _ _ _ _ _ _ _ _ _ _ _
   | exact ih5 _ _ _ _ _ _ _ _ _ _ _ _
   | exact ih6 _ _ _ _ _ _ _ _ _ _ _ _
   | exact ih7 _ _ _ _ _
   | exact marigraphref20_Do.mono _ _ _
   | exact marigraphref21_Right.mono _ _
   | exact LeO.none _
   | refine LeO.ite ?_ ?_
   | refine LeO.bind ?_ (fun _ => ?_)
  ·intro y0 y1 y2 y3 y4 y5 y6 y7 y8 y9 y10
   unfold marigraphref21_Down.j3
   repeat' first
   | (with_reducible exact ih0 _ _ _ _ _ _ _)
   | (with_reducible exact ih1 _ _ _ _ _ _ _ _ _)
   | (with_reducible exact ih2 _ _ _ _ _ _ _ _ _ _)
   | (with_reducible exact ih3 _ _ _ _ _ _ _ _ _ _ _)
   | (with_reducible exact ih4 _ _ _ _ _ _ _ _ _ _ _ _)
   | (with_reducible exact ih5 _ _ _ _ _ _ _ _ _ _ _ _)
   | (with_reducible exact ih6 _ _ _ _ _ _ _ _ _ _ _ _)
   | (with_reducible exact ih7 _ _ _ _ _)
   | (with_reducible exact marigraphref20_Do.mono _ _ _)
   | (with_reducible exact marigraphref21_Right.mono _ _)
   | (with_reducible exact LeO.refl _)
   | (with_reducible exact LeO.none _)
   | (with_reducible refine LeO.ite ?_ ?_)
   | (with_reducible refine LeO.bind ?_ (fun _ => ?_))
   | exact ih0 _ _ _ _ _ _ _
   | exact ih1 _ _ _ _ _ _ _ _ _
   | exact ih2 _ _ _ _ _ _ _ _ _ _
   | exact ih3 _ _ _ _ _ _ _ _ _ _ _
   | exact ih4 _ _ _ _ _ _ _ _ _ _ _ _
   | exact ih5 _ _ _ _ _ _ _ _ _ _ _ _
   | exact ih6 _ _ _ _ _ _ _ _ _ _ _ _
   | exact ih7 _ _ _ _ _
   | exact marigraphref20_Do.mono _ _ _
   | exact marigraphref21_Right.mono _ _
   | exact LeO.none _
   | refine LeO.ite ?_ ?_
   | refine LeO.bind ?_ (fun _ => ?_)
  ·intro y0 y1 y2 y3 y4 y5 y6 y7 y8 y9 y10 y11
   unfold marigraphref21_Down.j5
   repeat' first
   | (with_reducible exact ih0 _ _ _ _ _ _ _)
   | (with_reducible exact ih1 _ _ _ _ _ _ _ _ _)
   | (with_reducible exact ih2 _ _ _ _ _ _ _ _ _ _)
   | (with_reducible exact ih3 _ _ _ _ _ _ _ _ _ _ _)
   | (with_reducible exact ih4 _ _ _ _ _ _ _ _ _ _ _ _)
   | (with_reducible exact ih5 _ _ _ _ _ _ _ _ _ _ _ _)
   | (with_reducible exact ih6 _ _ _ _ _ _ _ _ _ _ _ _)
   | (with_reducible exact ih7 _ _ _ _ _)
   | (with_reducible exact marigraphref20_Do.mono _ _ _)
   | (with_reducible exact marigraphref21_Right.mono _ _)
   | (with_reducible exact LeO.refl _)
   | (with_reducible exact LeO.none _)
   | (with_reducible refine LeO.ite ?_ ?_)
   | (with_reducible refine LeO.bind ?_ (fun _ => ?_))
   | exact ih0 _ _ _ _ _ _ _
   | exact ih1 _ _ _ _ _ _ _ _ _
   | exact ih2 _ _ _ _ _ _ _ _ _ _
   | exact ih3 _ _ _ _ _ _ _ _ _ _ _
   | exact ih4 _ _ _ _ _ _ _ _ _ _ _ _
   | exact ih5 _ _ _ _ _ _ _ _ _ _ _ _
   | exact ih6 _ _ _ _ _ _ _ _ _ _ _ _
   | exact ih7 _ _ _ _ _
   | exact marigraphref20_Do.mono _ _ _
   | exact marigraphref21_Right.mono _ _
   | exact LeO.none _
   | refine LeO.ite ?_ ?_
   | refine LeO.bind ?_ (fun _ => ?_)
  ·intro y0 y1 y2 y3 y4 y5 y6 y7 y8 y9 y10 y11
   unfold marigraphref21_Down.l2
   repeat' first
   | (with_reducible exact ih0 _ _ _ _ _ _ _)
   | (with_reducible exact ih1 _ _ _ _ _ _ _ _ _)
   | (with_reducible exact ih2 _ _ _ _ _ _ _ _ _ _)
   | (with_reducible exact ih3 _ _ _ _ _ _ _ _ _ _ _)
   | (with_reducible exact ih4 _ _ _ _ _ _ _ _ _ _ _ _)
   | (with_reducible exact ih5 _ _ _ _ _ _ _ _ _ _ _ _)
   | (with_reducible exact ih6 _ _ _ _ _ _ _ _ _ _ _ _)
   | (with_reducible exact ih7 _ _ _ _ _)
   | (with_reducible exact marigraphref20_Do.mono _ _ _)
   | (with_reducible exact marigraphref21_Right.mono _ _)
   | (with_reducible exact LeO.refl _)
   | (with_reducible exact LeO.none _)
   | (with_reducible refine LeO.ite ?_ ?_)
   | (with_reducible refine LeO.bind ?_ (fun _ => ?_))
   | exact ih0 _ _ _ _ _ _ _
   | exact ih1 _ _ _ _ _ _ _ _ _
   | exact ih2 _ _ _ _ _ _ _ _ _ _
   | exact ih3 _ _ _ _ _ _ _ _ _ _ _
   | exact ih4 _ _ _ _ _ _ _ _ _ _ _ _
   | exact ih5 _ _ _ _ _ _ _ _ _ _ _ _
   | exact ih6 _ _ _ _ _ _ _ _ _ _ _ _
   | exact ih7 _ _ _ _ _
   | exact marigraphref20_Do.mono _ _ _
   | exact marigraphref21_Right.mono _ _
   | exact LeO.none _
   | refine LeO.ite ?_ ?_
   | refine LeO.bind ?_ (fun _ => ?_)
  ·intro y0 y1 y2 y3 y4 y5 y6 y7 y8 y9 y10 y11
   unfold marigraphref21_Down.l1
   repeat' first
   | (with_reducible exact ih0 _ _ _ _ _ _ _)
   | (with_reducible exact ih1 _ _ _ _ _ _ _ _ _)
   | (with_reducible exact ih2 _ _ _ _ _ _ _ _ _ _)
   | (with_reducible exact ih3 _ _ _ _ _ _ _ _ _ _ _)
   | (with_reducible exact ih4 _ _ _ _ _ _ _ _ _ _ _ _)
   | (with_reducible exact ih5 _ _ _ _ _ _ _ _ _ _ _ _)
   | (with_reducible exact ih6 _ _ _ _ _ _ _ _ _ _ _ _)
   | (with_reducible exact ih7 _ _ _ _ _)
   | (with_reducible exact marigraphref20_Do.mono _ _ _)
   | (with_reducible exact marigraphref21_Right.mono _ _)
   | (with_reducible exact LeO.refl _)
   | (with_reducible exact LeO.none _)
   | (with_reducible refine LeO.ite ?_ ?_)
   | (with_reducible refine LeO.bind ?_ (fun _ => ?_))
   | exact ih0 _ _ _ _ _ _ _
   | exact ih1 _ _ _ _ _ _ _ _ _
   | exact ih2 _ _ _ _ _ _ _ _ _ _
   | exact ih3 _ _ _ _ _ _ _ _ _ _ _
   | exact ih4 _ _ _ _ _ _ _ _ _ _ _ _
   | exact ih5 _ _ _ _ _ _ _ _ _ _ _ _
   | exact ih6 _ _ _ _ _ _ _ _ _ _ _ _
   | exact ih7 _ _ _ _ _
   | exact marigraphref20_Do.mono _ _ _
   | exact marigraphref21_Right.mono _ _
   | exact LeO.none _
   | refine LeO.ite ?_ ?_
   | refine LeO.bind ?_ (fun _ => ?_)
  ·intro y0 y1 y2 y3 y4
   unfold marigraphref21_Down.l3
   repeat' first
   | (with_reducible exact ih0 _ _ _ _ _ _ _)
   | (with_reducible exact ih1 _ _ _ _ _ _ _ _ _)
   | (with_reducible exact ih2 _ _ _ _ _ _ _ _ _ _)
   | (with_reducible exact ih3 _ _ _ _ _ _ _ _ _ _ _)
   | (with_reducible exact ih4 _ _ _ _ _ _ _ _ _ _ _ _)
   | (with_reducible exact ih5 _ _ _ _ _ _ _ _ _ _ _ _)
   | (with_reducible exact ih6 _ _ _ _ _ _ _ _ _ _ _ _)
   | (with_reducible exact ih7 _ _ _ _ _)
   | (with_reducible exact marigraphref20_Do.mono _ _ _)
   | (with_reducible exact marigraphref21_Right.mono _ _)
   | (with_reducible exact LeO.refl _)
   | (with_reducible exact LeO.none _)
   | (with_reducible refine LeO.ite ?_ ?_)
   | (with_reducible refine LeO.bind ?_ (fun _ => ?_))
   | exact ih0 _ _ _ _ _ _ _
   | exact ih1 _ _ _ _ _ _ _ _ _
   | exact ih2 _ _ _ _ _ _ _ _ _ _
   | exact ih3 _ _ _ _ _ _ _ _ _ _ _
   | exact ih4 _ _ _ _ _ _ _ _ _ _ _ _
   | exact ih5 _ _ _ _ _ _ _ _ _ _ _ _
   | exact ih6 _ _ _ _ _ _ _ _ _ _ _ _
   | exact ih7 _ _ _ _ _
   | exact marigraphref20_Do.mono _ _ _
   | exact marigraphref21_Right.mono _ _
   | exact LeO.none _
   | refine LeO.ite ?_ ?_
   | refine LeO.bind ?_ (fun _ => ?_)
theorem marigraphref21_Down.mono : ∀ a0 a1 a2 a3 a4 a5 k, LeO (marigraphref21_Down.f k a0 a1 a2 a3 a4 a5) (marigraphref21_Down.f (k + 1) a0 a1 a2 a3 a4 a5) := by
 intro a0 a1 a2 a3 a4 a5 k
 obtain ⟨ih0, ih1, ih2, ih3, ih4, ih5, ih6, ih7⟩ := marigraphref21_Down.mono_l k
 unfold marigraphref21_Down.f
 repeat' first
   | (with_reducible exact ih0 _ _ _ _ _ _ _)
   | (with_reducible exact ih1 _ _ _ _ _ _ _ _ _)
   | (with_reducible exact ih2 _ _ _ _ _ _ _ _ _ _)
   | (with_reducible exact ih3 _ _ _ _ _ _ _ _ _ _ _)
   | (with_reducible exact ih4 _ _ _ _ _ _ _ _ _ _ _ _)
   | (with_reducible exact ih5 _ _ _ _ _ _ _ _ _ _ _ _)
   | (with_reducible exact ih6 _ _ _ _ _ _ _ _ _ _ _ _)
   | (with_reducible exact ih7 _ _ _ _ _)
   | (with_reducible exact marigraphref20_Do.mono _ _ _)
   | (with_reducible exact marigraphref21_Right.mono _ _)
   | (with_reducible exact LeO.refl _)
   | (with_reducible exact LeO.none _)
   | (with_reducible refine LeO.ite ?_ ?_)
   | (with_reducible refine LeO.bind ?_ (fun _ => ?_))
   | exact ih0 _ _ _ _ _ _ _
   | exact ih1 _ _ _ _ _ _ _ _ _
   | exact ih2 _ _ _ _ _ _ _ _ _ _
   | exact ih3 _ _ _ _ _ _ _ _ _ _ _
   | exact ih4 _ _ _ _ _ _ _ _ _ _ _ _
   | exact ih5 _ _ _ _ _ _ _ _ _ _ _ _
   | exact ih6 _ _ _ _ _ _ _ _ _ _ _ _
   | exact ih7 _ _ _ _ _
   | exact marigraphref20_Do.mono _ _ _
   | exact marigraphref21_Right.mono _ _
   | exact LeO.none _
   | refine LeO.ite ?_ ?_
   | refine LeO.bind ?_ (fun _ => ?_)
set_option maxHeartbeats 8000000 in
set_option maxRecDepth 100000 in
theorem marigraphref21_Down.calls (k : Nat) (A0 : Option Addr) (c0 : Nat) (l0 : List (S31)) (a1 : Int) (a2 : Int) (a3 : Int) (a4 : Int) (a5 : Bool) (r1 : List (S31)) (r2 : Int) (w : World) (hr0 : Kd.C k31 w A0 l0.length l0) (hc0 : l0.length ≤ c0) (h : marigraphref21_Down.f k l0 a1 a2 a3 a4 a5 = some (r1, r2)) :
  Calls Try.prog 18 #[.slice A0 l0.length c0, .int .i64 a1, .int .i64 a2, .int .i64 a3, .int .i64 a4, .bool a5] w fun e w' => ∃ v0_ : Value, e = .returned (.tuple #[v0_, .int .i64 r2]) ∧ Kd.R k31 31 w' w.heap.size (fun _ => True) v0_ r1 ∧ Below w.heap.size w w' := by
 have hu29 := Try.underlying29
 have hu31 := Try.underlying31
 have HR0 := Aside0.mk hr0
 have HC0 := Aside0.mk hc0
 clear hr0 hc0
 have HB := Aside0.mk (Below.refl w.heap.size w)
 have H : ((marigraphref21_Right.f k l0).bind fun t308 => (if t308 = true then (if a1 < 0 then (marigraphref21_Down.j0 k l0 a1 a2 a3 a4 a5 true) else (if a2 < a1 then (marigraphref21_Down.j0 k l0 a1 a2 a3 a4 a5 true) else (if a2 > 4294967295 then (marigraphref21_Down.j0 k l0 a1 a2 a3 a4 a5 true) else (if a3 < 1 then (marigraphref21_Down.j0 k l0 a1 a2 a3 a4 a5 true) else (if a3 > 4294967295 then (marigraphref21_Down.j0 k l0 a1 a2 a3 a4 a5 true) else ((marigraphref20_Right.f a4).bind fun t309 => (marigraphref21_Down.j0 k l0 a1 a2 a3 a4 a5 (!t309)))))))) else (marigraphref21_Down.j0 k l0 a1 a2 a3 a4 a5 true))) = some (r1, r2) := h
 clear h
 have HC7 := Aside0.mk H
 clear H
 go_enter Try.func18, Try.ntmps18
 go_upto_region 1 with (fail)
 go_cut [51] (fun v51 wc => ∃ (kq : Nat) (x51_6 : Bool), v51 = .bool x51_6 ∧ Aside0 (marigraphref21_Down.j0 kq l0 a1 a2 a3 a4 a5 x51_6 = some (r1, r2)) ∧ Aside0 (kq ≤ k) ∧ Aside0 (Below w.heap.size w wc))
 case first =>
  have H := HC7.out
  clear HC7
  replace H := Option.bind_eq_some_iff.mp H
  obtain ⟨t308, A80, H⟩ := H
  replace H : (if t308 = true then (if a1 < 0 then (marigraphref21_Down.j0 k l0 a1 a2 a3 a4 a5 true) else (if a2 < a1 then (marigraphref21_Down.j0 k l0 a1 a2 a3 a4 a5 true) else (if a2 > 4294967295 then (marigraphref21_Down.j0 k l0 a1 a2 a3 a4 a5 true) else (if a3 < 1 then (marigraphref21_Down.j0 k l0 a1 a2 a3 a4 a5 true) else (if a3 > 4294967295 then (marigraphref21_Down.j0 k l0 a1 a2 a3 a4 a5 true) else ((marigraphref20_Right.f a4).bind fun t309 => (marigraphref21_Down.j0 k l0 a1 a2 a3 a4 a5 (!t309)))))))) else (marigraphref21_Down.j0 k l0 a1 a2 a3 a4 a5 true)) = some (r1, r2) := H
  have A8 := Aside0.mk A80
  clear A80
  by_cases c9 : t308 = true
  ·subst c9
   have H1 : (if a1 < 0 then (marigraphref21_Down.j0 k l0 a1 a2 a3 a4 a5 true) else (if a2 < a1 then (marigraphref21_Down.j0 k l0 a1 a2 a3 a4 a5 true) else (if a2 > 4294967295 then (marigraphref21_Down.j0 k l0 a1 a2 a3 a4 a5 true) else (if a3 < 1 then (marigraphref21_Down.j0 k l0 a1 a2 a3 a4 a5 true) else (if a3 > 4294967295 then (marigraphref21_Down.j0 k l0 a1 a2 a3 a4 a5 true) else ((marigraphref20_Right.f a4).bind fun t309 => (marigraphref21_Down.j0 k l0 a1 a2 a3 a4 a5 (!t309)))))))) = some (r1, r2) := by rw [if_pos rfl] at H; exact H
   clear H
   have H := H1
   clear H1
   by_cases c10 : a1 < 0
   ·rw [if_pos c10] at H
    have c10b0 : decide (a1 < 0) = true := decide_eq_true c10
    clear c10
    (first | rw [c10b0] | rw [c10b1] | (simp only [i64_w, i32_w]; rw [c10b0]) | skip)
    have H' := Aside0.mk H
    clear H
    go_wp2_with (first | ((with_reducible refine gate_callee (f := 20) rfl ?_); refine goesL_ (some 24) rfl rfl Try.func20 (by kernel_rfl) rfl #[.slice A0 l0.length c0] rfl argN ?_; (with_reducible refine (marigraphref21_Right.calls k _ _ l0 true _ ?side1 ?side2 A8.out).mono ?_); (case side1 => repeat (first | exact (Kd.C_below HR0.out HB.out) | (with_reducible refine Kd.C_alloc ?_ _) | (with_reducible refine Kd.C_drewN ?_ _) | (with_reducible refine Kd.C_drew ?_))); (case side2 => exact HC0.out); rintro e w11 ⟨rfl, hb⟩; refine ⟨_, rfl, ?_⟩; have n0_ := Aside0.mk (below_step (belN HB.out) hb); clear HB; have HB := n0_; clear n0_; (try clear hb); (try clear hk)))
    go_meet
    case rel => exact ⟨_, (true), (by first | rfl | (simp; done) | (simp [*]; done)), H', ⟨by first | omega | exact Nat.le_refl _⟩, ⟨(belN HB.out)⟩⟩
   ·rw [if_neg c10] at H
    have c10b0 : decide (a1 < 0) = false := decide_eq_false c10
    clear c10
    (first | rw [c10b0] | rw [c10b1] | (simp only [i64_w, i32_w]; rw [c10b0]) | skip)
    by_cases c12 : a2 < a1
    ·rw [if_pos c12] at H
     have c12b0 : decide (a2 < a1) = true := decide_eq_true c12
     clear c12
     have H' := Aside0.mk H
     clear H
     go_wp2_with (first | ((with_reducible refine gate_callee (f := 20) rfl ?_); refine goesL_ (some 24) rfl rfl Try.func20 (by kernel_rfl) rfl #[.slice A0 l0.length c0] rfl argN ?_; (with_reducible refine (marigraphref21_Right.calls k _ _ l0 true _ ?side1 ?side2 A8.out).mono ?_); (case side1 => repeat (first | exact (Kd.C_below HR0.out HB.out) | (with_reducible refine Kd.C_alloc ?_ _) | (with_reducible refine Kd.C_drewN ?_ _) | (with_reducible refine Kd.C_drew ?_))); (case side2 => exact HC0.out); rintro e w13 ⟨rfl, hb⟩; refine ⟨_, rfl, ?_⟩; have n0_ := Aside0.mk (below_step (belN HB.out) hb); clear HB; have HB := n0_; clear n0_; (try clear hb); (try clear hk)))
     go_meet
     case rel => exact ⟨_, (true), (by first | rfl | (simp; done) | (simp [*]; done)), H', ⟨by first | omega | exact Nat.le_refl _⟩, ⟨(belN HB.out)⟩⟩
    ·rw [if_neg c12] at H
     have c12b0 : decide (a2 < a1) = false := decide_eq_false c12
     clear c12
     by_cases c14 : a2 > 4294967295
     ·rw [if_pos c14] at H
      have c14b0 : decide (4294967295 < a2) = true := decide_eq_true c14
      clear c14
      have H' := Aside0.mk H
      clear H
      go_wp2_with (first | ((with_reducible refine gate_callee (f := 20) rfl ?_); refine goesL_ (some 24) rfl rfl Try.func20 (by kernel_rfl) rfl #[.slice A0 l0.length c0] rfl argN ?_; (with_reducible refine (marigraphref21_Right.calls k _ _ l0 true _ ?side1 ?side2 A8.out).mono ?_); (case side1 => repeat (first | exact (Kd.C_below HR0.out HB.out) | (with_reducible refine Kd.C_alloc ?_ _) | (with_reducible refine Kd.C_drewN ?_ _) | (with_reducible refine Kd.C_drew ?_))); (case side2 => exact HC0.out); rintro e w15 ⟨rfl, hb⟩; refine ⟨_, rfl, ?_⟩; have n0_ := Aside0.mk (below_step (belN HB.out) hb); clear HB; have HB := n0_; clear n0_; (try clear hb); (try clear hk)))
      go_meet
      case rel => exact ⟨_, (true), (by first | rfl | (simp; done) | (simp [*]; done)), H', ⟨by first | omega | exact Nat.le_refl _⟩, ⟨(belN HB.out)⟩⟩
     ·rw [if_neg c14] at H
      have c14b0 : decide (4294967295 < a2) = false := decide_eq_false c14
      clear c14
      by_cases c16 : a3 < 1
      ·rw [if_pos c16] at H
       have c16b0 : decide (a3 < 1) = true := decide_eq_true c16
       clear c16
       have H' := Aside0.mk H
       clear H
       go_wp2_with (first | ((with_reducible refine gate_callee (f := 20) rfl ?_); refine goesL_ (some 24) rfl rfl Try.func20 (by kernel_rfl) rfl #[.slice A0 l0.length c0] rfl argN ?_; (with_reducible refine (marigraphref21_Right.calls k _ _ l0 true _ ?side1 ?side2 A8.out).mono ?_); (case side1 => repeat (first | exact (Kd.C_below HR0.out HB.out) | (with_reducible refine Kd.C_alloc ?_ _) | (with_reducible refine Kd.C_drewN ?_ _) | (with_reducible refine Kd.C_drew ?_))); (case side2 => exact HC0.out); rintro e w17 ⟨rfl, hb⟩; refine ⟨_, rfl, ?_⟩; have n0_ := Aside0.mk (below_step (belN HB.out) hb); clear HB; have HB := n0_; clear n0_; (try clear hb); (try clear hk)))
       go_meet
       case rel => exact ⟨_, (true), (by first | rfl | (simp; done) | (simp [*]; done)), H', ⟨by first | omega | exact Nat.le_refl _⟩, ⟨(belN HB.out)⟩⟩
      ·rw [if_neg c16] at H
       have c16b0 : decide (a3 < 1) = false := decide_eq_false c16
       clear c16
       by_cases c18 : a3 > 4294967295
       ·rw [if_pos c18] at H
        have c18b0 : decide (4294967295 < a3) = true := decide_eq_true c18
        clear c18
        have H' := Aside0.mk H
        clear H
        go_wp2_with (first | ((with_reducible refine gate_callee (f := 20) rfl ?_); refine goesL_ (some 24) rfl rfl Try.func20 (by kernel_rfl) rfl #[.slice A0 l0.length c0] rfl argN ?_; (with_reducible refine (marigraphref21_Right.calls k _ _ l0 true _ ?side1 ?side2 A8.out).mono ?_); (case side1 => repeat (first | exact (Kd.C_below HR0.out HB.out) | (with_reducible refine Kd.C_alloc ?_ _) | (with_reducible refine Kd.C_drewN ?_ _) | (with_reducible refine Kd.C_drew ?_))); (case side2 => exact HC0.out); rintro e w19 ⟨rfl, hb⟩; refine ⟨_, rfl, ?_⟩; have n0_ := Aside0.mk (below_step (belN HB.out) hb); clear HB; have HB := n0_; clear n0_; (try clear hb); (try clear hk)))
        go_meet
        case rel => exact ⟨_, (true), (by first | rfl | (simp; done) | (simp [*]; done)), H', ⟨by first | omega | exact Nat.le_refl _⟩, ⟨(belN HB.out)⟩⟩
       ·rw [if_neg c18] at H
        have c18b0 : decide (4294967295 < a3) = false := decide_eq_false c18
        clear c18
        replace H := Option.bind_eq_some_iff.mp H
        obtain ⟨t309, A200, H⟩ := H
        replace H : (marigraphref21_Down.j0 k l0 a1 a2 a3 a4 a5 (!t309)) = some (r1, r2) := H
        have A20 := Aside0.mk A200
        clear A200
        have H' := Aside0.mk H
        clear H
        go_wp2_with (first | ((with_reducible refine gate_callee (f := 20) rfl ?_); refine goesL_ (some 24) rfl rfl Try.func20 (by kernel_rfl) rfl #[.slice A0 l0.length c0] rfl argN ?_; (with_reducible refine (marigraphref21_Right.calls k _ _ l0 true _ ?side1 ?side2 A8.out).mono ?_); (case side1 => repeat (first | exact (Kd.C_below HR0.out HB.out) | (with_reducible refine Kd.C_alloc ?_ _) | (with_reducible refine Kd.C_drewN ?_ _) | (with_reducible refine Kd.C_drew ?_))); (case side2 => exact HC0.out); rintro e w21 ⟨rfl, hb⟩; refine ⟨_, rfl, ?_⟩; have n0_ := Aside0.mk (below_step (belN HB.out) hb); clear HB; have HB := n0_; clear n0_; (try clear hb); (try clear hk)) | (go_at_call 14; (with_reducible refine (marigraphref20_Right.calls a4 t309 _ A20.out).mono ?_); rintro e w' ⟨rfl, ⟨nd, rfl⟩⟩))
        go_meet
        case rel => exact ⟨_, (!t309), (by first | rfl | (simp; done) | (simp [*]; done)), H', ⟨by first | omega | exact Nat.le_refl _⟩, ⟨(belN HB.out)⟩⟩
  ·replace c9 := Bool.eq_false_iff.mpr c9
   subst c9
   have H1 : (marigraphref21_Down.j0 k l0 a1 a2 a3 a4 a5 true) = some (r1, r2) := by rw [if_neg (show ¬ (false = true) by decide)] at H; exact H
   clear H
   have H := H1
   clear H1
   have H' := Aside0.mk H
   clear H
   go_wp2_with (first | ((with_reducible refine gate_callee (f := 20) rfl ?_); refine goesL_ (some 24) rfl rfl Try.func20 (by kernel_rfl) rfl #[.slice A0 l0.length c0] rfl argN ?_; (with_reducible refine (marigraphref21_Right.calls k _ _ l0 false _ ?side1 ?side2 A8.out).mono ?_); (case side1 => repeat (first | exact (Kd.C_below HR0.out HB.out) | (with_reducible refine Kd.C_alloc ?_ _) | (with_reducible refine Kd.C_drewN ?_ _) | (with_reducible refine Kd.C_drew ?_))); (case side2 => exact HC0.out); rintro e w22 ⟨rfl, hb⟩; refine ⟨_, rfl, ?_⟩; have n0_ := Aside0.mk (below_step (belN HB.out) hb); clear HB; have HB := n0_; clear n0_; (try clear hb); (try clear hk)))
   go_meet
   case rel => exact ⟨_, (true), (by first | rfl | (simp; done) | (simp [*]; done)), H', ⟨by first | omega | exact Nat.le_refl _⟩, ⟨(belN HB.out)⟩⟩
 case rest =>
  clear HC7
  try clear c1
  try clear c2
  try clear p2
  try clear c9
  try clear c10
  try clear c10b0
  try clear c12
  try clear c12b0
  try clear c14
  try clear c14b0
  try clear c16
  try clear c16b0
  try clear c18
  try clear c18b0
  try clear c20
  obtain ⟨kq, x51_6, rfl, HA, HJ6, HB⟩ := hcut
  cases kq with
  | zero => exact absurd HA.out (by simp [marigraphref21_Down.j0])
  | succ kj6 =>
   have H := HA.out
   clear HA
   simp only [marigraphref21_Down.j0] at H
   by_cases c23 : x51_6 = true
   ·subst c23
    have H1 : (some (([] : List (S31)), 1)) = some (r1, r2) := by rw [if_pos rfl] at H; exact H
    clear H
    have H := H1
    clear H1
    simp only [Option.some.injEq, Prod.mk.injEq] at H
    obtain ⟨rfl, rfl⟩ := H
    go_wp2
    go_ret2
    exact ⟨_, by first | rfl | (simp [errW_none, errW_some] <;> rfl) | (simp [*, errW_none, errW_some] <;> rfl), by first | exact Kd.R_nil _ _ _ _ _ | exact Kd.N_nil _ _ _ _ _ | exact Kd.V_nil _ _ _ _ _ | exact Kd.Q_nil _ _ _ _ _ | exact Kd.S_nil _ _ _ _ _, (belN HB.out)⟩
   ·replace c23 := Bool.eq_false_iff.mpr c23
    subst c23
    have H1 : ((marigraphref21_Bucket.f a1 a3).bind fun t310 => ((marigraphref21_Bucket.f a2 a3).bind fun t311 => (if a5 = true then (if a3 = 0 then (none) else (marigraphref21_Down.j1 kj6 l0 a1 a2 a3 a4 a5 t310 t311 (decide ((wrap64 ((wrap64 (Int.tdiv (wrap64 (t311 - t310)) a3)) + 1)) > 4096)))) else (marigraphref21_Down.j1 kj6 l0 a1 a2 a3 a4 a5 t310 t311 false)))) = some (r1, r2) := by rw [if_neg (show ¬ (false = true) by decide)] at H; exact H
    clear H
    have H := H1
    clear H1
    replace H := Option.bind_eq_some_iff.mp H
    obtain ⟨t310, A240, H⟩ := H
    replace H : ((marigraphref21_Bucket.f a2 a3).bind fun t311 => (if a5 = true then (if a3 = 0 then (none) else (marigraphref21_Down.j1 kj6 l0 a1 a2 a3 a4 a5 t310 t311 (decide ((wrap64 ((wrap64 (Int.tdiv (wrap64 (t311 - t310)) a3)) + 1)) > 4096)))) else (marigraphref21_Down.j1 kj6 l0 a1 a2 a3 a4 a5 t310 t311 false))) = some (r1, r2) := H
    have A24 := Aside0.mk A240
    clear A240
    replace H := Option.bind_eq_some_iff.mp H
    obtain ⟨t311, A250, H⟩ := H
    replace H : (if a5 = true then (if a3 = 0 then (none) else (marigraphref21_Down.j1 kj6 l0 a1 a2 a3 a4 a5 t310 t311 (decide ((wrap64 ((wrap64 (Int.tdiv (wrap64 (t311 - t310)) a3)) + 1)) > 4096)))) else (marigraphref21_Down.j1 kj6 l0 a1 a2 a3 a4 a5 t310 t311 false)) = some (r1, r2) := H
    have A25 := Aside0.mk A250
    clear A250
    have HC26 := Aside0.mk H
    clear H
    go_upto_region 4 with (first | ((with_reducible refine gate_callee (f := 30) rfl ?_); refine goesL_ (some 54) rfl rfl Try.func30 (by kernel_rfl) rfl #[.int .i64 a1, .int .i64 a3] rfl argN ?_; (with_reducible refine (marigraphref21_Bucket.calls a1 a3 t310 _ A24.out).mono ?_); rintro e w' ⟨rfl, ⟨nd, rfl⟩⟩; refine ⟨_, rfl, ?_⟩) | ((with_reducible refine gate_callee (f := 30) rfl ?_); refine goesL_ (some 57) rfl rfl Try.func30 (by kernel_rfl) rfl #[.int .i64 a2, .int .i64 a3] rfl argN ?_; (with_reducible refine (marigraphref21_Bucket.calls a2 a3 t311 _ A25.out).mono ?_); rintro e w' ⟨rfl, ⟨nd, rfl⟩⟩; refine ⟨_, rfl, ?_⟩))
    (try simp only [Act.put, List.setIfInBounds_toArray, List.set_cons_zero, List.set_cons_succ])
    go_cut [67] (fun v67 wc => ∃ (kq : Nat) (x67_25 : Bool), v67 = .bool x67_25 ∧ Aside0 (marigraphref21_Down.j1 kq l0 a1 a2 a3 a4 a5 t310 t311 x67_25 = some (r1, r2)) ∧ Aside0 (kq ≤ kj6) ∧ Aside0 (Below w.heap.size w wc))
    case first =>
     have H := HC26.out
     clear HC26
     by_cases c27 : a5 = true
     ·subst c27
      have H1 : (if a3 = 0 then (none) else (marigraphref21_Down.j1 kj6 l0 a1 a2 a3 a4 true t310 t311 (decide ((wrap64 ((wrap64 (Int.tdiv (wrap64 (t311 - t310)) a3)) + 1)) > 4096)))) = some (r1, r2) := by rw [if_pos rfl] at H; exact H
      clear H
      have H := H1
      clear H1
      by_cases c28 : a3 = 0
      ·rw [if_pos c28] at H
       exact absurd H (by simp)
      ·rw [if_neg c28] at H
       have c28b0 : (a3 == 0) = false := beq_eq_false_iff_ne.mpr c28
       have c28b1 : (a3 != 0) = true := bne_iff_ne.mpr c28
       (first | rw [c28b0] | rw [c28b1] | (simp only [i64_w, i32_w]; rw [c28b0]) | skip)
       have H' := Aside0.mk H
       clear H
       go_wp2
       go_meet
       case rel => exact ⟨_, (decide ((wrap64 ((wrap64 (Int.tdiv (wrap64 (t311 - t310)) a3)) + 1)) > 4096)), (by first | rfl | (simp; done) | (simp [*]; done)), H', ⟨by have := HJ6.out; first | omega | exact Nat.le_refl _⟩, ⟨(belN HB.out)⟩⟩
     ·replace c27 := Bool.eq_false_iff.mpr c27
      subst c27
      have H1 : (marigraphref21_Down.j1 kj6 l0 a1 a2 a3 a4 false t310 t311 false) = some (r1, r2) := by rw [if_neg (show ¬ (false = true) by decide)] at H; exact H
      clear H
      have H := H1
      clear H1
      have H' := Aside0.mk H
      clear H
      go_wp2
      go_meet
      case rel => exact ⟨_, (false), (by first | rfl | (simp; done) | (simp [*]; done)), H', ⟨by have := HJ6.out; first | omega | exact Nat.le_refl _⟩, ⟨(belN HB.out)⟩⟩
    case rest =>
     clear HC26
     try clear c1
     try clear c2
     try clear p2
     try clear c3
     try clear p6
     try clear c9
     try clear c10
     try clear c10b0
     try clear c12
     try clear c12b0
     try clear c14
     try clear c14b0
     try clear c16
     try clear c16b0
     try clear c18
     try clear c18b0
     try clear c20
     try clear c23
     try clear c27
     try clear c28
     try clear c28b0
     try clear c28b1
     try clear p2
     obtain ⟨kq, x67_25, rfl, HA, HJ25, HB⟩ := hcut
     cases kq with
     | zero => exact absurd HA.out (by simp [marigraphref21_Down.j1])
     | succ kj25 =>
      have H := HA.out
      clear HA
      simp only [marigraphref21_Down.j1] at H
      by_cases c29 : x67_25 = true
      ·subst c29
       have H1 : (some (([] : List (S31)), 3)) = some (r1, r2) := by rw [if_pos rfl] at H; exact H
       clear H
       have H := H1
       clear H1
       simp only [Option.some.injEq, Prod.mk.injEq] at H
       obtain ⟨rfl, rfl⟩ := H
       go_wp2
       go_ret2
       exact ⟨_, by first | rfl | (simp [errW_none, errW_some] <;> rfl) | (simp [*, errW_none, errW_some] <;> rfl), by first | exact Kd.R_nil _ _ _ _ _ | exact Kd.N_nil _ _ _ _ _ | exact Kd.V_nil _ _ _ _ _ | exact Kd.Q_nil _ _ _ _ _ | exact Kd.S_nil _ _ _ _ _, (belN HB.out)⟩
      ·replace c29 := Bool.eq_false_iff.mpr c29
       subst c29
       have H1 : (marigraphref21_Down.l0 kj25 l0 a1 a2 a3 a4 a5 t311 ([] : List (S31)) t310 0) = some (r1, r2) := by rw [if_neg (show ¬ (false = true) by decide)] at H; exact H
       clear H
       have H := H1
       clear H1
       have H' := Aside0.mk H
       clear H
       go_wp2
       go_loopg [16, 17, 18] kj25 (fun kq v16 v17 v18 w' => ∃ (x16_3 : List (S31)) (x17_3 : Int) (x18_3 : Int), v17 = .int .i64 x17_3 ∧ v18 = .int .i64 x18_3 ∧ Aside0 (marigraphref21_Down.l0 kq l0 a1 a2 a3 a4 a5 t311 x16_3 x17_3 x18_3 = some (r1, r2)) ∧ Aside0 (kq ≤ kj25) ∧ Aside0 (Kd.R k31 31 w' w.heap.size (fun _ => True) v16 x16_3) ∧ Aside0 (Below w.heap.size w w'))
       case atStart => exact ⟨(([] : List (S31))), (t310), (0), (by first | rfl | (simp; done) | (simp [*]; done)), (by first | rfl | (simp; done) | (simp [*]; done)), H', ⟨Nat.le_refl _⟩, ⟨by first | exact Kd.R_nil _ _ _ _ _ | exact Kd.N_nil _ _ _ _ _ | exact Kd.V_nil _ _ _ _ _ | exact Kd.Q_nil _ _ _ _ _ | exact Kd.S_nil _ _ _ _ _⟩, ⟨(belN HB.out)⟩⟩
       case round =>
        clear H'
        try clear c1
        try clear c2
        try clear p2
        try clear c3
        try clear p6
        try clear c9
        try clear c10
        try clear c10b0
        try clear c12
        try clear c12b0
        try clear c14
        try clear c14b0
        try clear c16
        try clear c16b0
        try clear c18
        try clear c18b0
        try clear c20
        try clear c23
        try clear c27
        try clear c28
        try clear c28b0
        try clear c28b1
        try clear c29
        try clear p2
        try clear p6
        obtain ⟨x16_3, x17_3, x18_3, rfl, rfl, HA, HK3, HO_16, HB⟩ := hrel
        cases gk with
        | zero => exact absurd HA.out (by simp [marigraphref21_Down.l0])
        | succ k3 =>
         have H := HA.out
         clear HA
         simp only [marigraphref21_Down.l0] at H
         by_cases c30 : x18_3 < (l0.length : Int)
         ·rw [if_pos c30] at H
          have c30b0 : decide (x18_3 < (l0.length : Int)) = true := decide_eq_true c30
          clear c30
          have HC31 := Aside0.mk H
          clear H
          go_upto_region 10 with (fail)
          go_cut [88] (fun v88 wc => ∃ (kq : Nat) (x88_30 : Bool), v88 = .bool x88_30 ∧ Aside0 (marigraphref21_Down.j3 kq l0 a1 a2 a3 a4 a5 t311 x16_3 x17_3 x18_3 x88_30 = some (r1, r2)) ∧ Aside0 (kq ≤ k3) ∧ Aside0 (Kd.R k31 31 wc w.heap.size (fun _ => True) u16 x16_3) ∧ Aside0 (Below w.heap.size w wc))
          case first =>
           have H := HC31.out
           clear HC31
           by_cases c32 : 0 ≤ x18_3
           ·rw [if_pos c32] at H
            have c32b0 : decide (0 ≤ x18_3) = true := decide_eq_true c32
            clear c32
            (first | rw [c32b0] | rw [c32b1] | (simp only [i64_w, i32_w]; rw [c32b0]) | skip)
            by_cases c33 : ((rd_T31 l0 x18_3).f0) < a1
            ·rw [if_pos c33] at H
             have c33b0 : decide (((rd_T31 l0 x18_3).f0) < a1) = true := decide_eq_true c33
             clear c33
             have H' := Aside0.mk H
             clear H
             have p312 : 0 ≤ (x18_3 : Int) := of_decide_eq_true (by first | (with_reducible assumption) | assumption)
             have q312 : x18_3 < (l0.length : Int) := of_decide_eq_true (by first | (with_reducible assumption) | assumption)
             obtain ⟨ad312, e312, hx312_0, hx312_1, hx312_2⟩ := at_T31 HR0.out x18_3 p312 q312
             cases e312
             replace hx312_0 := cellB HB.out hx312_0
             replace hx312_1 := cellB HB.out hx312_1
             replace hx312_2 := cellB HB.out hx312_2
             replace p312 := eq_true p312
             replace q312 := eq_true q312
             go_wp2
             go_meet
             case rel => exact ⟨_, (true), (by first | rfl | (simp; done) | (simp [*]; done)), H', ⟨by have := HJ6.out; have := HJ25.out; have := HK3.out; first | omega | exact Nat.le_refl _⟩, ⟨(rowN HO_16.out)⟩, ⟨(belN HB.out)⟩⟩
            ·rw [if_neg c33] at H
             have c33b0 : decide (((rd_T31 l0 x18_3).f0) < a1) = false := decide_eq_false c33
             clear c33
             have H' := Aside0.mk H
             clear H
             have p312 : 0 ≤ (x18_3 : Int) := of_decide_eq_true (by first | (with_reducible assumption) | assumption)
             have q312 : x18_3 < (l0.length : Int) := of_decide_eq_true (by first | (with_reducible assumption) | assumption)
             obtain ⟨ad312, e312, hx312_0, hx312_1, hx312_2⟩ := at_T31 HR0.out x18_3 p312 q312
             cases e312
             replace hx312_0 := cellB HB.out hx312_0
             replace hx312_1 := cellB HB.out hx312_1
             replace hx312_2 := cellB HB.out hx312_2
             replace p312 := eq_true p312
             replace q312 := eq_true q312
             have p313 : 0 ≤ (x18_3 : Int) := of_decide_eq_true (by first | (with_reducible assumption) | assumption)
             have q313 : x18_3 < (l0.length : Int) := of_decide_eq_true (by first | (with_reducible assumption) | assumption)
             obtain ⟨ad313, e313, hx313_0, hx313_1, hx313_2⟩ := at_T31 HR0.out x18_3 p313 q313
             obtain rfl : ad312 = ad313 := (by injection e313)
             replace hx313_0 := cellB HB.out hx313_0
             replace hx313_1 := cellB HB.out hx313_1
             replace hx313_2 := cellB HB.out hx313_2
             replace p313 := eq_true p313
             replace q313 := eq_true q313
             go_wp2
             go_meet
             case rel => exact ⟨_, (decide (((rd_T31 l0 x18_3).f0) > a2)), (by first | rfl | (simp; done) | (simp [*]; done)), H', ⟨by have := HJ6.out; have := HJ25.out; have := HK3.out; first | omega | exact Nat.le_refl _⟩, ⟨(rowN HO_16.out)⟩, ⟨(belN HB.out)⟩⟩
           ·rw [if_neg c32] at H
            exact absurd H (by simp)
          case rest =>
           clear HC31
           try clear c1
           try clear c2
           try clear p2
           try clear c3
           try clear p3
           try clear q3
           try clear hx3
           try clear p6
           try clear c9
           try clear c10
           try clear c10b0
           try clear c12
           try clear c12b0
           try clear c14
           try clear c14b0
           try clear c16
           try clear c16b0
           try clear c18
           try clear c18b0
           try clear c20
           try clear c23
           try clear c27
           try clear c28
           try clear c28b0
           try clear c28b1
           try clear c29
           try clear c30
           try clear c30b0
           try clear p31
           try clear q31
           try clear hx31
           try clear c32
           try clear c32b0
           try clear c33
           try clear c33b0
           try clear hx312_0
           try clear hx312_1
           try clear hx312_2
           try clear hx313_0
           try clear hx313_1
           try clear hx313_2
           try clear p2
           try clear p312
           try clear p313
           try clear p6
           try clear q312
           try clear q313
           obtain ⟨kq, x88_30, rfl, HA, HJ30, HO_16, HB⟩ := hcut
           cases kq with
           | zero => exact absurd HA.out (by simp [marigraphref21_Down.j3])
           | succ kj30 =>
            have H := HA.out
            clear HA
            simp only [marigraphref21_Down.j3] at H
            by_cases c34 : x88_30 = true
            ·subst c34
             have H1 : (marigraphref21_Down.l0 kj30 l0 a1 a2 a3 a4 a5 t311 x16_3 x17_3 (wrap64 (x18_3 + 1))) = some (r1, r2) := by rw [if_pos rfl] at H; exact H
             clear H
             have H := H1
             clear H1
             have H' := Aside0.mk H
             clear H
             go_wp2
             go_roundg kj30
             case measure => have := HJ6.out; have := HJ25.out; have := HK3.out; have := HJ30.out; omega
             case rel => exact ⟨(x16_3), (x17_3), (wrap64 (x18_3 + 1)), (by first | rfl | (simp; done) | (simp [*]; done)), (by first | rfl | (simp; done) | (simp [*]; done)), H', ⟨by have := HJ6.out; have := HJ25.out; have := HK3.out; have := HJ30.out; omega⟩, ⟨(rowN HO_16.out)⟩, ⟨(belN HB.out)⟩⟩
            ·replace c34 := Bool.eq_false_iff.mpr c34
             subst c34
             have H1 : (if 0 ≤ x18_3 then (if x18_3 < (l0.length : Int) then ((marigraphref21_Bucket.f ((rd_T31 l0 x18_3).f0) a3).bind fun t315 => (marigraphref21_Down.l1 kj30 l0 a1 a2 a3 a4 a5 t311 x16_3 x17_3 x18_3 t315 ([] : List (S29)))) else (none)) else (none)) = some (r1, r2) := by rw [if_neg (show ¬ (false = true) by decide)] at H; exact H
             clear H
             have H := H1
             clear H1
             by_cases c35 : 0 ≤ x18_3
             ·rw [if_pos c35] at H
              have c35b0 : decide (0 ≤ x18_3) = true := decide_eq_true c35
              clear c35
              by_cases c36 : x18_3 < (l0.length : Int)
              ·rw [if_pos c36] at H
               have c36b0 : decide (x18_3 < (l0.length : Int)) = true := decide_eq_true c36
               clear c36
               replace H := Option.bind_eq_some_iff.mp H
               obtain ⟨t315, A370, H⟩ := H
               replace H : (marigraphref21_Down.l1 kj30 l0 a1 a2 a3 a4 a5 t311 x16_3 x17_3 x18_3 t315 ([] : List (S29))) = some (r1, r2) := H
               have A37 := Aside0.mk A370
               clear A370
               have HC38 := Aside0.mk H
               clear H
               have p314 : 0 ≤ (x18_3 : Int) := of_decide_eq_true (by first | (with_reducible assumption) | assumption)
               have q314 : x18_3 < (l0.length : Int) := of_decide_eq_true (by first | (with_reducible assumption) | assumption)
               obtain ⟨ad314, e314, hx314_0, hx314_1, hx314_2⟩ := at_T31 HR0.out x18_3 p314 q314
               cases e314
               replace hx314_0 := cellB HB.out hx314_0
               replace hx314_1 := cellB HB.out hx314_1
               replace hx314_2 := cellB HB.out hx314_2
               replace p314 := eq_true p314
               replace q314 := eq_true q314
               go_upto_block 2 with (first | ((with_reducible refine gate_callee (f := 30) rfl ?_); refine goesL_ (some 97) rfl rfl Try.func30 (by kernel_rfl) rfl #[.int .i64 ((rd_T31 l0 x18_3).f0), .int .i64 a3] rfl argN ?_; (with_reducible refine (marigraphref21_Bucket.calls ((rd_T31 l0 x18_3).f0) a3 t315 _ A37.out).mono ?_); rintro e w' ⟨rfl, ⟨nd, rfl⟩⟩; refine ⟨_, rfl, ?_⟩))
               (try simp only [Act.put, List.setIfInBounds_toArray, List.set_cons_zero, List.set_cons_succ])
               go_cut [18, 20] (fun v18 v20 wc => ∃ (kq : Nat) (x18_37 : Int) (x20_37 : List (S29)), v18 = .int .i64 x18_37 ∧ Aside0 (marigraphref21_Down.j5 kq l0 a1 a2 a3 a4 a5 t311 x16_3 x17_3 x18_37 t315 x20_37 = some (r1, r2)) ∧ Aside0 (kq ≤ kj30) ∧ Aside0 (Kd.R k31 31 wc w.heap.size (fun _ => True) u16 x16_3) ∧ Aside0 (Kd.R k29 29 wc w.heap.size (fun _ => True) v20 x20_37) ∧ Aside0 (Below w.heap.size w wc))
               case first =>
                have H := HC38.out
                clear HC38
                have H' := Aside0.mk H
                clear H
                go_wp2
                go_loopg [18, 20] kj30 (fun kq v18 v20 w' => ∃ (x18_5 : Int) (x20_5 : List (S29)), v18 = .int .i64 x18_5 ∧ Aside0 (marigraphref21_Down.l1 kq l0 a1 a2 a3 a4 a5 t311 x16_3 x17_3 x18_5 t315 x20_5 = some (r1, r2)) ∧ Aside0 (kq ≤ kj30) ∧ Aside0 (Kd.R k31 31 w' w.heap.size (fun _ => True) u16 x16_3) ∧ Aside0 (Kd.R k29 29 w' w.heap.size (fun _ => True) v20 x20_5) ∧ Aside0 (Below w.heap.size w w'))
                case atStart => exact ⟨(x18_3), (([] : List (S29))), (by first | rfl | (simp; done) | (simp [*]; done)), H', ⟨Nat.le_refl _⟩, ⟨(rowN HO_16.out)⟩, ⟨by first | exact Kd.R_nil _ _ _ _ _ | exact Kd.N_nil _ _ _ _ _ | exact Kd.V_nil _ _ _ _ _ | exact Kd.Q_nil _ _ _ _ _ | exact Kd.S_nil _ _ _ _ _⟩, ⟨(belN HB.out)⟩⟩
                case round =>
                 clear H'
                 try clear c1
                 try clear c2
                 try clear p2
                 try clear c3
                 try clear p3
                 try clear q3
                 try clear hx3
                 try clear p6
                 try clear c9
                 try clear c10
                 try clear c10b0
                 try clear c12
                 try clear c12b0
                 try clear c14
                 try clear c14b0
                 try clear c16
                 try clear c16b0
                 try clear c18
                 try clear c18b0
                 try clear c20
                 try clear c23
                 try clear c27
                 try clear c28
                 try clear c28b0
                 try clear c28b1
                 try clear c29
                 try clear c30
                 try clear c30b0
                 try clear p31
                 try clear q31
                 try clear hx31
                 try clear c32
                 try clear c32b0
                 try clear c33
                 try clear c33b0
                 try clear c34
                 try clear c35
                 try clear c35b0
                 try clear c36
                 try clear c36b0
                 try clear hx312_0
                 try clear hx312_1
                 try clear hx312_2
                 try clear hx313_0
                 try clear hx313_1
                 try clear hx313_2
                 try clear hx314_0
                 try clear hx314_1
                 try clear hx314_2
                 try clear p2
                 try clear p3
                 try clear p31
                 try clear p312
                 try clear p313
                 try clear p314
                 try clear p6
                 try clear q3
                 try clear q31
                 try clear q312
                 try clear q313
                 try clear q314
                 obtain ⟨x18_5, x20_5, rfl, HA, HK5, HO_16, HO_20, HB⟩ := hrel
                 cases gk with
                 | zero => exact absurd HA.out (by simp [marigraphref21_Down.l1])
                 | succ k5 =>
                  have H := HA.out
                  clear HA
                  simp only [marigraphref21_Down.l1] at H
                  by_cases c39 : x18_5 < (l0.length : Int)
                  ·rw [if_pos c39] at H
                   have c39b0 : decide (x18_5 < (l0.length : Int)) = true := decide_eq_true c39
                   clear c39
                   (first | rw [c39b0] | rw [c39b1] | (simp only [i64_w, i32_w]; rw [c39b0]) | skip)
                   by_cases c40 : 0 ≤ x18_5
                   ·rw [if_pos c40] at H
                    have c40b0 : decide (0 ≤ x18_5) = true := decide_eq_true c40
                    clear c40
                    by_cases c41 : ((rd_T31 l0 x18_5).f0) ≤ a2
                    ·rw [if_pos c41] at H
                     have c41b0 : decide (((rd_T31 l0 x18_5).f0) ≤ a2) = true := decide_eq_true c41
                     clear c41
                     replace H := Option.bind_eq_some_iff.mp H
                     obtain ⟨t318, A420, H⟩ := H
                     replace H : (if t318 = t315 then (if x20_5.length < 8796093022208 then (marigraphref21_Down.l1 k5 l0 a1 a2 a3 a4 a5 t311 x16_3 x17_3 (wrap64 (x18_5 + 1)) t315 (x20_5 ++ [(⟨(rd_T31 l0 x18_5).f1.f0, (rd_T31 l0 x18_5).f1.f1⟩ : S29)])) else (none)) else (marigraphref21_Down.j5 k5 l0 a1 a2 a3 a4 a5 t311 x16_3 x17_3 x18_5 t315 x20_5)) = some (r1, r2) := H
                     have A42 := Aside0.mk A420
                     clear A420
                     by_cases c43 : t318 = t315
                     ·rw [if_pos c43] at H
                      have c43b0 : (t318 == t315) = true := beq_iff_eq.mpr c43
                      have c43b1 : (t318 != t315) = false := bne_eq_false_iff_eq.mpr c43
                      clear c43
                      by_cases c44 : x20_5.length < 8796093022208
                      ·rw [if_pos c44] at H
                       have LMc44 := Aside0.mk c44
                       clear c44
                       obtain ⟨y320, hy320⟩ : ∃ y_ : List (S29), y_ = (x20_5 ++ [(⟨(rd_T31 l0 x18_5).f1.f0, (rd_T31 l0 x18_5).f1.f1⟩ : S29)]) := ⟨_, rfl⟩
                       replace H : (marigraphref21_Down.l1 k5 l0 a1 a2 a3 a4 a5 t311 x16_3 x17_3 (wrap64 (x18_5 + 1)) t315 y320) = some (r1, r2) := by first | (rw [hy320]; with_reducible exact H) | (have H2_ := (Option.bind_some _ _).symm.trans H; rw [hy320]; with_reducible exact H2_) | (have H2_ := (Option.bind_some _ _).symm.trans H; with_reducible exact H2_) | with_reducible exact H | (rw [hy320]; exact H) | exact H
                       have Ny320 := Aside0.mk hy320
                       clear hy320
                       have H' := Aside0.mk H
                       clear H
                       have p316 : 0 ≤ (x18_5 : Int) := of_decide_eq_true (by first | (with_reducible assumption) | assumption)
                       have q316 : x18_5 < (l0.length : Int) := of_decide_eq_true (by first | (with_reducible assumption) | assumption)
                       obtain ⟨ad316, e316, hx316_0, hx316_1, hx316_2⟩ := at_T31 HR0.out x18_5 p316 q316
                       obtain rfl : ad314 = ad316 := (by injection e316)
                       replace hx316_0 := cellB HB.out hx316_0
                       replace hx316_1 := cellB HB.out hx316_1
                       replace hx316_2 := cellB HB.out hx316_2
                       replace p316 := eq_true p316
                       replace q316 := eq_true q316
                       have p317 : 0 ≤ (x18_5 : Int) := of_decide_eq_true (by first | (with_reducible assumption) | assumption)
                       have q317 : x18_5 < (l0.length : Int) := of_decide_eq_true (by first | (with_reducible assumption) | assumption)
                       obtain ⟨ad317, e317, hx317_0, hx317_1, hx317_2⟩ := at_T31 HR0.out x18_5 p317 q317
                       obtain rfl : ad314 = ad317 := (by injection e317)
                       replace hx317_0 := cellB HB.out hx317_0
                       replace hx317_1 := cellB HB.out hx317_1
                       replace hx317_2 := cellB HB.out hx317_2
                       replace p317 := eq_true p317
                       replace q317 := eq_true q317
                       go_wp2_with (first | (go_at_call 30; (with_reducible refine (marigraphref21_Bucket.calls ((rd_T31 l0 x18_5).f0) a3 t318 _ A42.out).mono ?_); rintro e w' ⟨rfl, ⟨nd, rfl⟩⟩; have p319 : 0 ≤ (x18_5 : Int) := of_decide_eq_true (by first | (with_reducible assumption) | assumption); have q319 : x18_5 < (l0.length : Int) := of_decide_eq_true (by first | (with_reducible assumption) | assumption); obtain ⟨ad319, e319, hx319_0, hx319_1, hx319_2⟩ := at_T31 HR0.out x18_5 p319 q319; obtain rfl : ad314 = ad319 := (by injection e319); replace hx319_0 := cellB HB.out hx319_0; replace hx319_1 := cellB HB.out hx319_1; replace hx319_2 := cellB HB.out hx319_2; replace p319 := eq_true p319; replace q319 := eq_true q319) | ((with_reducible refine gate_builtin (b := .append) (xs := #[.tmp 122, .tmp 128]) rfl ?_); at_builtin; refine Kd.R_append k29 (w0 := w) w.heap.size rfl (.tmp 122) (.tmp 128) 43 29 (.agg #[(.int .i64 0), (.int .i64 0)]) 16 rfl Try.underlying43 info29 rfl (by decide) (by omega) u20 x20_5 (⟨(rd_T31 l0 x18_5).f1.f0, (rd_T31 l0 x18_5).f1.f1⟩ : S29) [.int .i64 ((rd_T31 l0 x18_5).f1.f0), .int .i64 ((rd_T31 l0 x18_5).f1.f1)] (fun _ => True) (fun _ => False) rfl rfl ?aP (fun _ hk => hk.elim) ?aF ?aO ?aB ?aS ?aL ?_; (case aP => exact k29_mkM _ _ _ (⟨(rd_T31 l0 x18_5).f1.f0, (rd_T31 l0 x18_5).f1.f1⟩ : S29)); (case aB => exact (belN HB.out)); (case aF => exact (fun _ _ => trivial)); (case aO => exact (rowN HO_20.out)); (case aS => exact (below_size (belN HB.out))); (case aL => have := LMc44.out; omega); intro v321 w45 ho hb hg hat; rw [← Ny320.out] at ho; have n0_ := Aside0.mk (Kd.R_over' (rowN HO_16.out) (Kd.R_typed (rowN HO_20.out)) (by decide) hg); have n1_ := Aside0.mk (hb); have n2_ := Aside0.mk (ho); clear HO_16; clear HB; clear HO_20; have HO_16 := n0_; have HB := n1_; have HO322 := n2_; clear n0_ n1_ n2_; clear ho hb hg hat))
                       go_roundg k5
                       case measure => have := HJ6.out; have := HJ25.out; have := HK3.out; have := HJ30.out; have := HK5.out; omega
                       case rel => exact ⟨(wrap64 (x18_5 + 1)), (y320), (by first | rfl | (simp; done) | (simp [*]; done)), H', ⟨by have := HJ6.out; have := HJ25.out; have := HK3.out; have := HJ30.out; have := HK5.out; omega⟩, ⟨(rowN HO_16.out)⟩, ⟨(rowN HO322.out)⟩, ⟨(belN HB.out)⟩⟩
                      ·rw [if_neg c44] at H
                       exact absurd H (by simp)
                     ·rw [if_neg c43] at H
                      have c43b0 : (t318 == t315) = false := beq_eq_false_iff_ne.mpr c43
                      have c43b1 : (t318 != t315) = true := bne_iff_ne.mpr c43
                      have H' := Aside0.mk H
                      clear H
                      have p316 : 0 ≤ (x18_5 : Int) := of_decide_eq_true (by first | (with_reducible assumption) | assumption)
                      have q316 : x18_5 < (l0.length : Int) := of_decide_eq_true (by first | (with_reducible assumption) | assumption)
                      obtain ⟨ad316, e316, hx316_0, hx316_1, hx316_2⟩ := at_T31 HR0.out x18_5 p316 q316
                      obtain rfl : ad314 = ad316 := (by injection e316)
                      replace hx316_0 := cellB HB.out hx316_0
                      replace hx316_1 := cellB HB.out hx316_1
                      replace hx316_2 := cellB HB.out hx316_2
                      replace p316 := eq_true p316
                      replace q316 := eq_true q316
                      have p317 : 0 ≤ (x18_5 : Int) := of_decide_eq_true (by first | (with_reducible assumption) | assumption)
                      have q317 : x18_5 < (l0.length : Int) := of_decide_eq_true (by first | (with_reducible assumption) | assumption)
                      obtain ⟨ad317, e317, hx317_0, hx317_1, hx317_2⟩ := at_T31 HR0.out x18_5 p317 q317
                      obtain rfl : ad314 = ad317 := (by injection e317)
                      replace hx317_0 := cellB HB.out hx317_0
                      replace hx317_1 := cellB HB.out hx317_1
                      replace hx317_2 := cellB HB.out hx317_2
                      replace p317 := eq_true p317
                      replace q317 := eq_true q317
                      go_wp2_with (first | (go_at_call 30; (with_reducible refine (marigraphref21_Bucket.calls ((rd_T31 l0 x18_5).f0) a3 t318 _ A42.out).mono ?_); rintro e w' ⟨rfl, ⟨nd, rfl⟩⟩))
                      go_meet
                      case rel => exact ⟨_, (x18_5), (x20_5), (by first | rfl | (simp; done) | (simp [*]; done)), H', ⟨by have := HJ6.out; have := HJ25.out; have := HK3.out; have := HJ30.out; have := HK5.out; first | omega | exact Nat.le_refl _⟩, ⟨(rowN HO_16.out)⟩, ⟨(rowN HO_20.out)⟩, ⟨(belN HB.out)⟩⟩
                    ·rw [if_neg c41] at H
                     have c41b0 : decide (((rd_T31 l0 x18_5).f0) ≤ a2) = false := decide_eq_false c41
                     clear c41
                     have H' := Aside0.mk H
                     clear H
                     have p316 : 0 ≤ (x18_5 : Int) := of_decide_eq_true (by first | (with_reducible assumption) | assumption)
                     have q316 : x18_5 < (l0.length : Int) := of_decide_eq_true (by first | (with_reducible assumption) | assumption)
                     obtain ⟨ad316, e316, hx316_0, hx316_1, hx316_2⟩ := at_T31 HR0.out x18_5 p316 q316
                     obtain rfl : ad314 = ad316 := (by injection e316)
                     replace hx316_0 := cellB HB.out hx316_0
                     replace hx316_1 := cellB HB.out hx316_1
                     replace hx316_2 := cellB HB.out hx316_2
                     replace p316 := eq_true p316
                     replace q316 := eq_true q316
                     go_wp2
                     go_meet
                     case rel => exact ⟨_, (x18_5), (x20_5), (by first | rfl | (simp; done) | (simp [*]; done)), H', ⟨by have := HJ6.out; have := HJ25.out; have := HK3.out; have := HJ30.out; have := HK5.out; first | omega | exact Nat.le_refl _⟩, ⟨(rowN HO_16.out)⟩, ⟨(rowN HO_20.out)⟩, ⟨(belN HB.out)⟩⟩
                   ·rw [if_neg c40] at H
                    exact absurd H (by simp)
                  ·rw [if_neg c39] at H
                   have c39b0 : decide (x18_5 < (l0.length : Int)) = false := decide_eq_false c39
                   clear c39
                   (first | rw [c39b0] | rw [c39b1] | (simp only [i64_w, i32_w]; rw [c39b0]) | skip)
                   have H' := Aside0.mk H
                   clear H
                   go_wp2
                   go_meet
                   case rel => exact ⟨_, (x18_5), (x20_5), (by first | rfl | (simp; done) | (simp [*]; done)), H', ⟨by have := HJ6.out; have := HJ25.out; have := HK3.out; have := HJ30.out; have := HK5.out; first | omega | exact Nat.le_refl _⟩, ⟨(rowN HO_16.out)⟩, ⟨(rowN HO_20.out)⟩, ⟨(belN HB.out)⟩⟩
               case rest =>
                clear HC38
                try clear c1
                try clear c2
                try clear p2
                try clear c3
                try clear p3
                try clear q3
                try clear hx3
                try clear c4
                try clear p6
                try clear c9
                try clear c10
                try clear c10b0
                try clear c12
                try clear c12b0
                try clear c14
                try clear c14b0
                try clear c16
                try clear c16b0
                try clear c18
                try clear c18b0
                try clear c20
                try clear c23
                try clear c27
                try clear c28
                try clear c28b0
                try clear c28b1
                try clear c29
                try clear c30
                try clear c30b0
                try clear p31
                try clear q31
                try clear hx31
                try clear c32
                try clear c32b0
                try clear c33
                try clear c33b0
                try clear c34
                try clear c35
                try clear c35b0
                try clear c36
                try clear c36b0
                try clear c39
                try clear c39b0
                try clear c40
                try clear c40b0
                try clear c41
                try clear c41b0
                try clear c43
                try clear c43b0
                try clear c43b1
                try clear c44
                try clear hx312_0
                try clear hx312_1
                try clear hx312_2
                try clear hx313_0
                try clear hx313_1
                try clear hx313_2
                try clear hx314_0
                try clear hx314_1
                try clear hx314_2
                try clear hx316_0
                try clear hx316_1
                try clear hx316_2
                try clear hx317_0
                try clear hx317_1
                try clear hx317_2
                try clear hx319_0
                try clear hx319_1
                try clear hx319_2
                try clear p2
                try clear p3
                try clear p31
                try clear p312
                try clear p313
                try clear p314
                try clear p316
                try clear p317
                try clear p319
                try clear p6
                try clear q3
                try clear q31
                try clear q312
                try clear q313
                try clear q314
                try clear q316
                try clear q317
                try clear q319
                obtain ⟨kq, x18_37, x20_37, rfl, HA, HJ37, HO_16, HO_20, HB⟩ := hcut
                cases kq with
                | zero => exact absurd HA.out (by simp [marigraphref21_Down.j5])
                | succ kj37 =>
                 have H := HA.out
                 clear HA
                 simp only [marigraphref21_Down.j5] at H
                 have H' := Aside0.mk H
                 clear H
                 go_wp2
                 go_loopg [16, 17] kj37 (fun kq v16 v17 w' => ∃ (x16_6 : List (S31)) (x17_6 : Int), v17 = .int .i64 x17_6 ∧ Aside0 (marigraphref21_Down.l2 kq l0 a1 a2 a3 a4 a5 t311 x16_6 x17_6 x18_37 t315 x20_37 = some (r1, r2)) ∧ Aside0 (kq ≤ kj37) ∧ Aside0 (Kd.R k31 31 w' w.heap.size (fun _ => True) v16 x16_6) ∧ Aside0 (Kd.R k29 29 w' w.heap.size (fun _ => True) u20 x20_37) ∧ Aside0 (Below w.heap.size w w'))
                 case atStart => exact ⟨(x16_3), (x17_3), (by first | rfl | (simp; done) | (simp [*]; done)), H', ⟨Nat.le_refl _⟩, ⟨(rowN HO_16.out)⟩, ⟨(rowN HO_20.out)⟩, ⟨(belN HB.out)⟩⟩
                 case round =>
                  clear H'
                  try clear c1
                  try clear c2
                  try clear p2
                  try clear c3
                  try clear p3
                  try clear q3
                  try clear hx3
                  try clear c4
                  try clear p6
                  try clear c9
                  try clear c10
                  try clear c10b0
                  try clear c12
                  try clear c12b0
                  try clear c14
                  try clear c14b0
                  try clear c16
                  try clear c16b0
                  try clear c18
                  try clear c18b0
                  try clear c20
                  try clear c23
                  try clear c27
                  try clear c28
                  try clear c28b0
                  try clear c28b1
                  try clear c29
                  try clear c30
                  try clear c30b0
                  try clear p31
                  try clear q31
                  try clear hx31
                  try clear c32
                  try clear c32b0
                  try clear c33
                  try clear c33b0
                  try clear c34
                  try clear c35
                  try clear c35b0
                  try clear c36
                  try clear c36b0
                  try clear c39
                  try clear c39b0
                  try clear c40
                  try clear c40b0
                  try clear c41
                  try clear c41b0
                  try clear c43
                  try clear c43b0
                  try clear c43b1
                  try clear c44
                  try clear hx312_0
                  try clear hx312_1
                  try clear hx312_2
                  try clear hx313_0
                  try clear hx313_1
                  try clear hx313_2
                  try clear hx314_0
                  try clear hx314_1
                  try clear hx314_2
                  try clear hx316_0
                  try clear hx316_1
                  try clear hx316_2
                  try clear hx317_0
                  try clear hx317_1
                  try clear hx317_2
                  try clear hx319_0
                  try clear hx319_1
                  try clear hx319_2
                  try clear p2
                  try clear p3
                  try clear p31
                  try clear p312
                  try clear p313
                  try clear p314
                  try clear p316
                  try clear p317
                  try clear p319
                  try clear p6
                  try clear q3
                  try clear q31
                  try clear q312
                  try clear q313
                  try clear q314
                  try clear q316
                  try clear q317
                  try clear q319
                  obtain ⟨x16_6, x17_6, rfl, HA, HK6, HO_16, HO_20, HB⟩ := hrel
                  cases gk with
                  | zero => exact absurd HA.out (by simp [marigraphref21_Down.l2])
                  | succ k6 =>
                   have H := HA.out
                   clear HA
                   simp only [marigraphref21_Down.l2] at H
                   by_cases c46 : a5 = true
                   ·subst c46
                    have H1 : (if x17_6 < t315 then (if x16_6.length < 5864062014805 then (marigraphref21_Down.l2 k6 l0 a1 a2 a3 a4 true t311 (x16_6 ++ [(⟨x17_6, (⟨0, 1⟩ : S29)⟩ : S31)]) (wrap64 (x17_6 + a3)) x18_37 t315 x20_37) else (none)) else ((marigraphref20_Do.f k6 a4 x20_37).bind fun bt326 => (if bt326.2.2 = 0 then (if x16_6.length < 5864062014805 then (marigraphref21_Down.l0 k6 l0 a1 a2 a3 a4 true t311 (x16_6 ++ [(⟨t315, (⟨bt326.1, bt326.2.1⟩ : S29)⟩ : S31)]) (wrap64 (t315 + a3)) x18_37) else (none)) else (some (([] : List (S31)), bt326.2.2))))) = some (r1, r2) := by rw [if_pos rfl] at H; exact H
                    clear H
                    have H := H1
                    clear H1
                    by_cases c47 : x17_6 < t315
                    ·rw [if_pos c47] at H
                     have c47b0 : decide (x17_6 < t315) = true := decide_eq_true c47
                     clear c47
                     by_cases c48 : x16_6.length < 5864062014805
                     ·rw [if_pos c48] at H
                      have LMc48 := Aside0.mk c48
                      clear c48
                      obtain ⟨y323, hy323⟩ : ∃ y_ : List (S31), y_ = (x16_6 ++ [(⟨x17_6, (⟨0, 1⟩ : S29)⟩ : S31)]) := ⟨_, rfl⟩
                      replace H : (marigraphref21_Down.l2 k6 l0 a1 a2 a3 a4 true t311 y323 (wrap64 (x17_6 + a3)) x18_37 t315 x20_37) = some (r1, r2) := by first | (rw [hy323]; with_reducible exact H) | (have H2_ := (Option.bind_some _ _).symm.trans H; rw [hy323]; with_reducible exact H2_) | (have H2_ := (Option.bind_some _ _).symm.trans H; with_reducible exact H2_) | with_reducible exact H | (rw [hy323]; exact H) | exact H
                      have Ny323 := Aside0.mk hy323
                      clear hy323
                      have H' := Aside0.mk H
                      clear H
                      go_wp2_with (first | ((with_reducible refine gate_builtin (b := .append) (xs := #[.tmp 141, .tmp 145]) rfl ?_); at_builtin; refine Kd.R_append k31 (w0 := w) w.heap.size rfl (.tmp 141) (.tmp 145) 22 31 (.agg #[(.int .i64 0), (.int .i64 0), (.int .i64 0)]) 24 rfl Try.underlying22 info31 rfl (by decide) (by omega) u16 x16_6 (⟨x17_6, (⟨0, 1⟩ : S29)⟩ : S31) [.int .i64 x17_6, .int .i64 0, .int .i64 1] (fun _ => True) (fun _ => False) rfl rfl ?aP (fun _ hk => hk.elim) ?aF ?aO ?aB ?aS ?aL ?_; (case aP => exact k31_mkM _ _ _ (⟨x17_6, (⟨0, 1⟩ : S29)⟩ : S31)); (case aB => exact (belN HB.out)); (case aF => exact (fun _ _ => trivial)); (case aO => exact (rowN HO_16.out)); (case aS => exact (below_size (belN HB.out))); (case aL => have := LMc48.out; omega); intro v324 w49 ho hb hg hat; rw [← Ny323.out] at ho; have n0_ := Aside0.mk (Kd.R_over' (rowN HO_20.out) (Kd.R_typed (rowN HO_16.out)) (by decide) hg); have n1_ := Aside0.mk (hb); have n2_ := Aside0.mk (ho); clear HO_20; clear HB; clear HO_16; have HO_20 := n0_; have HB := n1_; have HO325 := n2_; clear n0_ n1_ n2_; clear ho hb hg hat))
                      go_roundg k6
                      case measure => have := HJ6.out; have := HJ25.out; have := HK3.out; have := HJ30.out; have := HJ37.out; have := HK6.out; omega
                      case rel => exact ⟨(y323), (wrap64 (x17_6 + a3)), (by first | rfl | (simp; done) | (simp [*]; done)), H', ⟨by have := HJ6.out; have := HJ25.out; have := HK3.out; have := HJ30.out; have := HJ37.out; have := HK6.out; omega⟩, ⟨(rowN HO325.out)⟩, ⟨(rowN HO_20.out)⟩, ⟨(belN HB.out)⟩⟩
                     ·rw [if_neg c48] at H
                      exact absurd H (by simp)
                    ·rw [if_neg c47] at H
                     have c47b0 : decide (x17_6 < t315) = false := decide_eq_false c47
                     clear c47
                     replace H := Option.bind_eq_some_iff.mp H
                     obtain ⟨⟨t326, t327, t328⟩, A500, H⟩ := H
                     replace H : (if t328 = 0 then (if x16_6.length < 5864062014805 then (marigraphref21_Down.l0 k6 l0 a1 a2 a3 a4 true t311 (x16_6 ++ [(⟨t315, (⟨t326, t327⟩ : S29)⟩ : S31)]) (wrap64 (t315 + a3)) x18_37) else (none)) else (some (([] : List (S31)), t328))) = some (r1, r2) := H
                     have A50 := Aside0.mk A500
                     clear A500
                     by_cases c51 : t328 = 0
                     ·rw [if_pos c51] at H
                      have c51b0 : (t328 == 0) = true := beq_iff_eq.mpr c51
                      have c51b1 : (t328 != 0) = false := bne_eq_false_iff_eq.mpr c51
                      clear c51
                      by_cases c52 : x16_6.length < 5864062014805
                      ·rw [if_pos c52] at H
                       have LMc52 := Aside0.mk c52
                       clear c52
                       obtain ⟨y330, hy330⟩ : ∃ y_ : List (S31), y_ = (x16_6 ++ [(⟨t315, (⟨t326, t327⟩ : S29)⟩ : S31)]) := ⟨_, rfl⟩
                       replace H : (marigraphref21_Down.l0 k6 l0 a1 a2 a3 a4 true t311 y330 (wrap64 (t315 + a3)) x18_37) = some (r1, r2) := by first | (rw [hy330]; with_reducible exact H) | (have H2_ := (Option.bind_some _ _).symm.trans H; rw [hy330]; with_reducible exact H2_) | (have H2_ := (Option.bind_some _ _).symm.trans H; with_reducible exact H2_) | with_reducible exact H | (rw [hy330]; exact H) | exact H
                       have Ny330 := Aside0.mk hy330
                       clear hy330
                       have H' := Aside0.mk H
                       clear H
                       obtain ⟨Ao53, co53, eo53⟩ := Kd.R_slice HO_20.out
                       subst eo53
                       go_wp2_with (first | ((with_reducible refine gate_callee (f := 16) rfl ?_); refine goesL_ (some 150) rfl rfl Try.func16 (by kernel_rfl) rfl #[.int .i64 a4, .slice Ao53 x20_37.length co53] rfl argN ?_; (with_reducible refine (marigraphref20_Do.calls k6 a4 _ _ x20_37 t326 t327 t328 _ ?side1 ?side2 A50.out).mono ?_); (case side1 => repeat (first | exact (Kd.R_reads' HO_20.out).2.2 | (with_reducible refine Kd.C_alloc ?_ _) | (with_reducible refine Kd.C_drewN ?_ _) | (with_reducible refine Kd.C_drew ?_))); (case side2 => exact (Kd.R_reads' HO_20.out).2.1); rintro e w54 ⟨rfl, hb⟩; refine ⟨_, rfl, ?_⟩; have n0_ := Aside0.mk (Kd.R_below (rowN HO_16.out) hb); have n1_ := Aside0.mk (Kd.R_below (rowN HO_20.out) hb); have n2_ := Aside0.mk (below_step (belN HB.out) hb); clear HO_16; clear HO_20; clear HB; have HO_16 := n0_; have HO_20 := n1_; have HB := n2_; clear n0_ n1_ n2_; (try clear hb); (try clear hk)) | ((with_reducible refine gate_dst (N := 21) rfl ?_); refine box_event ?hg (N := 21) ?hd (cs := #[.int .i64 0, .int .i64 0]) (t := 29) ?hr ?_; (case hd => rfl); (case hg => rfl); (case hr => first | (go_simp; done) | (go_simp; rfl)); intro gb329 hg w55 hbox hb; have n0_ := Aside0.mk (Kd.R_below (rowN HO_16.out) hb); have n1_ := Aside0.mk (Kd.R_below (Kd.R_elderB (rowN HO_20.out) gb329 (Nat.le_of_eq hg.symm)) hb); have n2_ := Aside0.mk (below_step (belN HB.out) hb); have n3_ := Aside0.mk (hbox); have n4_ := Aside0.mk (szB hg HB.out); have n5_ := Aside0.mk (szB hg HB.out); clear HO_16; clear HO_20; clear HB; have HO_16 := n0_; have HO_20 := n1_; have HB := n2_; have BK329 := n3_; have GW329 := n4_; have GE329 := n5_; clear n0_ n1_ n2_ n3_ n4_ n5_; clear hb hbox hg; have hcz56_0 : w55.cell? ⟨gb329, 0, none⟩ = some (.int .i64 0) := (blk_cell BK329.out 0).trans rfl; have hcz56_1 : w55.cell? ⟨gb329, 1, none⟩ = some (.int .i64 0) := (blk_cell BK329.out 1).trans rfl; have hfz56_0 := blk_frozen BK329.out 0; have hfz56_1 := blk_frozen BK329.out 1) | ((with_reducible refine gate_builtin (b := .append) (xs := #[.tmp 156, .tmp 160]) rfl ?_); at_builtin; refine Kd.R_append k31 (w0 := w) w.heap.size rfl (.tmp 156) (.tmp 160) 22 31 (.agg #[(.int .i64 0), (.int .i64 0), (.int .i64 0)]) 24 rfl Try.underlying22 info31 rfl (by decide) (by omega) u16 x16_6 (⟨t315, (⟨t326, t327⟩ : S29)⟩ : S31) [.int .i64 t315, .int .i64 t326, .int .i64 t327] (fun _ => True) (fun _ => False) rfl (by first | (go_simp; done) | (go_simp; rfl)) ?aP (fun _ hk => hk.elim) ?aF ?aO ?aB ?aS ?aL ?_; (case aP => exact k31_mkM _ _ _ (⟨t315, (⟨t326, t327⟩ : S29)⟩ : S31)); (case aB => exact (belS HB.out)); (case aF => exact (fun _ _ => trivial)); (case aO => exact (by (with_reducible repeat (first | apply Kd.R_alloc | apply Kd.R_drewN | apply Kd.R_drew)); exact Kd.R_mono (Kd.R_far (p := ⟨gb329, 1, none⟩) (Kd.R_far (p := ⟨gb329, 0, none⟩) (Kd.R_types HO_16.out BK329.out (by decide)) (fun _ hk => hk.2) (.int .i64 t326)) (fun _ hk => hk.2) (.int .i64 t327)) (fun _ hk => trivial))); (case aS => exact (below_size (belS HB.out))); (case aL => have := LMc52.out; omega); intro v331 w57 ho hb hg hat; rw [← Ny330.out] at ho; have n0_ := Aside0.mk (Kd.R_over' (by (with_reducible repeat (first | apply Kd.R_alloc | apply Kd.R_drewN | apply Kd.R_drew)); exact (Kd.R_mono (Kd.R_far (p := ⟨gb329, 1, none⟩) (Kd.R_far (p := ⟨gb329, 0, none⟩) (Kd.R_mono HO_20.out (fun k_ hk => (⟨hk, hk.2⟩ : _ ∧ k_ ≠ gb329))) (fun _ hk => hk.2) (.int .i64 t326)) (fun _ hk => hk.2) (.int .i64 t327)) (fun _ h_ => h_.1))) (Kd.R_typed (by (with_reducible repeat (first | apply Kd.R_alloc | apply Kd.R_drewN | apply Kd.R_drew)); exact (Kd.R_mono (Kd.R_far (p := ⟨gb329, 1, none⟩) (Kd.R_far (p := ⟨gb329, 0, none⟩) (Kd.R_types HO_16.out BK329.out (by decide)) (fun _ hk => hk.2) (.int .i64 t326)) (fun _ hk => hk.2) (.int .i64 t327)) (fun _ h_ => h_.1)))) (by decide) hg); have n1_ := Aside0.mk (blk_grown (g := gb329) (o := .cells #[.int .i64 t326, .int .i64 t327] 29 (0, 0)) (by (with_reducible repeat (first | refine blk_drewN ?_ _ | refine blk_drew ?_ | refine blk_alloc ?_ _)); refine blk_put (cs := #[.int .i64 t326, .int .i64 0]) ?_ 1 _ rfl; (with_reducible repeat (first | refine blk_drewN ?_ _ | refine blk_drew ?_ | refine blk_alloc ?_ _)); refine blk_put (cs := #[.int .i64 0, .int .i64 0]) ?_ 0 _ rfl; (with_reducible repeat (first | refine blk_drewN ?_ _ | refine blk_drew ?_ | refine blk_alloc ?_ _)); exact BK329.out) hg (Kd.R_ne HO_16.out BK329.out (by decide))); have n2_ := Aside0.mk (hb); have n3_ := Aside0.mk (ho); clear HO_20; clear BK329; clear HB; clear HO_16; have HO_20 := n0_; have BK329 := n1_; have HB := n2_; have HO332 := n3_; clear n0_ n1_ n2_ n3_; clear ho hb hg hat))
                       go_roundg k6
                       case measure => have := HJ6.out; have := HJ25.out; have := HK3.out; have := HJ30.out; have := HJ37.out; have := HK6.out; omega
                       case rel => exact ⟨(y330), (wrap64 (t315 + a3)), (x18_37), (by first | rfl | (simp; done) | (simp [*]; done)), (by first | rfl | (simp; done) | (simp [*]; done)), H', ⟨by have := HJ6.out; have := HJ25.out; have := HK3.out; have := HJ30.out; have := HJ37.out; have := HK6.out; omega⟩, ⟨(rowN HO332.out)⟩, ⟨(belS HB.out)⟩⟩
                      ·rw [if_neg c52] at H
                       exact absurd H (by simp)
                     ·rw [if_neg c51] at H
                      have c51b0 : (t328 == 0) = false := beq_eq_false_iff_ne.mpr c51
                      have c51b1 : (t328 != 0) = true := bne_iff_ne.mpr c51
                      simp only [Option.some.injEq, Prod.mk.injEq] at H
                      obtain ⟨rfl, rfl⟩ := H
                      obtain ⟨Ao58, co58, eo58⟩ := Kd.R_slice HO_20.out
                      subst eo58
                      go_wp2_with (first | ((with_reducible refine gate_callee (f := 16) rfl ?_); refine goesL_ (some 150) rfl rfl Try.func16 (by kernel_rfl) rfl #[.int .i64 a4, .slice Ao58 x20_37.length co58] rfl argN ?_; (with_reducible refine (marigraphref20_Do.calls k6 a4 _ _ x20_37 t326 t327 t328 _ ?side1 ?side2 A50.out).mono ?_); (case side1 => repeat (first | exact (Kd.R_reads' HO_20.out).2.2 | (with_reducible refine Kd.C_alloc ?_ _) | (with_reducible refine Kd.C_drewN ?_ _) | (with_reducible refine Kd.C_drew ?_))); (case side2 => exact (Kd.R_reads' HO_20.out).2.1); rintro e w59 ⟨rfl, hb⟩; refine ⟨_, rfl, ?_⟩; have n0_ := Aside0.mk (Kd.R_below (rowN HO_16.out) hb); have n1_ := Aside0.mk (Kd.R_below (rowN HO_20.out) hb); have n2_ := Aside0.mk (below_step (belN HB.out) hb); clear HO_16; clear HO_20; clear HB; have HO_16 := n0_; have HO_20 := n1_; have HB := n2_; clear n0_ n1_ n2_; (try clear hb); (try clear hk)) | ((with_reducible refine gate_dst (N := 21) rfl ?_); refine box_event ?hg (N := 21) ?hd (cs := #[.int .i64 0, .int .i64 0]) (t := 29) ?hr ?_; (case hd => rfl); (case hg => rfl); (case hr => first | (go_simp; done) | (go_simp; rfl)); intro gb329 hg w60 hbox hb; have n0_ := Aside0.mk (Kd.R_below (rowN HO_16.out) hb); have n1_ := Aside0.mk (Kd.R_below (Kd.R_elderB (rowN HO_20.out) gb329 (Nat.le_of_eq hg.symm)) hb); have n2_ := Aside0.mk (below_step (belN HB.out) hb); have n3_ := Aside0.mk (hbox); have n4_ := Aside0.mk (szB hg HB.out); have n5_ := Aside0.mk (szB hg HB.out); clear HO_16; clear HO_20; clear HB; have HO_16 := n0_; have HO_20 := n1_; have HB := n2_; have BK329 := n3_; have GW329 := n4_; have GE329 := n5_; clear n0_ n1_ n2_ n3_ n4_ n5_; clear hb hbox hg; have hcz61_0 : w60.cell? ⟨gb329, 0, none⟩ = some (.int .i64 0) := (blk_cell BK329.out 0).trans rfl; have hcz61_1 : w60.cell? ⟨gb329, 1, none⟩ = some (.int .i64 0) := (blk_cell BK329.out 1).trans rfl; have hfz61_0 := blk_frozen BK329.out 0; have hfz61_1 := blk_frozen BK329.out 1))
                      go_ret2
                      exact ⟨_, by first | rfl | (simp [errW_none, errW_some] <;> rfl) | (simp [*, errW_none, errW_some] <;> rfl), by first | exact Kd.R_nil _ _ _ _ _ | exact Kd.N_nil _ _ _ _ _ | exact Kd.V_nil _ _ _ _ _ | exact Kd.Q_nil _ _ _ _ _ | exact Kd.S_nil _ _ _ _ _, (belS HB.out)⟩
                   ·replace c46 := Bool.eq_false_iff.mpr c46
                    subst c46
                    have H1 : ((marigraphref20_Do.f k6 a4 x20_37).bind fun bt333 => (if bt333.2.2 = 0 then (if x16_6.length < 5864062014805 then (marigraphref21_Down.l0 k6 l0 a1 a2 a3 a4 false t311 (x16_6 ++ [(⟨t315, (⟨bt333.1, bt333.2.1⟩ : S29)⟩ : S31)]) (wrap64 (t315 + a3)) x18_37) else (none)) else (some (([] : List (S31)), bt333.2.2)))) = some (r1, r2) := by rw [if_neg (show ¬ (false = true) by decide)] at H; exact H
                    clear H
                    have H := H1
                    clear H1
                    replace H := Option.bind_eq_some_iff.mp H
                    obtain ⟨⟨t333, t334, t335⟩, A620, H⟩ := H
                    replace H : (if t335 = 0 then (if x16_6.length < 5864062014805 then (marigraphref21_Down.l0 k6 l0 a1 a2 a3 a4 false t311 (x16_6 ++ [(⟨t315, (⟨t333, t334⟩ : S29)⟩ : S31)]) (wrap64 (t315 + a3)) x18_37) else (none)) else (some (([] : List (S31)), t335))) = some (r1, r2) := H
                    have A62 := Aside0.mk A620
                    clear A620
                    by_cases c63 : t335 = 0
                    ·rw [if_pos c63] at H
                     have c63b0 : (t335 == 0) = true := beq_iff_eq.mpr c63
                     have c63b1 : (t335 != 0) = false := bne_eq_false_iff_eq.mpr c63
                     clear c63
                     by_cases c64 : x16_6.length < 5864062014805
                     ·rw [if_pos c64] at H
                      have LMc64 := Aside0.mk c64
                      clear c64
                      obtain ⟨y337, hy337⟩ : ∃ y_ : List (S31), y_ = (x16_6 ++ [(⟨t315, (⟨t333, t334⟩ : S29)⟩ : S31)]) := ⟨_, rfl⟩
                      replace H : (marigraphref21_Down.l0 k6 l0 a1 a2 a3 a4 false t311 y337 (wrap64 (t315 + a3)) x18_37) = some (r1, r2) := by first | (rw [hy337]; with_reducible exact H) | (have H2_ := (Option.bind_some _ _).symm.trans H; rw [hy337]; with_reducible exact H2_) | (have H2_ := (Option.bind_some _ _).symm.trans H; with_reducible exact H2_) | with_reducible exact H | (rw [hy337]; exact H) | exact H
                      have Ny337 := Aside0.mk hy337
                      clear hy337
                      have H' := Aside0.mk H
                      clear H
                      obtain ⟨Ao65, co65, eo65⟩ := Kd.R_slice HO_20.out
                      subst eo65
                      go_wp2_with (first | ((with_reducible refine gate_callee (f := 16) rfl ?_); refine goesL_ (some 150) rfl rfl Try.func16 (by kernel_rfl) rfl #[.int .i64 a4, .slice Ao65 x20_37.length co65] rfl argN ?_; (with_reducible refine (marigraphref20_Do.calls k6 a4 _ _ x20_37 t333 t334 t335 _ ?side1 ?side2 A62.out).mono ?_); (case side1 => repeat (first | exact (Kd.R_reads' HO_20.out).2.2 | (with_reducible refine Kd.C_alloc ?_ _) | (with_reducible refine Kd.C_drewN ?_ _) | (with_reducible refine Kd.C_drew ?_))); (case side2 => exact (Kd.R_reads' HO_20.out).2.1); rintro e w66 ⟨rfl, hb⟩; refine ⟨_, rfl, ?_⟩; have n0_ := Aside0.mk (Kd.R_below (rowN HO_16.out) hb); have n1_ := Aside0.mk (Kd.R_below (rowN HO_20.out) hb); have n2_ := Aside0.mk (below_step (belN HB.out) hb); clear HO_16; clear HO_20; clear HB; have HO_16 := n0_; have HO_20 := n1_; have HB := n2_; clear n0_ n1_ n2_; (try clear hb); (try clear hk)) | ((with_reducible refine gate_dst (N := 21) rfl ?_); refine box_event ?hg (N := 21) ?hd (cs := #[.int .i64 0, .int .i64 0]) (t := 29) ?hr ?_; (case hd => rfl); (case hg => rfl); (case hr => first | (go_simp; done) | (go_simp; rfl)); intro gb336 hg w67 hbox hb; have n0_ := Aside0.mk (Kd.R_below (rowN HO_16.out) hb); have n1_ := Aside0.mk (Kd.R_below (Kd.R_elderB (rowN HO_20.out) gb336 (Nat.le_of_eq hg.symm)) hb); have n2_ := Aside0.mk (below_step (belN HB.out) hb); have n3_ := Aside0.mk (hbox); have n4_ := Aside0.mk (szB hg HB.out); have n5_ := Aside0.mk (szB hg HB.out); clear HO_16; clear HO_20; clear HB; have HO_16 := n0_; have HO_20 := n1_; have HB := n2_; have BK336 := n3_; have GW336 := n4_; have GE336 := n5_; clear n0_ n1_ n2_ n3_ n4_ n5_; clear hb hbox hg; have hcz68_0 : w67.cell? ⟨gb336, 0, none⟩ = some (.int .i64 0) := (blk_cell BK336.out 0).trans rfl; have hcz68_1 : w67.cell? ⟨gb336, 1, none⟩ = some (.int .i64 0) := (blk_cell BK336.out 1).trans rfl; have hfz68_0 := blk_frozen BK336.out 0; have hfz68_1 := blk_frozen BK336.out 1) | ((with_reducible refine gate_builtin (b := .append) (xs := #[.tmp 156, .tmp 160]) rfl ?_); at_builtin; refine Kd.R_append k31 (w0 := w) w.heap.size rfl (.tmp 156) (.tmp 160) 22 31 (.agg #[(.int .i64 0), (.int .i64 0), (.int .i64 0)]) 24 rfl Try.underlying22 info31 rfl (by decide) (by omega) u16 x16_6 (⟨t315, (⟨t333, t334⟩ : S29)⟩ : S31) [.int .i64 t315, .int .i64 t333, .int .i64 t334] (fun _ => True) (fun _ => False) rfl (by first | (go_simp; done) | (go_simp; rfl)) ?aP (fun _ hk => hk.elim) ?aF ?aO ?aB ?aS ?aL ?_; (case aP => exact k31_mkM _ _ _ (⟨t315, (⟨t333, t334⟩ : S29)⟩ : S31)); (case aB => exact (belS HB.out)); (case aF => exact (fun _ _ => trivial)); (case aO => exact (by (with_reducible repeat (first | apply Kd.R_alloc | apply Kd.R_drewN | apply Kd.R_drew)); exact Kd.R_mono (Kd.R_far (p := ⟨gb336, 1, none⟩) (Kd.R_far (p := ⟨gb336, 0, none⟩) (Kd.R_types HO_16.out BK336.out (by decide)) (fun _ hk => hk.2) (.int .i64 t333)) (fun _ hk => hk.2) (.int .i64 t334)) (fun _ hk => trivial))); (case aS => exact (below_size (belS HB.out))); (case aL => have := LMc64.out; omega); intro v338 w69 ho hb hg hat; rw [← Ny337.out] at ho; have n0_ := Aside0.mk (Kd.R_over' (by (with_reducible repeat (first | apply Kd.R_alloc | apply Kd.R_drewN | apply Kd.R_drew)); exact (Kd.R_mono (Kd.R_far (p := ⟨gb336, 1, none⟩) (Kd.R_far (p := ⟨gb336, 0, none⟩) (Kd.R_mono HO_20.out (fun k_ hk => (⟨hk, hk.2⟩ : _ ∧ k_ ≠ gb336))) (fun _ hk => hk.2) (.int .i64 t333)) (fun _ hk => hk.2) (.int .i64 t334)) (fun _ h_ => h_.1))) (Kd.R_typed (by (with_reducible repeat (first | apply Kd.R_alloc | apply Kd.R_drewN | apply Kd.R_drew)); exact (Kd.R_mono (Kd.R_far (p := ⟨gb336, 1, none⟩) (Kd.R_far (p := ⟨gb336, 0, none⟩) (Kd.R_types HO_16.out BK336.out (by decide)) (fun _ hk => hk.2) (.int .i64 t333)) (fun _ hk => hk.2) (.int .i64 t334)) (fun _ h_ => h_.1)))) (by decide) hg); have n1_ := Aside0.mk (blk_grown (g := gb336) (o := .cells #[.int .i64 t333, .int .i64 t334] 29 (0, 0)) (by (with_reducible repeat (first | refine blk_drewN ?_ _ | refine blk_drew ?_ | refine blk_alloc ?_ _)); refine blk_put (cs := #[.int .i64 t333, .int .i64 0]) ?_ 1 _ rfl; (with_reducible repeat (first | refine blk_drewN ?_ _ | refine blk_drew ?_ | refine blk_alloc ?_ _)); refine blk_put (cs := #[.int .i64 0, .int .i64 0]) ?_ 0 _ rfl; (with_reducible repeat (first | refine blk_drewN ?_ _ | refine blk_drew ?_ | refine blk_alloc ?_ _)); exact BK336.out) hg (Kd.R_ne HO_16.out BK336.out (by decide))); have n2_ := Aside0.mk (hb); have n3_ := Aside0.mk (ho); clear HO_20; clear BK336; clear HB; clear HO_16; have HO_20 := n0_; have BK336 := n1_; have HB := n2_; have HO339 := n3_; clear n0_ n1_ n2_ n3_; clear ho hb hg hat))
                      go_roundg k6
                      case measure => have := HJ6.out; have := HJ25.out; have := HK3.out; have := HJ30.out; have := HJ37.out; have := HK6.out; omega
                      case rel => exact ⟨(y337), (wrap64 (t315 + a3)), (x18_37), (by first | rfl | (simp; done) | (simp [*]; done)), (by first | rfl | (simp; done) | (simp [*]; done)), H', ⟨by have := HJ6.out; have := HJ25.out; have := HK3.out; have := HJ30.out; have := HJ37.out; have := HK6.out; omega⟩, ⟨(rowN HO339.out)⟩, ⟨(belS HB.out)⟩⟩
                     ·rw [if_neg c64] at H
                      exact absurd H (by simp)
                    ·rw [if_neg c63] at H
                     have c63b0 : (t335 == 0) = false := beq_eq_false_iff_ne.mpr c63
                     have c63b1 : (t335 != 0) = true := bne_iff_ne.mpr c63
                     simp only [Option.some.injEq, Prod.mk.injEq] at H
                     obtain ⟨rfl, rfl⟩ := H
                     obtain ⟨Ao70, co70, eo70⟩ := Kd.R_slice HO_20.out
                     subst eo70
                     go_wp2_with (first | ((with_reducible refine gate_callee (f := 16) rfl ?_); refine goesL_ (some 150) rfl rfl Try.func16 (by kernel_rfl) rfl #[.int .i64 a4, .slice Ao70 x20_37.length co70] rfl argN ?_; (with_reducible refine (marigraphref20_Do.calls k6 a4 _ _ x20_37 t333 t334 t335 _ ?side1 ?side2 A62.out).mono ?_); (case side1 => repeat (first | exact (Kd.R_reads' HO_20.out).2.2 | (with_reducible refine Kd.C_alloc ?_ _) | (with_reducible refine Kd.C_drewN ?_ _) | (with_reducible refine Kd.C_drew ?_))); (case side2 => exact (Kd.R_reads' HO_20.out).2.1); rintro e w71 ⟨rfl, hb⟩; refine ⟨_, rfl, ?_⟩; have n0_ := Aside0.mk (Kd.R_below (rowN HO_16.out) hb); have n1_ := Aside0.mk (Kd.R_below (rowN HO_20.out) hb); have n2_ := Aside0.mk (below_step (belN HB.out) hb); clear HO_16; clear HO_20; clear HB; have HO_16 := n0_; have HO_20 := n1_; have HB := n2_; clear n0_ n1_ n2_; (try clear hb); (try clear hk)) | ((with_reducible refine gate_dst (N := 21) rfl ?_); refine box_event ?hg (N := 21) ?hd (cs := #[.int .i64 0, .int .i64 0]) (t := 29) ?hr ?_; (case hd => rfl); (case hg => rfl); (case hr => first | (go_simp; done) | (go_simp; rfl)); intro gb336 hg w72 hbox hb; have n0_ := Aside0.mk (Kd.R_below (rowN HO_16.out) hb); have n1_ := Aside0.mk (Kd.R_below (Kd.R_elderB (rowN HO_20.out) gb336 (Nat.le_of_eq hg.symm)) hb); have n2_ := Aside0.mk (below_step (belN HB.out) hb); have n3_ := Aside0.mk (hbox); have n4_ := Aside0.mk (szB hg HB.out); have n5_ := Aside0.mk (szB hg HB.out); clear HO_16; clear HO_20; clear HB; have HO_16 := n0_; have HO_20 := n1_; have HB := n2_; have BK336 := n3_; have GW336 := n4_; have GE336 := n5_; clear n0_ n1_ n2_ n3_ n4_ n5_; clear hb hbox hg; have hcz73_0 : w72.cell? ⟨gb336, 0, none⟩ = some (.int .i64 0) := (blk_cell BK336.out 0).trans rfl; have hcz73_1 : w72.cell? ⟨gb336, 1, none⟩ = some (.int .i64 0) := (blk_cell BK336.out 1).trans rfl; have hfz73_0 := blk_frozen BK336.out 0; have hfz73_1 := blk_frozen BK336.out 1))
                     go_ret2
                     exact ⟨_, by first | rfl | (simp [errW_none, errW_some] <;> rfl) | (simp [*, errW_none, errW_some] <;> rfl), by first | exact Kd.R_nil _ _ _ _ _ | exact Kd.N_nil _ _ _ _ _ | exact Kd.V_nil _ _ _ _ _ | exact Kd.Q_nil _ _ _ _ _ | exact Kd.S_nil _ _ _ _ _, (belS HB.out)⟩
              ·rw [if_neg c36] at H
               exact absurd H (by simp)
             ·rw [if_neg c35] at H
              exact absurd H (by simp)
         ·rw [if_neg c30] at H
          have c30b0 : decide (x18_3 < (l0.length : Int)) = false := decide_eq_false c30
          clear c30
          have H' := Aside0.mk H
          clear H
          go_wp2
          go_loopg [16, 17] k3 (fun kq v16 v17 w' => ∃ (x16_4 : List (S31)) (x17_4 : Int), v17 = .int .i64 x17_4 ∧ Aside0 (marigraphref21_Down.l3 kq a3 a5 t311 x16_4 x17_4 = some (r1, r2)) ∧ Aside0 (kq ≤ k3) ∧ Aside0 (Kd.R k31 31 w' w.heap.size (fun _ => True) v16 x16_4) ∧ Aside0 (Below w.heap.size w w'))
          case atStart => exact ⟨(x16_3), (x17_3), (by first | rfl | (simp; done) | (simp [*]; done)), H', ⟨Nat.le_refl _⟩, ⟨(rowN HO_16.out)⟩, ⟨(belN HB.out)⟩⟩
          case round =>
           clear H'
           try clear c1
           try clear c2
           try clear p2
           try clear c3
           try clear p3
           try clear q3
           try clear hx3
           try clear c4
           try clear c5
           try clear c6
           try clear p6
           try clear c9
           try clear c10
           try clear c10b0
           try clear c12
           try clear c12b0
           try clear c14
           try clear c14b0
           try clear c16
           try clear c16b0
           try clear c18
           try clear c18b0
           try clear c20
           try clear c23
           try clear c27
           try clear c28
           try clear c28b0
           try clear c28b1
           try clear c29
           try clear c30
           try clear c30b0
           try clear p31
           try clear q31
           try clear hx31
           try clear c32
           try clear c32b0
           try clear c33
           try clear c33b0
           try clear c34
           try clear c35
           try clear c35b0
           try clear c36
           try clear c36b0
           try clear c39
           try clear c39b0
           try clear c40
           try clear c40b0
           try clear c41
           try clear c41b0
           try clear c43
           try clear c43b0
           try clear c43b1
           try clear c44
           try clear c46
           try clear c47
           try clear c47b0
           try clear c48
           try clear c51
           try clear c51b0
           try clear c51b1
           try clear c52
           try clear c63
           try clear c63b0
           try clear c63b1
           try clear c64
           try clear p64
           try clear hcz56_0
           try clear hcz56_1
           try clear hcz61_0
           try clear hcz61_1
           try clear hcz68_0
           try clear hcz68_1
           try clear hcz73_0
           try clear hcz73_1
           try clear hfz56_0
           try clear hfz56_1
           try clear hfz61_0
           try clear hfz61_1
           try clear hfz68_0
           try clear hfz68_1
           try clear hfz73_0
           try clear hfz73_1
           try clear hx312_0
           try clear hx312_1
           try clear hx312_2
           try clear hx313_0
           try clear hx313_1
           try clear hx313_2
           try clear hx314_0
           try clear hx314_1
           try clear hx314_2
           try clear hx316_0
           try clear hx316_1
           try clear hx316_2
           try clear hx317_0
           try clear hx317_1
           try clear hx317_2
           try clear hx319_0
           try clear hx319_1
           try clear hx319_2
           try clear p2
           try clear p3
           try clear p31
           try clear p312
           try clear p313
           try clear p314
           try clear p316
           try clear p317
           try clear p319
           try clear p6
           try clear q3
           try clear q31
           try clear q312
           try clear q313
           try clear q314
           try clear q316
           try clear q317
           try clear q319
           obtain ⟨x16_4, x17_4, rfl, HA, HK4, HO_16, HB⟩ := hrel
           cases gk with
           | zero => exact absurd HA.out (by simp [marigraphref21_Down.l3])
           | succ k4 =>
            have H := HA.out
            clear HA
            simp only [marigraphref21_Down.l3] at H
            by_cases c74 : a5 = true
            ·subst c74
             have H1 : (if x17_4 ≤ t311 then (if x16_4.length < 5864062014805 then (marigraphref21_Down.l3 k4 a3 true t311 (x16_4 ++ [(⟨x17_4, (⟨0, 1⟩ : S29)⟩ : S31)]) (wrap64 (x17_4 + a3))) else (none)) else (some (x16_4, 0))) = some (r1, r2) := by rw [if_pos rfl] at H; exact H
             clear H
             have H := H1
             clear H1
             by_cases c75 : x17_4 ≤ t311
             ·rw [if_pos c75] at H
              have c75b0 : decide (x17_4 ≤ t311) = true := decide_eq_true c75
              clear c75
              by_cases c76 : x16_4.length < 5864062014805
              ·rw [if_pos c76] at H
               have LMc76 := Aside0.mk c76
               clear c76
               obtain ⟨y340, hy340⟩ : ∃ y_ : List (S31), y_ = (x16_4 ++ [(⟨x17_4, (⟨0, 1⟩ : S29)⟩ : S31)]) := ⟨_, rfl⟩
               replace H : (marigraphref21_Down.l3 k4 a3 true t311 y340 (wrap64 (x17_4 + a3))) = some (r1, r2) := by first | (rw [hy340]; with_reducible exact H) | (have H2_ := (Option.bind_some _ _).symm.trans H; rw [hy340]; with_reducible exact H2_) | (have H2_ := (Option.bind_some _ _).symm.trans H; with_reducible exact H2_) | with_reducible exact H | (rw [hy340]; exact H) | exact H
               have Ny340 := Aside0.mk hy340
               clear hy340
               have H' := Aside0.mk H
               clear H
               go_wp2_with (first | ((with_reducible refine gate_builtin (b := .append) (xs := #[.tmp 174, .tmp 178]) rfl ?_); at_builtin; refine Kd.R_append k31 (w0 := w) w.heap.size rfl (.tmp 174) (.tmp 178) 22 31 (.agg #[(.int .i64 0), (.int .i64 0), (.int .i64 0)]) 24 rfl Try.underlying22 info31 rfl (by decide) (by omega) u16 x16_4 (⟨x17_4, (⟨0, 1⟩ : S29)⟩ : S31) [.int .i64 x17_4, .int .i64 0, .int .i64 1] (fun _ => True) (fun _ => False) rfl rfl ?aP (fun _ hk => hk.elim) ?aF ?aO ?aB ?aS ?aL ?_; (case aP => exact k31_mkM _ _ _ (⟨x17_4, (⟨0, 1⟩ : S29)⟩ : S31)); (case aB => exact (belN HB.out)); (case aF => exact (fun _ _ => trivial)); (case aO => exact (rowN HO_16.out)); (case aS => exact (below_size (belN HB.out))); (case aL => have := LMc76.out; omega); intro v341 w77 ho hb hg hat; rw [← Ny340.out] at ho; have n0_ := Aside0.mk (hb); have n1_ := Aside0.mk (ho); clear HB; clear HO_16; have HB := n0_; have HO342 := n1_; clear n0_ n1_; clear ho hb hg hat))
               go_roundg k4
               case measure => have := HJ6.out; have := HJ25.out; have := HK3.out; have := HK4.out; omega
               case rel => exact ⟨(y340), (wrap64 (x17_4 + a3)), (by first | rfl | (simp; done) | (simp [*]; done)), H', ⟨by have := HJ6.out; have := HJ25.out; have := HK3.out; have := HK4.out; omega⟩, ⟨(rowN HO342.out)⟩, ⟨(belN HB.out)⟩⟩
              ·rw [if_neg c76] at H
               exact absurd H (by simp)
             ·rw [if_neg c75] at H
              have c75b0 : decide (x17_4 ≤ t311) = false := decide_eq_false c75
              clear c75
              simp only [Option.some.injEq, Prod.mk.injEq] at H
              obtain ⟨rfl, rfl⟩ := H
              go_wp2
              go_ret2
              exact ⟨_, by first | rfl | (simp [errW_none, errW_some] <;> rfl) | (simp [*, errW_none, errW_some] <;> rfl), (rowN HO_16.out), (belN HB.out)⟩
            ·replace c74 := Bool.eq_false_iff.mpr c74
             subst c74
             have H1 : (some (x16_4, 0)) = some (r1, r2) := by rw [if_neg (show ¬ (false = true) by decide)] at H; exact H
             clear H
             have H := H1
             clear H1
             simp only [Option.some.injEq, Prod.mk.injEq] at H
             obtain ⟨rfl, rfl⟩ := H
             go_wp2
             go_ret2
             exact ⟨_, by first | rfl | (simp [errW_none, errW_some] <;> rfl) | (simp [*, errW_none, errW_some] <;> rfl), (rowN HO_16.out), (belN HB.out)⟩

end Go.Proofs.Ytlmhgjnlbokceaa.PDownTells

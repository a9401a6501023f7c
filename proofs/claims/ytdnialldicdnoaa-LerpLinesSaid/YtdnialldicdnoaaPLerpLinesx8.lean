/- The walk of the Go functions that a law reaches, told as plain functions; a program of this session has written it. No condition beyond the statement's own. -/
import Derived.Test.YtdnialldicdnoaaPLerpLinesx0
import Derived.Test.YtdnialldicdnoaaPLerpLinesx1
import Derived.Test.YtdnialldicdnoaaPLerpLinesx2
import Derived.Test.YtdnialldicdnoaaPLerpLinesx4
import Derived.Test.YtdnialldicdnoaaPLerpLinesx6
import Derived.Test.YtdnialldicdnoaaPLerpLinesx7
namespace Go.Proofs.Ytdnialldicdnoaa.PLerpLines
open Go.RowKit Go.Proofs.YtdnialldicdnoaaW.PrintWords Go.Proofs.YtdnialldicdnoaaW.PrintLast Go.Proofs.YtdnialldicdnoaaW.PrintMore
attribute [local go_sem] max2_int min2_int max_two min_two max_three min_three max_four min_four   -- for this text's walks alone
set_option linter.unusedVariables false
set_option linter.unusedSimpArgs false

attribute [local go_sem high] eqA28
/-! ### marigraphlaw22_LerpLines: function 5 -/
def marigraphlaw22_LerpLines.j0 : Nat → Int → Bool → Int → Int → Int → Int → Int → Int → Int → Int → Option (Bool)
 | 0, _, _, _, _, _, _, _, _, _, _ => none
 | k + 1, x11, x100, x229000, x229001, x229002, x230000, x230001, x230002, x234000, x234001 => if x100 = true then (some false) else (if x11 < 0 then ((marigraphref1_Cmp.f k x230001 x230002 x234000 x234001).bind fun t244 => (if t244 ≤ 0 then ((marigraphref1_Cmp.f k x234000 x234001 x229001 x229002).bind fun t245 => (if t245 ≤ 0 then ((marigraphlaw22_known.f k).bind fun t246 => (some t246)) else (some false))) else (some false))) else ((marigraphref1_Cmp.f k x229001 x229002 x234000 x234001).bind fun t247 => (if t247 ≤ 0 then ((marigraphref1_Cmp.f k x234000 x234001 x230001 x230002).bind fun t248 => (if t248 ≤ 0 then ((marigraphlaw22_known.f k).bind fun t249 => (some t249)) else (some false))) else (some false))))
def marigraphlaw22_LerpLines.f (k : Nat) (a0 : Int) (a1 : Int) (a2 : Int) (a3 : Int) (a4 : Int) : Option (Bool) := (marigraphbook_Within.f k a0 (-50) 50).bind fun t223 => ((marigraphbook_Within.f k a1 (-1000) 1000).bind fun t224 => ((marigraphbook_Within.f k a2 0 1000).bind fun t225 => ((marigraphbook_Within.f k a3 1 1000).bind fun t226 => ((marigraphbook_Within.f k a4 0 1000).bind fun t227 => (if (wrap64 ((wrap64 ((wrap64 (t225 + t226)) - t225)) + 1)) = 0 then (none) else ((lerp_Between.f k t225 (wrap64 (t224 + (wrap64 (t223 * t225)))) 1 (wrap64 (t225 + t226)) (wrap64 (t224 + (wrap64 (t223 * (wrap64 (t225 + t226)))))) 1 (wrap64 (t225 + (Int.tmod t227 (wrap64 ((wrap64 ((wrap64 (t225 + t226)) - t225)) + 1)))))).bind fun bt230 => ((lerp_At.f k (([(⟨t225, (⟨wrap64 (t224 + (wrap64 (t223 * t225))), 1⟩ : S28)⟩ : S30), (⟨wrap64 (t225 + t226), (⟨wrap64 (t224 + (wrap64 (t223 * (wrap64 (t225 + t226))))), 1⟩ : S28)⟩ : S30)] : List (S30))) (wrap64 (t225 + (Int.tmod t227 (wrap64 ((wrap64 ((wrap64 (t225 + t226)) - t225)) + 1)))))).bind fun bt237 => (if bt230.2.2 = 0 then (if bt237.2.2.2 = 0 then (if bt237.2.2.1 = true then (if (!(bt230.1 == bt237.1) || (!(bt230.2.1 == bt237.2.1))) = true then (marigraphlaw22_LerpLines.j0 k t223 true t225 (wrap64 (t224 + (wrap64 (t223 * t225)))) 1 (wrap64 (t225 + t226)) (wrap64 (t224 + (wrap64 (t223 * (wrap64 (t225 + t226)))))) 1 bt230.1 bt230.2.1) else (marigraphlaw22_LerpLines.j0 k t223 (!(bt230.1 == (wrap64 (t224 + (wrap64 (t223 * (wrap64 (t225 + (Int.tmod t227 (wrap64 ((wrap64 ((wrap64 (t225 + t226)) - t225)) + 1)))))))))) || (!(bt230.2.1 == 1))) t225 (wrap64 (t224 + (wrap64 (t223 * t225)))) 1 (wrap64 (t225 + t226)) (wrap64 (t224 + (wrap64 (t223 * (wrap64 (t225 + t226)))))) 1 bt230.1 bt230.2.1)) else (marigraphlaw22_LerpLines.j0 k t223 true t225 (wrap64 (t224 + (wrap64 (t223 * t225)))) 1 (wrap64 (t225 + t226)) (wrap64 (t224 + (wrap64 (t223 * (wrap64 (t225 + t226)))))) 1 bt230.1 bt230.2.1)) else (marigraphlaw22_LerpLines.j0 k t223 true t225 (wrap64 (t224 + (wrap64 (t223 * t225)))) 1 (wrap64 (t225 + t226)) (wrap64 (t224 + (wrap64 (t223 * (wrap64 (t225 + t226)))))) 1 bt230.1 bt230.2.1)) else (marigraphlaw22_LerpLines.j0 k t223 true t225 (wrap64 (t224 + (wrap64 (t223 * t225)))) 1 (wrap64 (t225 + t226)) (wrap64 (t224 + (wrap64 (t223 * (wrap64 (t225 + t226)))))) 1 bt230.1 bt230.2.1)))))))))
theorem marigraphlaw22_LerpLines.mono_l : ∀ k, (∀ y0 y1 y2 y3 y4 y5 y6 y7 y8 y9, LeO (marigraphlaw22_LerpLines.j0 k y0 y1 y2 y3 y4 y5 y6 y7 y8 y9) (marigraphlaw22_LerpLines.j0 (k + 1) y0 y1 y2 y3 y4 y5 y6 y7 y8 y9))
 | 0 => fun _ _ _ _ _ _ _ _ _ _ r h => by simp [marigraphlaw22_LerpLines.j0] at h
 | k + 1 => by
  have ih0 := marigraphlaw22_LerpLines.mono_l k
  ·intro y0 y1 y2 y3 y4 y5 y6 y7 y8 y9
   unfold marigraphlaw22_LerpLines.j0
   repeat' first
   | (with_reducible exact ih0 _ _ _ _ _ _ _ _ _ _)
   | (with_reducible exact lerp_At.mono _ _ _)
   | (with_reducible exact lerp_Between.mono _ _ _ _ _ _ _ _)
   | (with_reducible exact marigraphbook_Within.mono _ _ _ _)
   | (with_reducible exact marigraphlaw22_known.mono _)
   | (with_reducible exact marigraphref1_Cmp.mono _ _ _ _ _)
   | (with_reducible exact LeO.refl _)
   | (with_reducible exact LeO.none _)
   | (with_reducible refine LeO.ite ?_ ?_)
   | (with_reducible refine LeO.bind ?_ (fun _ => ?_))
   | exact ih0 _ _ _ _ _ _ _ _ _ _
   | exact lerp_At.mono _ _ _
   | exact lerp_Between.mono _ _ _ _ _ _ _ _
   | exact marigraphbook_Within.mono _ _ _ _
   | exact marigraphlaw22_known.mono _
   | exact marigraphref1_Cmp.mono _ _ _ _ _
   | exact LeO.none _
   | refine LeO.ite ?_ ?_
   | refine LeO.bind ?_ (fun _ => ?_)
theorem marigraphlaw22_LerpLines.mono : ∀ a0 a1 a2 a3 a4 k, LeO (marigraphlaw22_LerpLines.f k a0 a1 a2 a3 a4) (marigraphlaw22_LerpLines.f (k + 1) a0 a1 a2 a3 a4) := by
 intro a0 a1 a2 a3 a4 k
 have ih0 := marigraphlaw22_LerpLines.mono_l k
 unfold marigraphlaw22_LerpLines.f
 repeat' first
   | (with_reducible exact ih0 _ _ _ _ _ _ _ _ _ _)
   | (with_reducible exact lerp_At.mono _ _ _)
   | (with_reducible exact lerp_Between.mono _ _ _ _ _ _ _ _)
   | (with_reducible exact marigraphbook_Within.mono _ _ _ _)
   | (with_reducible exact marigraphlaw22_known.mono _)
   | (with_reducible exact marigraphref1_Cmp.mono _ _ _ _ _)
   | (with_reducible exact LeO.refl _)
   | (with_reducible exact LeO.none _)
   | (with_reducible refine LeO.ite ?_ ?_)
   | (with_reducible refine LeO.bind ?_ (fun _ => ?_))
   | exact ih0 _ _ _ _ _ _ _ _ _ _
   | exact lerp_At.mono _ _ _
   | exact lerp_Between.mono _ _ _ _ _ _ _ _
   | exact marigraphbook_Within.mono _ _ _ _
   | exact marigraphlaw22_known.mono _
   | exact marigraphref1_Cmp.mono _ _ _ _ _
   | exact LeO.none _
   | refine LeO.ite ?_ ?_
   | refine LeO.bind ?_ (fun _ => ?_)
def marigraphlaw22_LerpLines.T10 : Bool × List (List Nat × List Nat) := (true, [([], []), ([0], [0]), ([], []), ([2], [2]), ([], []), ([], []), ([4, 1, 0, 1, 4, 5], [1, 4]), ([5, 3, 6, 0, 1, 2, 3, 4, 5, 6], [3, 5])])
def marigraphlaw22_LerpLines.B10 : List Nat := [0, 1, 0, 4, 0, 0, 51, 127]
theorem marigraphlaw22_LerpLines.tab10 : rtab .any (opsOf Try.f5 10) = marigraphlaw22_LerpLines.T10 := by kernel_rfl
theorem marigraphlaw22_LerpLines.bits10 : waitsOk marigraphlaw22_LerpLines.T10.2 marigraphlaw22_LerpLines.B10 = true := by kernel_rfl
set_option maxHeartbeats 8000000 in
set_option maxRecDepth 100000 in
theorem marigraphlaw22_LerpLines.calls (k : Nat) (a0 : Int) (a1 : Int) (a2 : Int) (a3 : Int) (a4 : Int) (r : Bool) (w : World) (h : marigraphlaw22_LerpLines.f k a0 a1 a2 a3 a4 = some r) :
  Calls Try.prog 5 #[.int .i64 a0, .int .i64 a1, .int .i64 a2, .int .i64 a3, .int .i64 a4] w fun e w' => e = .returned (.bool r) ∧ Below w.heap.size w w' := by
 have hu28 := Try.underlying28
 have hu30 := Try.underlying30
 have HB := Aside0.mk (Below.refl w.heap.size w)
 have H : ((marigraphbook_Within.f k a0 (-50) 50).bind fun t223 => ((marigraphbook_Within.f k a1 (-1000) 1000).bind fun t224 => ((marigraphbook_Within.f k a2 0 1000).bind fun t225 => ((marigraphbook_Within.f k a3 1 1000).bind fun t226 => ((marigraphbook_Within.f k a4 0 1000).bind fun t227 => (if (wrap64 ((wrap64 ((wrap64 (t225 + t226)) - t225)) + 1)) = 0 then (none) else ((lerp_Between.f k t225 (wrap64 (t224 + (wrap64 (t223 * t225)))) 1 (wrap64 (t225 + t226)) (wrap64 (t224 + (wrap64 (t223 * (wrap64 (t225 + t226)))))) 1 (wrap64 (t225 + (Int.tmod t227 (wrap64 ((wrap64 ((wrap64 (t225 + t226)) - t225)) + 1)))))).bind fun bt230 => ((lerp_At.f k (([(⟨t225, (⟨wrap64 (t224 + (wrap64 (t223 * t225))), 1⟩ : S28)⟩ : S30), (⟨wrap64 (t225 + t226), (⟨wrap64 (t224 + (wrap64 (t223 * (wrap64 (t225 + t226))))), 1⟩ : S28)⟩ : S30)] : List (S30))) (wrap64 (t225 + (Int.tmod t227 (wrap64 ((wrap64 ((wrap64 (t225 + t226)) - t225)) + 1)))))).bind fun bt237 => (if bt230.2.2 = 0 then (if bt237.2.2.2 = 0 then (if bt237.2.2.1 = true then (if (!(bt230.1 == bt237.1) || (!(bt230.2.1 == bt237.2.1))) = true then (marigraphlaw22_LerpLines.j0 k t223 true t225 (wrap64 (t224 + (wrap64 (t223 * t225)))) 1 (wrap64 (t225 + t226)) (wrap64 (t224 + (wrap64 (t223 * (wrap64 (t225 + t226)))))) 1 bt230.1 bt230.2.1) else (marigraphlaw22_LerpLines.j0 k t223 (!(bt230.1 == (wrap64 (t224 + (wrap64 (t223 * (wrap64 (t225 + (Int.tmod t227 (wrap64 ((wrap64 ((wrap64 (t225 + t226)) - t225)) + 1)))))))))) || (!(bt230.2.1 == 1))) t225 (wrap64 (t224 + (wrap64 (t223 * t225)))) 1 (wrap64 (t225 + t226)) (wrap64 (t224 + (wrap64 (t223 * (wrap64 (t225 + t226)))))) 1 bt230.1 bt230.2.1)) else (marigraphlaw22_LerpLines.j0 k t223 true t225 (wrap64 (t224 + (wrap64 (t223 * t225)))) 1 (wrap64 (t225 + t226)) (wrap64 (t224 + (wrap64 (t223 * (wrap64 (t225 + t226)))))) 1 bt230.1 bt230.2.1)) else (marigraphlaw22_LerpLines.j0 k t223 true t225 (wrap64 (t224 + (wrap64 (t223 * t225)))) 1 (wrap64 (t225 + t226)) (wrap64 (t224 + (wrap64 (t223 * (wrap64 (t225 + t226)))))) 1 bt230.1 bt230.2.1)) else (marigraphlaw22_LerpLines.j0 k t223 true t225 (wrap64 (t224 + (wrap64 (t223 * t225)))) 1 (wrap64 (t225 + t226)) (wrap64 (t224 + (wrap64 (t223 * (wrap64 (t225 + t226)))))) 1 bt230.1 bt230.2.1)))))))))) = some r := h
 clear h
 replace H := Option.bind_eq_some_iff.mp H
 obtain ⟨t223, A60, H⟩ := H
 replace H : ((marigraphbook_Within.f k a1 (-1000) 1000).bind fun t224 => ((marigraphbook_Within.f k a2 0 1000).bind fun t225 => ((marigraphbook_Within.f k a3 1 1000).bind fun t226 => ((marigraphbook_Within.f k a4 0 1000).bind fun t227 => (if (wrap64 ((wrap64 ((wrap64 (t225 + t226)) - t225)) + 1)) = 0 then (none) else ((lerp_Between.f k t225 (wrap64 (t224 + (wrap64 (t223 * t225)))) 1 (wrap64 (t225 + t226)) (wrap64 (t224 + (wrap64 (t223 * (wrap64 (t225 + t226)))))) 1 (wrap64 (t225 + (Int.tmod t227 (wrap64 ((wrap64 ((wrap64 (t225 + t226)) - t225)) + 1)))))).bind fun bt230 => ((lerp_At.f k (([(⟨t225, (⟨wrap64 (t224 + (wrap64 (t223 * t225))), 1⟩ : S28)⟩ : S30), (⟨wrap64 (t225 + t226), (⟨wrap64 (t224 + (wrap64 (t223 * (wrap64 (t225 + t226))))), 1⟩ : S28)⟩ : S30)] : List (S30))) (wrap64 (t225 + (Int.tmod t227 (wrap64 ((wrap64 ((wrap64 (t225 + t226)) - t225)) + 1)))))).bind fun bt237 => (if bt230.2.2 = 0 then (if bt237.2.2.2 = 0 then (if bt237.2.2.1 = true then (if (!(bt230.1 == bt237.1) || (!(bt230.2.1 == bt237.2.1))) = true then (marigraphlaw22_LerpLines.j0 k t223 true t225 (wrap64 (t224 + (wrap64 (t223 * t225)))) 1 (wrap64 (t225 + t226)) (wrap64 (t224 + (wrap64 (t223 * (wrap64 (t225 + t226)))))) 1 bt230.1 bt230.2.1) else (marigraphlaw22_LerpLines.j0 k t223 (!(bt230.1 == (wrap64 (t224 + (wrap64 (t223 * (wrap64 (t225 + (Int.tmod t227 (wrap64 ((wrap64 ((wrap64 (t225 + t226)) - t225)) + 1)))))))))) || (!(bt230.2.1 == 1))) t225 (wrap64 (t224 + (wrap64 (t223 * t225)))) 1 (wrap64 (t225 + t226)) (wrap64 (t224 + (wrap64 (t223 * (wrap64 (t225 + t226)))))) 1 bt230.1 bt230.2.1)) else (marigraphlaw22_LerpLines.j0 k t223 true t225 (wrap64 (t224 + (wrap64 (t223 * t225)))) 1 (wrap64 (t225 + t226)) (wrap64 (t224 + (wrap64 (t223 * (wrap64 (t225 + t226)))))) 1 bt230.1 bt230.2.1)) else (marigraphlaw22_LerpLines.j0 k t223 true t225 (wrap64 (t224 + (wrap64 (t223 * t225)))) 1 (wrap64 (t225 + t226)) (wrap64 (t224 + (wrap64 (t223 * (wrap64 (t225 + t226)))))) 1 bt230.1 bt230.2.1)) else (marigraphlaw22_LerpLines.j0 k t223 true t225 (wrap64 (t224 + (wrap64 (t223 * t225)))) 1 (wrap64 (t225 + t226)) (wrap64 (t224 + (wrap64 (t223 * (wrap64 (t225 + t226)))))) 1 bt230.1 bt230.2.1))))))))) = some r := H
 have A6 := Aside0.mk A60
 clear A60
 replace H := Option.bind_eq_some_iff.mp H
 obtain ⟨t224, A70, H⟩ := H
 replace H : ((marigraphbook_Within.f k a2 0 1000).bind fun t225 => ((marigraphbook_Within.f k a3 1 1000).bind fun t226 => ((marigraphbook_Within.f k a4 0 1000).bind fun t227 => (if (wrap64 ((wrap64 ((wrap64 (t225 + t226)) - t225)) + 1)) = 0 then (none) else ((lerp_Between.f k t225 (wrap64 (t224 + (wrap64 (t223 * t225)))) 1 (wrap64 (t225 + t226)) (wrap64 (t224 + (wrap64 (t223 * (wrap64 (t225 + t226)))))) 1 (wrap64 (t225 + (Int.tmod t227 (wrap64 ((wrap64 ((wrap64 (t225 + t226)) - t225)) + 1)))))).bind fun bt230 => ((lerp_At.f k (([(⟨t225, (⟨wrap64 (t224 + (wrap64 (t223 * t225))), 1⟩ : S28)⟩ : S30), (⟨wrap64 (t225 + t226), (⟨wrap64 (t224 + (wrap64 (t223 * (wrap64 (t225 + t226))))), 1⟩ : S28)⟩ : S30)] : List (S30))) (wrap64 (t225 + (Int.tmod t227 (wrap64 ((wrap64 ((wrap64 (t225 + t226)) - t225)) + 1)))))).bind fun bt237 => (if bt230.2.2 = 0 then (if bt237.2.2.2 = 0 then (if bt237.2.2.1 = true then (if (!(bt230.1 == bt237.1) || (!(bt230.2.1 == bt237.2.1))) = true then (marigraphlaw22_LerpLines.j0 k t223 true t225 (wrap64 (t224 + (wrap64 (t223 * t225)))) 1 (wrap64 (t225 + t226)) (wrap64 (t224 + (wrap64 (t223 * (wrap64 (t225 + t226)))))) 1 bt230.1 bt230.2.1) else (marigraphlaw22_LerpLines.j0 k t223 (!(bt230.1 == (wrap64 (t224 + (wrap64 (t223 * (wrap64 (t225 + (Int.tmod t227 (wrap64 ((wrap64 ((wrap64 (t225 + t226)) - t225)) + 1)))))))))) || (!(bt230.2.1 == 1))) t225 (wrap64 (t224 + (wrap64 (t223 * t225)))) 1 (wrap64 (t225 + t226)) (wrap64 (t224 + (wrap64 (t223 * (wrap64 (t225 + t226)))))) 1 bt230.1 bt230.2.1)) else (marigraphlaw22_LerpLines.j0 k t223 true t225 (wrap64 (t224 + (wrap64 (t223 * t225)))) 1 (wrap64 (t225 + t226)) (wrap64 (t224 + (wrap64 (t223 * (wrap64 (t225 + t226)))))) 1 bt230.1 bt230.2.1)) else (marigraphlaw22_LerpLines.j0 k t223 true t225 (wrap64 (t224 + (wrap64 (t223 * t225)))) 1 (wrap64 (t225 + t226)) (wrap64 (t224 + (wrap64 (t223 * (wrap64 (t225 + t226)))))) 1 bt230.1 bt230.2.1)) else (marigraphlaw22_LerpLines.j0 k t223 true t225 (wrap64 (t224 + (wrap64 (t223 * t225)))) 1 (wrap64 (t225 + t226)) (wrap64 (t224 + (wrap64 (t223 * (wrap64 (t225 + t226)))))) 1 bt230.1 bt230.2.1)))))))) = some r := H
 have A7 := Aside0.mk A70
 clear A70
 replace H := Option.bind_eq_some_iff.mp H
 obtain ⟨t225, A80, H⟩ := H
 replace H : ((marigraphbook_Within.f k a3 1 1000).bind fun t226 => ((marigraphbook_Within.f k a4 0 1000).bind fun t227 => (if (wrap64 ((wrap64 ((wrap64 (t225 + t226)) - t225)) + 1)) = 0 then (none) else ((lerp_Between.f k t225 (wrap64 (t224 + (wrap64 (t223 * t225)))) 1 (wrap64 (t225 + t226)) (wrap64 (t224 + (wrap64 (t223 * (wrap64 (t225 + t226)))))) 1 (wrap64 (t225 + (Int.tmod t227 (wrap64 ((wrap64 ((wrap64 (t225 + t226)) - t225)) + 1)))))).bind fun bt230 => ((lerp_At.f k (([(⟨t225, (⟨wrap64 (t224 + (wrap64 (t223 * t225))), 1⟩ : S28)⟩ : S30), (⟨wrap64 (t225 + t226), (⟨wrap64 (t224 + (wrap64 (t223 * (wrap64 (t225 + t226))))), 1⟩ : S28)⟩ : S30)] : List (S30))) (wrap64 (t225 + (Int.tmod t227 (wrap64 ((wrap64 ((wrap64 (t225 + t226)) - t225)) + 1)))))).bind fun bt237 => (if bt230.2.2 = 0 then (if bt237.2.2.2 = 0 then (if bt237.2.2.1 = true then (if (!(bt230.1 == bt237.1) || (!(bt230.2.1 == bt237.2.1))) = true then (marigraphlaw22_LerpLines.j0 k t223 true t225 (wrap64 (t224 + (wrap64 (t223 * t225)))) 1 (wrap64 (t225 + t226)) (wrap64 (t224 + (wrap64 (t223 * (wrap64 (t225 + t226)))))) 1 bt230.1 bt230.2.1) else (marigraphlaw22_LerpLines.j0 k t223 (!(bt230.1 == (wrap64 (t224 + (wrap64 (t223 * (wrap64 (t225 + (Int.tmod t227 (wrap64 ((wrap64 ((wrap64 (t225 + t226)) - t225)) + 1)))))))))) || (!(bt230.2.1 == 1))) t225 (wrap64 (t224 + (wrap64 (t223 * t225)))) 1 (wrap64 (t225 + t226)) (wrap64 (t224 + (wrap64 (t223 * (wrap64 (t225 + t226)))))) 1 bt230.1 bt230.2.1)) else (marigraphlaw22_LerpLines.j0 k t223 true t225 (wrap64 (t224 + (wrap64 (t223 * t225)))) 1 (wrap64 (t225 + t226)) (wrap64 (t224 + (wrap64 (t223 * (wrap64 (t225 + t226)))))) 1 bt230.1 bt230.2.1)) else (marigraphlaw22_LerpLines.j0 k t223 true t225 (wrap64 (t224 + (wrap64 (t223 * t225)))) 1 (wrap64 (t225 + t226)) (wrap64 (t224 + (wrap64 (t223 * (wrap64 (t225 + t226)))))) 1 bt230.1 bt230.2.1)) else (marigraphlaw22_LerpLines.j0 k t223 true t225 (wrap64 (t224 + (wrap64 (t223 * t225)))) 1 (wrap64 (t225 + t226)) (wrap64 (t224 + (wrap64 (t223 * (wrap64 (t225 + t226)))))) 1 bt230.1 bt230.2.1))))))) = some r := H
 have A8 := Aside0.mk A80
 clear A80
 replace H := Option.bind_eq_some_iff.mp H
 obtain ⟨t226, A90, H⟩ := H
 replace H : ((marigraphbook_Within.f k a4 0 1000).bind fun t227 => (if (wrap64 ((wrap64 ((wrap64 (t225 + t226)) - t225)) + 1)) = 0 then (none) else ((lerp_Between.f k t225 (wrap64 (t224 + (wrap64 (t223 * t225)))) 1 (wrap64 (t225 + t226)) (wrap64 (t224 + (wrap64 (t223 * (wrap64 (t225 + t226)))))) 1 (wrap64 (t225 + (Int.tmod t227 (wrap64 ((wrap64 ((wrap64 (t225 + t226)) - t225)) + 1)))))).bind fun bt230 => ((lerp_At.f k (([(⟨t225, (⟨wrap64 (t224 + (wrap64 (t223 * t225))), 1⟩ : S28)⟩ : S30), (⟨wrap64 (t225 + t226), (⟨wrap64 (t224 + (wrap64 (t223 * (wrap64 (t225 + t226))))), 1⟩ : S28)⟩ : S30)] : List (S30))) (wrap64 (t225 + (Int.tmod t227 (wrap64 ((wrap64 ((wrap64 (t225 + t226)) - t225)) + 1)))))).bind fun bt237 => (if bt230.2.2 = 0 then (if bt237.2.2.2 = 0 then (if bt237.2.2.1 = true then (if (!(bt230.1 == bt237.1) || (!(bt230.2.1 == bt237.2.1))) = true then (marigraphlaw22_LerpLines.j0 k t223 true t225 (wrap64 (t224 + (wrap64 (t223 * t225)))) 1 (wrap64 (t225 + t226)) (wrap64 (t224 + (wrap64 (t223 * (wrap64 (t225 + t226)))))) 1 bt230.1 bt230.2.1) else (marigraphlaw22_LerpLines.j0 k t223 (!(bt230.1 == (wrap64 (t224 + (wrap64 (t223 * (wrap64 (t225 + (Int.tmod t227 (wrap64 ((wrap64 ((wrap64 (t225 + t226)) - t225)) + 1)))))))))) || (!(bt230.2.1 == 1))) t225 (wrap64 (t224 + (wrap64 (t223 * t225)))) 1 (wrap64 (t225 + t226)) (wrap64 (t224 + (wrap64 (t223 * (wrap64 (t225 + t226)))))) 1 bt230.1 bt230.2.1)) else (marigraphlaw22_LerpLines.j0 k t223 true t225 (wrap64 (t224 + (wrap64 (t223 * t225)))) 1 (wrap64 (t225 + t226)) (wrap64 (t224 + (wrap64 (t223 * (wrap64 (t225 + t226)))))) 1 bt230.1 bt230.2.1)) else (marigraphlaw22_LerpLines.j0 k t223 true t225 (wrap64 (t224 + (wrap64 (t223 * t225)))) 1 (wrap64 (t225 + t226)) (wrap64 (t224 + (wrap64 (t223 * (wrap64 (t225 + t226)))))) 1 bt230.1 bt230.2.1)) else (marigraphlaw22_LerpLines.j0 k t223 true t225 (wrap64 (t224 + (wrap64 (t223 * t225)))) 1 (wrap64 (t225 + t226)) (wrap64 (t224 + (wrap64 (t223 * (wrap64 (t225 + t226)))))) 1 bt230.1 bt230.2.1)))))) = some r := H
 have A9 := Aside0.mk A90
 clear A90
 replace H := Option.bind_eq_some_iff.mp H
 obtain ⟨t227, A100, H⟩ := H
 replace H : (if (wrap64 ((wrap64 ((wrap64 (t225 + t226)) - t225)) + 1)) = 0 then (none) else ((lerp_Between.f k t225 (wrap64 (t224 + (wrap64 (t223 * t225)))) 1 (wrap64 (t225 + t226)) (wrap64 (t224 + (wrap64 (t223 * (wrap64 (t225 + t226)))))) 1 (wrap64 (t225 + (Int.tmod t227 (wrap64 ((wrap64 ((wrap64 (t225 + t226)) - t225)) + 1)))))).bind fun bt230 => ((lerp_At.f k (([(⟨t225, (⟨wrap64 (t224 + (wrap64 (t223 * t225))), 1⟩ : S28)⟩ : S30), (⟨wrap64 (t225 + t226), (⟨wrap64 (t224 + (wrap64 (t223 * (wrap64 (t225 + t226))))), 1⟩ : S28)⟩ : S30)] : List (S30))) (wrap64 (t225 + (Int.tmod t227 (wrap64 ((wrap64 ((wrap64 (t225 + t226)) - t225)) + 1)))))).bind fun bt237 => (if bt230.2.2 = 0 then (if bt237.2.2.2 = 0 then (if bt237.2.2.1 = true then (if (!(bt230.1 == bt237.1) || (!(bt230.2.1 == bt237.2.1))) = true then (marigraphlaw22_LerpLines.j0 k t223 true t225 (wrap64 (t224 + (wrap64 (t223 * t225)))) 1 (wrap64 (t225 + t226)) (wrap64 (t224 + (wrap64 (t223 * (wrap64 (t225 + t226)))))) 1 bt230.1 bt230.2.1) else (marigraphlaw22_LerpLines.j0 k t223 (!(bt230.1 == (wrap64 (t224 + (wrap64 (t223 * (wrap64 (t225 + (Int.tmod t227 (wrap64 ((wrap64 ((wrap64 (t225 + t226)) - t225)) + 1)))))))))) || (!(bt230.2.1 == 1))) t225 (wrap64 (t224 + (wrap64 (t223 * t225)))) 1 (wrap64 (t225 + t226)) (wrap64 (t224 + (wrap64 (t223 * (wrap64 (t225 + t226)))))) 1 bt230.1 bt230.2.1)) else (marigraphlaw22_LerpLines.j0 k t223 true t225 (wrap64 (t224 + (wrap64 (t223 * t225)))) 1 (wrap64 (t225 + t226)) (wrap64 (t224 + (wrap64 (t223 * (wrap64 (t225 + t226)))))) 1 bt230.1 bt230.2.1)) else (marigraphlaw22_LerpLines.j0 k t223 true t225 (wrap64 (t224 + (wrap64 (t223 * t225)))) 1 (wrap64 (t225 + t226)) (wrap64 (t224 + (wrap64 (t223 * (wrap64 (t225 + t226)))))) 1 bt230.1 bt230.2.1)) else (marigraphlaw22_LerpLines.j0 k t223 true t225 (wrap64 (t224 + (wrap64 (t223 * t225)))) 1 (wrap64 (t225 + t226)) (wrap64 (t224 + (wrap64 (t223 * (wrap64 (t225 + t226)))))) 1 bt230.1 bt230.2.1))))) = some r := H
 have A10 := Aside0.mk A100
 clear A100
 by_cases c11 : (wrap64 ((wrap64 ((wrap64 (t225 + t226)) - t225)) + 1)) = 0
 ·rw [if_pos c11] at H
  exact absurd H (by simp)
 ·rw [if_neg c11] at H
  have c11b0 : ((wrap64 ((wrap64 ((wrap64 (t225 + t226)) - t225)) + 1)) == 0) = false := beq_eq_false_iff_ne.mpr c11
  have c11b1 : ((wrap64 ((wrap64 ((wrap64 (t225 + t226)) - t225)) + 1)) != 0) = true := bne_iff_ne.mpr c11
  replace H := Option.bind_eq_some_iff.mp H
  obtain ⟨⟨t230, t231, t232⟩, A120, H⟩ := H
  replace H : ((lerp_At.f k (([(⟨t225, (⟨wrap64 (t224 + (wrap64 (t223 * t225))), 1⟩ : S28)⟩ : S30), (⟨wrap64 (t225 + t226), (⟨wrap64 (t224 + (wrap64 (t223 * (wrap64 (t225 + t226))))), 1⟩ : S28)⟩ : S30)] : List (S30))) (wrap64 (t225 + (Int.tmod t227 (wrap64 ((wrap64 ((wrap64 (t225 + t226)) - t225)) + 1)))))).bind fun bt237 => (if t232 = 0 then (if bt237.2.2.2 = 0 then (if bt237.2.2.1 = true then (if (!(t230 == bt237.1) || (!(t231 == bt237.2.1))) = true then (marigraphlaw22_LerpLines.j0 k t223 true t225 (wrap64 (t224 + (wrap64 (t223 * t225)))) 1 (wrap64 (t225 + t226)) (wrap64 (t224 + (wrap64 (t223 * (wrap64 (t225 + t226)))))) 1 t230 t231) else (marigraphlaw22_LerpLines.j0 k t223 (!(t230 == (wrap64 (t224 + (wrap64 (t223 * (wrap64 (t225 + (Int.tmod t227 (wrap64 ((wrap64 ((wrap64 (t225 + t226)) - t225)) + 1)))))))))) || (!(t231 == 1))) t225 (wrap64 (t224 + (wrap64 (t223 * t225)))) 1 (wrap64 (t225 + t226)) (wrap64 (t224 + (wrap64 (t223 * (wrap64 (t225 + t226)))))) 1 t230 t231)) else (marigraphlaw22_LerpLines.j0 k t223 true t225 (wrap64 (t224 + (wrap64 (t223 * t225)))) 1 (wrap64 (t225 + t226)) (wrap64 (t224 + (wrap64 (t223 * (wrap64 (t225 + t226)))))) 1 t230 t231)) else (marigraphlaw22_LerpLines.j0 k t223 true t225 (wrap64 (t224 + (wrap64 (t223 * t225)))) 1 (wrap64 (t225 + t226)) (wrap64 (t224 + (wrap64 (t223 * (wrap64 (t225 + t226)))))) 1 t230 t231)) else (marigraphlaw22_LerpLines.j0 k t223 true t225 (wrap64 (t224 + (wrap64 (t223 * t225)))) 1 (wrap64 (t225 + t226)) (wrap64 (t224 + (wrap64 (t223 * (wrap64 (t225 + t226)))))) 1 t230 t231))) = some r := H
  have A12 := Aside0.mk A120
  clear A120
  obtain ⟨y234, hy234⟩ : ∃ y_ : List (S30), y_ = (([(⟨t225, (⟨wrap64 (t224 + (wrap64 (t223 * t225))), 1⟩ : S28)⟩ : S30), (⟨wrap64 (t225 + t226), (⟨wrap64 (t224 + (wrap64 (t223 * (wrap64 (t225 + t226))))), 1⟩ : S28)⟩ : S30)] : List (S30))) := ⟨_, rfl⟩
  replace H : ((lerp_At.f k y234 (wrap64 (t225 + (Int.tmod t227 (wrap64 ((wrap64 ((wrap64 (t225 + t226)) - t225)) + 1)))))).bind fun bt237 => (if t232 = 0 then (if bt237.2.2.2 = 0 then (if bt237.2.2.1 = true then (if (!(t230 == bt237.1) || (!(t231 == bt237.2.1))) = true then (marigraphlaw22_LerpLines.j0 k t223 true t225 (wrap64 (t224 + (wrap64 (t223 * t225)))) 1 (wrap64 (t225 + t226)) (wrap64 (t224 + (wrap64 (t223 * (wrap64 (t225 + t226)))))) 1 t230 t231) else (marigraphlaw22_LerpLines.j0 k t223 (!(t230 == (wrap64 (t224 + (wrap64 (t223 * (wrap64 (t225 + (Int.tmod t227 (wrap64 ((wrap64 ((wrap64 (t225 + t226)) - t225)) + 1)))))))))) || (!(t231 == 1))) t225 (wrap64 (t224 + (wrap64 (t223 * t225)))) 1 (wrap64 (t225 + t226)) (wrap64 (t224 + (wrap64 (t223 * (wrap64 (t225 + t226)))))) 1 t230 t231)) else (marigraphlaw22_LerpLines.j0 k t223 true t225 (wrap64 (t224 + (wrap64 (t223 * t225)))) 1 (wrap64 (t225 + t226)) (wrap64 (t224 + (wrap64 (t223 * (wrap64 (t225 + t226)))))) 1 t230 t231)) else (marigraphlaw22_LerpLines.j0 k t223 true t225 (wrap64 (t224 + (wrap64 (t223 * t225)))) 1 (wrap64 (t225 + t226)) (wrap64 (t224 + (wrap64 (t223 * (wrap64 (t225 + t226)))))) 1 t230 t231)) else (marigraphlaw22_LerpLines.j0 k t223 true t225 (wrap64 (t224 + (wrap64 (t223 * t225)))) 1 (wrap64 (t225 + t226)) (wrap64 (t224 + (wrap64 (t223 * (wrap64 (t225 + t226)))))) 1 t230 t231))) = some r := by first | (rw [hy234]; with_reducible exact H) | (have H2_ := (Option.bind_some _ _).symm.trans H; rw [hy234]; with_reducible exact H2_) | (have H2_ := (Option.bind_some _ _).symm.trans H; with_reducible exact H2_) | with_reducible exact H | (rw [hy234]; exact H) | exact H
  have Ny234 := Aside0.mk hy234
  clear hy234
  replace H := Option.bind_eq_some_iff.mp H
  obtain ⟨⟨t237, t238, t239, t240⟩, A130, H⟩ := H
  replace H : (if t232 = 0 then (if t240 = 0 then (if t239 = true then (if (!(t230 == t237) || (!(t231 == t238))) = true then (marigraphlaw22_LerpLines.j0 k t223 true t225 (wrap64 (t224 + (wrap64 (t223 * t225)))) 1 (wrap64 (t225 + t226)) (wrap64 (t224 + (wrap64 (t223 * (wrap64 (t225 + t226)))))) 1 t230 t231) else (marigraphlaw22_LerpLines.j0 k t223 (!(t230 == (wrap64 (t224 + (wrap64 (t223 * (wrap64 (t225 + (Int.tmod t227 (wrap64 ((wrap64 ((wrap64 (t225 + t226)) - t225)) + 1)))))))))) || (!(t231 == 1))) t225 (wrap64 (t224 + (wrap64 (t223 * t225)))) 1 (wrap64 (t225 + t226)) (wrap64 (t224 + (wrap64 (t223 * (wrap64 (t225 + t226)))))) 1 t230 t231)) else (marigraphlaw22_LerpLines.j0 k t223 true t225 (wrap64 (t224 + (wrap64 (t223 * t225)))) 1 (wrap64 (t225 + t226)) (wrap64 (t224 + (wrap64 (t223 * (wrap64 (t225 + t226)))))) 1 t230 t231)) else (marigraphlaw22_LerpLines.j0 k t223 true t225 (wrap64 (t224 + (wrap64 (t223 * t225)))) 1 (wrap64 (t225 + t226)) (wrap64 (t224 + (wrap64 (t223 * (wrap64 (t225 + t226)))))) 1 t230 t231)) else (marigraphlaw22_LerpLines.j0 k t223 true t225 (wrap64 (t224 + (wrap64 (t223 * t225)))) 1 (wrap64 (t225 + t226)) (wrap64 (t224 + (wrap64 (t223 * (wrap64 (t225 + t226)))))) 1 t230 t231)) = some r := H
  have A13 := Aside0.mk A130
  clear A130
  have HC14 := Aside0.mk H
  clear H
  go_enter Try.func5, Try.ntmps5
  go_upto_region 8 with (first | ((with_reducible refine gate_callee (f := 18) rfl ?_); refine goesL_ (some 26) rfl rfl Try.func18 (by kernel_rfl) rfl #[.int .i64 a0, .int .i64 (-50), .int .i64 50] rfl argN ?_; (with_reducible refine (marigraphbook_Within.calls k a0 (-50) 50 t223 _ A6.out).mono ?_); rintro e w' ⟨rfl, ⟨nd, rfl⟩⟩; refine ⟨_, rfl, ?_⟩) | ((with_reducible refine gate_callee (f := 18) rfl ?_); refine goesL_ (some 28) rfl rfl Try.func18 (by kernel_rfl) rfl #[.int .i64 a1, .int .i64 (-1000), .int .i64 1000] rfl argN ?_; (with_reducible refine (marigraphbook_Within.calls k a1 (-1000) 1000 t224 _ A7.out).mono ?_); rintro e w' ⟨rfl, ⟨nd, rfl⟩⟩; refine ⟨_, rfl, ?_⟩) | ((with_reducible refine gate_callee (f := 18) rfl ?_); refine goesL_ (some 30) rfl rfl Try.func18 (by kernel_rfl) rfl #[.int .i64 a2, .int .i64 0, .int .i64 1000] rfl argN ?_; (with_reducible refine (marigraphbook_Within.calls k a2 0 1000 t225 _ A8.out).mono ?_); rintro e w' ⟨rfl, ⟨nd, rfl⟩⟩; refine ⟨_, rfl, ?_⟩) | ((with_reducible refine gate_callee (f := 18) rfl ?_); refine goesL_ (some 33) rfl rfl Try.func18 (by kernel_rfl) rfl #[.int .i64 a3, .int .i64 1, .int .i64 1000] rfl argN ?_; (with_reducible refine (marigraphbook_Within.calls k a3 1 1000 t226 _ A9.out).mono ?_); rintro e w' ⟨rfl, ⟨nd, rfl⟩⟩; refine ⟨_, rfl, ?_⟩) | ((with_reducible refine gate_callee (f := 18) rfl ?_); refine goesL_ (some 37) rfl rfl Try.func18 (by kernel_rfl) rfl #[.int .i64 a4, .int .i64 0, .int .i64 1000] rfl argN ?_; (with_reducible refine (marigraphbook_Within.calls k a4 0 1000 t227 _ A10.out).mono ?_); rintro e w' ⟨rfl, ⟨nd, rfl⟩⟩; refine ⟨_, rfl, ?_⟩) | ((with_reducible refine gate_dst (N := 16) rfl ?_); refine box_event ?hg (N := 16) ?hd (cs := #[.int .i64 0, .int .i64 0, .int .i64 0]) (t := 30) ?hr ?_; (case hd => rfl); (case hg => rfl); (case hr => first | (go_simp; done) | (go_simp; rfl)); intro gb228 hg w15 hbox hb; have n0_ := Aside0.mk (below_step (belN HB.out) hb); have n1_ := Aside0.mk (hbox); have n2_ := Aside0.mk (szB hg HB.out); have n3_ := Aside0.mk (szB hg HB.out); clear HB; have HB := n0_; have BK228 := n1_; have GW228 := n2_; have GE228 := n3_; clear n0_ n1_ n2_ n3_; clear hb hbox hg) | ((with_reducible refine gate_dst (N := 17) rfl ?_); refine box_event ?hg (N := 17) ?hd (cs := #[.int .i64 0, .int .i64 0, .int .i64 0]) (t := 30) ?hr ?_; (case hd => rfl); (case hg => rfl); (case hr => first | (go_simp; done) | (go_simp; rfl)); intro gb229 hg w16 hbox hb; have n0_ := Aside0.mk (bkB BK228.out hb); have n1_ := Aside0.mk (below_step (belS HB.out) hb); have n2_ := Aside0.mk (hbox); have n3_ := Aside0.mk (szB hg HB.out); have n4_ := Aside0.mk (szB hg HB.out); have n5_ := Aside0.mk ((bk1 hg BK228.out)); have n6_ := Aside0.mk ((bk2 hg BK228.out)); clear BK228; clear HB; have BK228 := n0_; have HB := n1_; have BK229 := n2_; have GW229 := n3_; have GE229 := n4_; have NB228_229 := n5_; have NB229_228 := n6_; clear n0_ n1_ n2_ n3_ n4_ n5_ n6_; clear hb hbox hg; have hnb17 := NB228_229.out; have hnc17 := NB229_228.out; have hcz18_0 : w16.cell? ⟨gb228, 0, none⟩ = some (.int .i64 0) := (blk_cell BK228.out 0).trans rfl; have hcz18_1 : w16.cell? ⟨gb228, 1, none⟩ = some (.int .i64 0) := (blk_cell BK228.out 1).trans rfl; have hcz18_2 : w16.cell? ⟨gb228, 2, none⟩ = some (.int .i64 0) := (blk_cell BK228.out 2).trans rfl; have hfz18_0 := blk_frozen BK228.out 0; have hfz18_1 := blk_frozen BK228.out 1; have hfz18_2 := blk_frozen BK228.out 2; have hcz19_0 : w16.cell? ⟨gb229, 0, none⟩ = some (.int .i64 0) := (blk_cell BK229.out 0).trans rfl; have hcz19_1 : w16.cell? ⟨gb229, 1, none⟩ = some (.int .i64 0) := (blk_cell BK229.out 1).trans rfl; have hcz19_2 : w16.cell? ⟨gb229, 2, none⟩ = some (.int .i64 0) := (blk_cell BK229.out 2).trans rfl; have hfz19_0 := blk_frozen BK229.out 0; have hfz19_1 := blk_frozen BK229.out 1; have hfz19_2 := blk_frozen BK229.out 2) | ((with_reducible refine gate_callee (f := 19) rfl ?_); refine goesL_ (some 64) rfl rfl Try.func19 (by kernel_rfl) rfl #[.agg #[.int .i64 t225, .int .i64 (wrap64 (t224 + (wrap64 (t223 * t225)))), .int .i64 1], .agg #[.int .i64 (wrap64 (t225 + t226)), .int .i64 (wrap64 (t224 + (wrap64 (t223 * (wrap64 (t225 + t226)))))), .int .i64 1], .int .i64 (wrap64 (t225 + (Int.tmod t227 (wrap64 ((wrap64 ((wrap64 (t225 + t226)) - t225)) + 1)))))] rfl argN ?_; (with_reducible refine (lerp_Between.calls k t225 (wrap64 (t224 + (wrap64 (t223 * t225)))) 1 (wrap64 (t225 + t226)) (wrap64 (t224 + (wrap64 (t223 * (wrap64 (t225 + t226)))))) 1 (wrap64 (t225 + (Int.tmod t227 (wrap64 ((wrap64 ((wrap64 (t225 + t226)) - t225)) + 1))))) t230 t231 t232 _ A12.out).mono ?_); rintro e w20 ⟨rfl, hb⟩; refine ⟨_, rfl, ?_⟩; have n0_ := Aside0.mk (blk_below (g := gb228) (o := .cells #[.int .i64 t225, .int .i64 (wrap64 (t224 + (wrap64 (t223 * t225)))), .int .i64 1] 30 (0, 0)) (by (with_reducible repeat (first | refine blk_drewN ?_ _ | refine blk_drew ?_ | refine blk_alloc ?_ _)); refine blk_far ?_ NB228_229.out _; (with_reducible repeat (first | refine blk_drewN ?_ _ | refine blk_drew ?_ | refine blk_alloc ?_ _)); refine blk_far ?_ NB228_229.out _; (with_reducible repeat (first | refine blk_drewN ?_ _ | refine blk_drew ?_ | refine blk_alloc ?_ _)); refine blk_far ?_ NB228_229.out _; (with_reducible repeat (first | refine blk_drewN ?_ _ | refine blk_drew ?_ | refine blk_alloc ?_ _)); refine blk_put (cs := #[.int .i64 t225, .int .i64 (wrap64 (t224 + (wrap64 (t223 * t225)))), .int .i64 0]) ?_ 2 _ rfl; (with_reducible repeat (first | refine blk_drewN ?_ _ | refine blk_drew ?_ | refine blk_alloc ?_ _)); refine blk_put (cs := #[.int .i64 t225, .int .i64 0, .int .i64 0]) ?_ 1 _ rfl; (with_reducible repeat (first | refine blk_drewN ?_ _ | refine blk_drew ?_ | refine blk_alloc ?_ _)); refine blk_put (cs := #[.int .i64 0, .int .i64 0, .int .i64 0]) ?_ 0 _ rfl; (with_reducible repeat (first | refine blk_drewN ?_ _ | refine blk_drew ?_ | refine blk_alloc ?_ _)); exact BK228.out) hb); have n1_ := Aside0.mk (blk_below (g := gb229) (o := .cells #[.int .i64 (wrap64 (t225 + t226)), .int .i64 (wrap64 (t224 + (wrap64 (t223 * (wrap64 (t225 + t226)))))), .int .i64 1] 30 (0, 0)) (by (with_reducible repeat (first | refine blk_drewN ?_ _ | refine blk_drew ?_ | refine blk_alloc ?_ _)); refine blk_put (cs := #[.int .i64 (wrap64 (t225 + t226)), .int .i64 (wrap64 (t224 + (wrap64 (t223 * (wrap64 (t225 + t226)))))), .int .i64 0]) ?_ 2 _ rfl; (with_reducible repeat (first | refine blk_drewN ?_ _ | refine blk_drew ?_ | refine blk_alloc ?_ _)); refine blk_put (cs := #[.int .i64 (wrap64 (t225 + t226)), .int .i64 0, .int .i64 0]) ?_ 1 _ rfl; (with_reducible repeat (first | refine blk_drewN ?_ _ | refine blk_drew ?_ | refine blk_alloc ?_ _)); refine blk_put (cs := #[.int .i64 0, .int .i64 0, .int .i64 0]) ?_ 0 _ rfl; (with_reducible repeat (first | refine blk_drewN ?_ _ | refine blk_drew ?_ | refine blk_alloc ?_ _)); refine blk_far ?_ NB229_228.out _; (with_reducible repeat (first | refine blk_drewN ?_ _ | refine blk_drew ?_ | refine blk_alloc ?_ _)); refine blk_far ?_ NB229_228.out _; (with_reducible repeat (first | refine blk_drewN ?_ _ | refine blk_drew ?_ | refine blk_alloc ?_ _)); refine blk_far ?_ NB229_228.out _; (with_reducible repeat (first | refine blk_drewN ?_ _ | refine blk_drew ?_ | refine blk_alloc ?_ _)); exact BK229.out) hb); have n2_ := Aside0.mk (below_step (belS HB.out) hb); clear BK228; clear BK229; clear HB; have BK228 := n0_; have BK229 := n1_; have HB := n2_; clear n0_ n1_ n2_; (try clear hb); (try clear hb2); (try clear hk); (try clear hi)) | ((with_reducible refine gate_dst (N := 18) rfl ?_); refine box_event ?hg (N := 18) ?hd (cs := #[.int .i64 0, .int .i64 0]) (t := 28) ?hr ?_; (case hd => rfl); (case hg => rfl); (case hr => first | (go_simp; done) | (go_simp; rfl)); intro gb233 hg w21 hbox hb; have n0_ := Aside0.mk (bkB BK228.out hb); have n1_ := Aside0.mk (bkB BK229.out hb); have n2_ := Aside0.mk (below_step (belS HB.out) hb); have n3_ := Aside0.mk (hbox); have n4_ := Aside0.mk (szB hg HB.out); have n5_ := Aside0.mk (szB hg HB.out); have n6_ := Aside0.mk ((bk1 hg BK228.out)); have n7_ := Aside0.mk ((bk2 hg BK228.out)); have n8_ := Aside0.mk ((bk1 hg BK229.out)); have n9_ := Aside0.mk ((bk2 hg BK229.out)); clear BK228; clear BK229; clear HB; have BK228 := n0_; have BK229 := n1_; have HB := n2_; have BK233 := n3_; have GW233 := n4_; have GE233 := n5_; have NB228_233 := n6_; have NB233_228 := n7_; have NB229_233 := n8_; have NB233_229 := n9_; clear n0_ n1_ n2_ n3_ n4_ n5_ n6_ n7_ n8_ n9_; clear hb hbox hg; have hnb22 := NB233_228.out; have hnc22 := NB228_233.out; have hnb23 := NB233_229.out; have hnc23 := NB229_233.out; have hcz24_0 : w21.cell? ⟨gb233, 0, none⟩ = some (.int .i64 0) := (blk_cell BK233.out 0).trans rfl; have hcz24_1 : w21.cell? ⟨gb233, 1, none⟩ = some (.int .i64 0) := (blk_cell BK233.out 1).trans rfl; have hfz24_0 := blk_frozen BK233.out 0; have hfz24_1 := blk_frozen BK233.out 1; have hcz25_0 : w21.cell? ⟨gb228, 0, none⟩ = some (.int .i64 t225) := (blk_cell BK228.out 0).trans rfl; have hcz25_1 : w21.cell? ⟨gb228, 1, none⟩ = some (.int .i64 (wrap64 (t224 + (wrap64 (t223 * t225))))) := (blk_cell BK228.out 1).trans rfl; have hcz25_2 : w21.cell? ⟨gb228, 2, none⟩ = some (.int .i64 1) := (blk_cell BK228.out 2).trans rfl; have hfz25_0 := blk_frozen BK228.out 0; have hfz25_1 := blk_frozen BK228.out 1; have hfz25_2 := blk_frozen BK228.out 2; have hcz26_0 : w21.cell? ⟨gb229, 0, none⟩ = some (.int .i64 (wrap64 (t225 + t226))) := (blk_cell BK229.out 0).trans rfl; have hcz26_1 : w21.cell? ⟨gb229, 1, none⟩ = some (.int .i64 (wrap64 (t224 + (wrap64 (t223 * (wrap64 (t225 + t226))))))) := (blk_cell BK229.out 1).trans rfl; have hcz26_2 : w21.cell? ⟨gb229, 2, none⟩ = some (.int .i64 1) := (blk_cell BK229.out 2).trans rfl; have hfz26_0 := blk_frozen BK229.out 0; have hfz26_1 := blk_frozen BK229.out 1; have hfz26_2 := blk_frozen BK229.out 2) | ((with_reducible refine gate_dst (N := 70) rfl ?_); refine Kd.R_lit k30 _ 30 ?hg (N := 70) ?hd (xs := ([(⟨t225, (⟨wrap64 (t224 + (wrap64 (t223 * t225))), 1⟩ : S28)⟩ : S30), (⟨wrap64 (t225 + t226), (⟨wrap64 (t224 + (wrap64 (t223 * (wrap64 (t225 + t226))))), 1⟩ : S28)⟩ : S30)] : List (S30))) (inner := [.int .i64 t225, .int .i64 (wrap64 (t224 + (wrap64 (t223 * t225)))), .int .i64 1, .int .i64 (wrap64 (t225 + t226)), .int .i64 (wrap64 (t224 + (wrap64 (t223 * (wrap64 (t225 + t226)))))), .int .i64 1]) (ok := fun _ => True) (okp := fun _ => True) ?hr ?hp (fun _ hk => hk) trivial (Below.refl _ _) (Nat.le_refl _) (by simp) ?_; (case hd => rfl); (case hg => rfl); (case hr => first | (go_simp; done) | (go_simp; rfl)); (case hp => exact (Reps.c3 (show Kd.M k30 _ _ _ (⟨t225, (⟨wrap64 (t224 + (wrap64 (t223 * t225))), 1⟩ : S28)⟩ : S30) [.int .i64 t225, .int .i64 (wrap64 (t224 + (wrap64 (t223 * t225)))), .int .i64 1] from (k30_mkM _ _ _ (⟨t225, (⟨wrap64 (t224 + (wrap64 (t223 * t225))), 1⟩ : S28)⟩ : S30) )) (Reps.c3 (show Kd.M k30 _ _ _ (⟨wrap64 (t225 + t226), (⟨wrap64 (t224 + (wrap64 (t223 * (wrap64 (t225 + t226))))), 1⟩ : S28)⟩ : S30) [.int .i64 (wrap64 (t225 + t226)), .int .i64 (wrap64 (t224 + (wrap64 (t223 * (wrap64 (t225 + t226)))))), .int .i64 1] from (k30_mkM _ _ _ (⟨wrap64 (t225 + t226), (⟨wrap64 (t224 + (wrap64 (t223 * (wrap64 (t225 + t226))))), 1⟩ : S28)⟩ : S30) )) (Reps.none _ _)))); intro v235 w27 ho28 hb hg_ hnew_; clear hg_ hnew_; (first | rw [← Ny234.out] at ho28 | (simp only [Int.reduceToNat] at ho28; rw [← Ny234.out] at ho28)); have n0_ := Aside0.mk (Kd.R_lower (Kd.R_newB (Kd.R_newB ho28 (g := gb228) (o := .cells #[.int .i64 t225, .int .i64 (wrap64 (t224 + (wrap64 (t223 * t225)))), .int .i64 1] 30 (0, 0)) (blkF BK228.out)) (g := gb229) (o := .cells #[.int .i64 (wrap64 (t225 + t226)), .int .i64 (wrap64 (t224 + (wrap64 (t223 * (wrap64 (t225 + t226)))))), .int .i64 1] 30 (0, 0)) (blkF BK229.out)) (below_size (belS HB.out))); have n1_ := Aside0.mk (bkBF BK228.out hb); have n2_ := Aside0.mk (bkBF BK229.out hb); have n3_ := Aside0.mk (blk_below (g := gb233) (o := .cells #[.int .i64 t230, .int .i64 t231] 28 (0, 0)) (by (with_reducible repeat (first | refine blk_drewN ?_ _ | refine blk_drew ?_ | refine blk_alloc ?_ _)); refine blk_put (cs := #[.int .i64 t230, .int .i64 0]) ?_ 1 _ rfl; (with_reducible repeat (first | refine blk_drewN ?_ _ | refine blk_drew ?_ | refine blk_alloc ?_ _)); refine blk_put (cs := #[.int .i64 0, .int .i64 0]) ?_ 0 _ rfl; (with_reducible repeat (first | refine blk_drewN ?_ _ | refine blk_drew ?_ | refine blk_alloc ?_ _)); exact BK233.out) hb); have n4_ := Aside0.mk (below_step (belS HB.out) hb); clear BK228; clear BK229; clear BK233; clear HB; have HO236 := n0_; have BK228 := n1_; have BK229 := n2_; have BK233 := n3_; have HB := n4_; clear n0_ n1_ n2_ n3_ n4_; clear hb ho28; obtain ⟨Ao29, co29, eo29⟩ := Kd.R_slice HO236.out; subst eo29) | ((with_reducible refine gate_callee (f := 20) rfl ?_); refine goesL_ (some 72) rfl rfl Try.func20 (by kernel_rfl) rfl #[.slice Ao29 y234.length co29, .int .i64 (wrap64 (t225 + (Int.tmod t227 (wrap64 ((wrap64 ((wrap64 (t225 + t226)) - t225)) + 1)))))] rfl argN ?_; (with_reducible refine (lerp_At.calls k _ _ y234 (wrap64 (t225 + (Int.tmod t227 (wrap64 ((wrap64 ((wrap64 (t225 + t226)) - t225)) + 1))))) t237 t238 t239 t240 _ ?side1 ?side2 A13.out).mono ?_); (case side1 => repeat (first | exact (Kd.R_reads' HO236.out).2.2 | (with_reducible refine Kd.C_alloc ?_ _) | (with_reducible refine Kd.C_drewN ?_ _) | (with_reducible refine Kd.C_drew ?_))); (case side2 => exact (Kd.R_reads' HO236.out).2.1); rintro e w30 ⟨rfl, hb⟩; refine ⟨_, rfl, ?_⟩; have n0_ := Aside0.mk (Kd.R_below (rowN HO236.out) hb); have n1_ := Aside0.mk (bkB BK228.out hb); have n2_ := Aside0.mk (bkB BK229.out hb); have n3_ := Aside0.mk (bkB BK233.out hb); have n4_ := Aside0.mk (below_step (belS HB.out) hb); clear HO236; clear BK228; clear BK229; clear BK233; clear HB; have HO236 := n0_; have BK228 := n1_; have BK229 := n2_; have BK233 := n3_; have HB := n4_; clear n0_ n1_ n2_ n3_ n4_; (try clear hb); (try clear hb2); (try clear hk); (try clear hi)) | ((with_reducible refine gate_dst (N := 20) rfl ?_); refine box_event ?hg (N := 20) ?hd (cs := #[.int .i64 0, .int .i64 0]) (t := 28) ?hr ?_; (case hd => rfl); (case hg => rfl); (case hr => first | (go_simp; done) | (go_simp; rfl)); intro gb241 hg w31 hbox hb; have n0_ := Aside0.mk (Kd.R_below (rowN HO236.out) hb); have n1_ := Aside0.mk (bkB BK228.out hb); have n2_ := Aside0.mk (bkB BK229.out hb); have n3_ := Aside0.mk (bkB BK233.out hb); have n4_ := Aside0.mk (below_step (belS HB.out) hb); have n5_ := Aside0.mk (hbox); have n6_ := Aside0.mk (szB hg HB.out); have n7_ := Aside0.mk (szB hg HB.out); have n8_ := Aside0.mk ((bk1 hg BK228.out)); have n9_ := Aside0.mk ((bk2 hg BK228.out)); have n10_ := Aside0.mk ((bk1 hg BK229.out)); have n11_ := Aside0.mk ((bk2 hg BK229.out)); have n12_ := Aside0.mk ((bk1 hg BK233.out)); have n13_ := Aside0.mk ((bk2 hg BK233.out)); clear HO236; clear BK228; clear BK229; clear BK233; clear HB; have HO236 := n0_; have BK228 := n1_; have BK229 := n2_; have BK233 := n3_; have HB := n4_; have BK241 := n5_; have GW241 := n6_; have GE241 := n7_; have NB228_241 := n8_; have NB241_228 := n9_; have NB229_241 := n10_; have NB241_229 := n11_; have NB233_241 := n12_; have NB241_233 := n13_; clear n0_ n1_ n2_ n3_ n4_ n5_ n6_ n7_ n8_ n9_ n10_ n11_ n12_ n13_; clear hb hbox hg; have hnb32 := NB241_228.out; have hnc32 := NB228_241.out; have hnb33 := NB241_229.out; have hnc33 := NB229_241.out; have hnb34 := NB241_233.out; have hnc34 := NB233_241.out; have hcz35_0 : w31.cell? ⟨gb241, 0, none⟩ = some (.int .i64 0) := (blk_cell BK241.out 0).trans rfl; have hcz35_1 : w31.cell? ⟨gb241, 1, none⟩ = some (.int .i64 0) := (blk_cell BK241.out 1).trans rfl; have hfz35_0 := blk_frozen BK241.out 0; have hfz35_1 := blk_frozen BK241.out 1))
  (try simp only [Act.put, List.setIfInBounds_toArray, List.set_cons_zero, List.set_cons_succ])
  go_cut [100] (fun v100 wc => ∃ (kq : Nat) (x100_13 : Bool), v100 = .bool x100_13 ∧ Aside0 (marigraphlaw22_LerpLines.j0 kq t223 x100_13 t225 (wrap64 (t224 + (wrap64 (t223 * t225)))) 1 (wrap64 (t225 + t226)) (wrap64 (t224 + (wrap64 (t223 * (wrap64 (t225 + t226)))))) 1 t230 t231 = some r) ∧ Aside0 (kq ≤ k) ∧ Aside0 (wc.heap[gb228]? = some (.cells #[.int .i64 t225, .int .i64 (wrap64 (t224 + (wrap64 (t223 * t225)))), .int .i64 1] 30 (0, 0))) ∧ Aside0 (wc.heap[gb229]? = some (.cells #[.int .i64 (wrap64 (t225 + t226)), .int .i64 (wrap64 (t224 + (wrap64 (t223 * (wrap64 (t225 + t226)))))), .int .i64 1] 30 (0, 0))) ∧ Aside0 (wc.heap[gb233]? = some (.cells #[.int .i64 t230, .int .i64 t231] 28 (0, 0))) ∧ Aside0 (wc.heap[gb241]? = some (.cells #[.int .i64 t237, .int .i64 t238] 28 (0, 0))) ∧ Aside0 (Below w.heap.size w wc))
  case first =>
   have H := HC14.out
   clear HC14
   by_cases c36 : t232 = 0
   ·rw [if_pos c36] at H
    have c36b0 : (t232 == 0) = true := beq_iff_eq.mpr c36
    have c36b1 : (t232 != 0) = false := bne_eq_false_iff_eq.mpr c36
    clear c36
    (first | rw [c36b0] | (simp only [i64_w, i32_w]; rw [c36b0]) | skip)
    by_cases c37 : t240 = 0
    ·rw [if_pos c37] at H
     have c37b0 : (t240 == 0) = true := beq_iff_eq.mpr c37
     have c37b1 : (t240 != 0) = false := bne_eq_false_iff_eq.mpr c37
     clear c37
     by_cases c38 : t239 = true
     ·subst c38
      have H1 : (if (!(t230 == t237) || (!(t231 == t238))) = true then (marigraphlaw22_LerpLines.j0 k t223 true t225 (wrap64 (t224 + (wrap64 (t223 * t225)))) 1 (wrap64 (t225 + t226)) (wrap64 (t224 + (wrap64 (t223 * (wrap64 (t225 + t226)))))) 1 t230 t231) else (marigraphlaw22_LerpLines.j0 k t223 (!(t230 == (wrap64 (t224 + (wrap64 (t223 * (wrap64 (t225 + (Int.tmod t227 (wrap64 ((wrap64 ((wrap64 (t225 + t226)) - t225)) + 1)))))))))) || (!(t231 == 1))) t225 (wrap64 (t224 + (wrap64 (t223 * t225)))) 1 (wrap64 (t225 + t226)) (wrap64 (t224 + (wrap64 (t223 * (wrap64 (t225 + t226)))))) 1 t230 t231)) = some r := by rw [if_pos rfl] at H; exact H
      clear H
      have H := H1
      clear H1
      by_cases c39 : (!(t230 == t237) || (!(t231 == t238))) = true
      ·rw [if_pos c39] at H
       have c39b0 : (!(t230 == t237) || (!(t231 == t238))) = true := c39
       clear c39
       have H' := Aside0.mk H
       clear H
       have hnb40 := NB233_228.out
       have hnc40 := NB228_233.out
       have hnb41 := NB233_229.out
       have hnc41 := NB229_233.out
       have hnb42 := NB233_241.out
       have hnc42 := NB241_233.out
       have hcz43_0 : w31.cell? ⟨gb233, 0, none⟩ = some (.int .i64 t230) := (blk_cell BK233.out 0).trans rfl
       have hcz43_1 : w31.cell? ⟨gb233, 1, none⟩ = some (.int .i64 t231) := (blk_cell BK233.out 1).trans rfl
       have hfz43_0 := blk_frozen BK233.out 0
       have hfz43_1 := blk_frozen BK233.out 1
       have hnb44 := NB241_228.out
       have hnc44 := NB228_241.out
       have hnb45 := NB241_229.out
       have hnc45 := NB229_241.out
       have hcz46_0 : w31.cell? ⟨gb241, 0, none⟩ = some (.int .i64 0) := (blk_cell BK241.out 0).trans rfl
       have hcz46_1 : w31.cell? ⟨gb241, 1, none⟩ = some (.int .i64 0) := (blk_cell BK241.out 1).trans rfl
       have hfz46_0 := blk_frozen BK241.out 0
       have hfz46_1 := blk_frozen BK241.out 1
       go_wp2
       go_meet
       case rel => exact ⟨_, (true), (by first | rfl | (simp; done) | (simp [*]; done)), H', ⟨by first | omega | exact Nat.le_refl _⟩, ⟨blkF BK228.out⟩, ⟨blkF BK229.out⟩, ⟨blkF BK233.out⟩, ⟨by (with_reducible repeat (first | refine blk_drewN ?_ _ | refine blk_drew ?_ | refine blk_alloc ?_ _)); refine blk_put (cs := #[.int .i64 t237, .int .i64 0]) ?_ 1 _ rfl; (with_reducible repeat (first | refine blk_drewN ?_ _ | refine blk_drew ?_ | refine blk_alloc ?_ _)); refine blk_put (cs := #[.int .i64 0, .int .i64 0]) ?_ 0 _ rfl; (with_reducible repeat (first | refine blk_drewN ?_ _ | refine blk_drew ?_ | refine blk_alloc ?_ _)); exact BK241.out⟩, ⟨(belS HB.out)⟩⟩
      ·rw [if_neg c39] at H
       have c39b0 : (!(t230 == t237) || (!(t231 == t238))) = false := by simpa using c39
       clear c39
       have H' := Aside0.mk H
       clear H
       have hnb47 := NB233_228.out
       have hnc47 := NB228_233.out
       have hnb48 := NB233_229.out
       have hnc48 := NB229_233.out
       have hnb49 := NB233_241.out
       have hnc49 := NB241_233.out
       have hcz50_0 : w31.cell? ⟨gb233, 0, none⟩ = some (.int .i64 t230) := (blk_cell BK233.out 0).trans rfl
       have hcz50_1 : w31.cell? ⟨gb233, 1, none⟩ = some (.int .i64 t231) := (blk_cell BK233.out 1).trans rfl
       have hfz50_0 := blk_frozen BK233.out 0
       have hfz50_1 := blk_frozen BK233.out 1
       have hnb51 := NB241_228.out
       have hnc51 := NB228_241.out
       have hnb52 := NB241_229.out
       have hnc52 := NB229_241.out
       have hcz53_0 : w31.cell? ⟨gb241, 0, none⟩ = some (.int .i64 0) := (blk_cell BK241.out 0).trans rfl
       have hcz53_1 : w31.cell? ⟨gb241, 1, none⟩ = some (.int .i64 0) := (blk_cell BK241.out 1).trans rfl
       have hfz53_0 := blk_frozen BK241.out 0
       have hfz53_1 := blk_frozen BK241.out 1
       go_wp2
       go_meet
       case rel => exact ⟨_, ((!(t230 == (wrap64 (t224 + (wrap64 (t223 * (wrap64 (t225 + (Int.tmod t227 (wrap64 ((wrap64 ((wrap64 (t225 + t226)) - t225)) + 1)))))))))) || (!(t231 == 1)))), (by first | rfl | (simp; done) | (simp [*]; done)), H', ⟨by first | omega | exact Nat.le_refl _⟩, ⟨blkF BK228.out⟩, ⟨blkF BK229.out⟩, ⟨blkF BK233.out⟩, ⟨by (with_reducible repeat (first | refine blk_drewN ?_ _ | refine blk_drew ?_ | refine blk_alloc ?_ _)); refine blk_put (cs := #[.int .i64 t237, .int .i64 0]) ?_ 1 _ rfl; (with_reducible repeat (first | refine blk_drewN ?_ _ | refine blk_drew ?_ | refine blk_alloc ?_ _)); refine blk_put (cs := #[.int .i64 0, .int .i64 0]) ?_ 0 _ rfl; (with_reducible repeat (first | refine blk_drewN ?_ _ | refine blk_drew ?_ | refine blk_alloc ?_ _)); exact BK241.out⟩, ⟨(belS HB.out)⟩⟩
     ·replace c38 := Bool.eq_false_iff.mpr c38
      subst c38
      have H1 : (marigraphlaw22_LerpLines.j0 k t223 true t225 (wrap64 (t224 + (wrap64 (t223 * t225)))) 1 (wrap64 (t225 + t226)) (wrap64 (t224 + (wrap64 (t223 * (wrap64 (t225 + t226)))))) 1 t230 t231) = some r := by rw [if_neg (show ¬ (false = true) by decide)] at H; exact H
      clear H
      have H := H1
      clear H1
      have H' := Aside0.mk H
      clear H
      go_wp2
      go_meet
      case rel => exact ⟨_, (true), (by first | rfl | (simp; done) | (simp [*]; done)), H', ⟨by first | omega | exact Nat.le_refl _⟩, ⟨blkF BK228.out⟩, ⟨blkF BK229.out⟩, ⟨blkF BK233.out⟩, ⟨by (with_reducible repeat (first | refine blk_drewN ?_ _ | refine blk_drew ?_ | refine blk_alloc ?_ _)); refine blk_put (cs := #[.int .i64 t237, .int .i64 0]) ?_ 1 _ rfl; (with_reducible repeat (first | refine blk_drewN ?_ _ | refine blk_drew ?_ | refine blk_alloc ?_ _)); refine blk_put (cs := #[.int .i64 0, .int .i64 0]) ?_ 0 _ rfl; (with_reducible repeat (first | refine blk_drewN ?_ _ | refine blk_drew ?_ | refine blk_alloc ?_ _)); exact BK241.out⟩, ⟨(belS HB.out)⟩⟩
    ·rw [if_neg c37] at H
     have c37b0 : (t240 == 0) = false := beq_eq_false_iff_ne.mpr c37
     have c37b1 : (t240 != 0) = true := bne_iff_ne.mpr c37
     have H' := Aside0.mk H
     clear H
     go_wp2
     go_meet
     case rel => exact ⟨_, (true), (by first | rfl | (simp; done) | (simp [*]; done)), H', ⟨by first | omega | exact Nat.le_refl _⟩, ⟨blkF BK228.out⟩, ⟨blkF BK229.out⟩, ⟨blkF BK233.out⟩, ⟨by (with_reducible repeat (first | refine blk_drewN ?_ _ | refine blk_drew ?_ | refine blk_alloc ?_ _)); refine blk_put (cs := #[.int .i64 t237, .int .i64 0]) ?_ 1 _ rfl; (with_reducible repeat (first | refine blk_drewN ?_ _ | refine blk_drew ?_ | refine blk_alloc ?_ _)); refine blk_put (cs := #[.int .i64 0, .int .i64 0]) ?_ 0 _ rfl; (with_reducible repeat (first | refine blk_drewN ?_ _ | refine blk_drew ?_ | refine blk_alloc ?_ _)); exact BK241.out⟩, ⟨(belS HB.out)⟩⟩
   ·rw [if_neg c36] at H
    have c36b0 : (t232 == 0) = false := beq_eq_false_iff_ne.mpr c36
    have c36b1 : (t232 != 0) = true := bne_iff_ne.mpr c36
    (first | rw [c36b0] | (simp only [i64_w, i32_w]; rw [c36b0]) | skip)
    have H' := Aside0.mk H
    clear H
    go_wp2
    go_meet
    case rel => exact ⟨_, (true), (by first | rfl | (simp; done) | (simp [*]; done)), H', ⟨by first | omega | exact Nat.le_refl _⟩, ⟨blkF BK228.out⟩, ⟨blkF BK229.out⟩, ⟨blkF BK233.out⟩, ⟨by (with_reducible repeat (first | refine blk_drewN ?_ _ | refine blk_drew ?_ | refine blk_alloc ?_ _)); refine blk_put (cs := #[.int .i64 t237, .int .i64 0]) ?_ 1 _ rfl; (with_reducible repeat (first | refine blk_drewN ?_ _ | refine blk_drew ?_ | refine blk_alloc ?_ _)); refine blk_put (cs := #[.int .i64 0, .int .i64 0]) ?_ 0 _ rfl; (with_reducible repeat (first | refine blk_drewN ?_ _ | refine blk_drew ?_ | refine blk_alloc ?_ _)); exact BK241.out⟩, ⟨(belS HB.out)⟩⟩
  case rest =>
   clear HC14
   try clear c1
   try clear c2
   try clear p2
   try clear c3
   try clear c4
   try clear c5
   try clear p6
   try clear c11
   try clear c11b0
   try clear c11b1
   try clear c17
   try clear c18
   try clear c19
   try clear c20
   try clear c22
   try clear c23
   try clear c32
   try clear c33
   try clear c34
   try clear c36
   try clear c36b0
   try clear c36b1
   try clear c37
   try clear c37b0
   try clear c37b1
   try clear c38
   try clear c39
   try clear c39b0
   try clear c40
   try clear c41
   try clear c42
   try clear c44
   try clear c45
   try clear c47
   try clear c48
   try clear c49
   try clear c51
   try clear c52
   try clear hcz18_0
   try clear hcz18_1
   try clear hcz18_2
   try clear hcz19_0
   try clear hcz19_1
   try clear hcz19_2
   try clear hcz24_0
   try clear hcz24_1
   try clear hcz25_0
   try clear hcz25_1
   try clear hcz25_2
   try clear hcz26_0
   try clear hcz26_1
   try clear hcz26_2
   try clear hcz35_0
   try clear hcz35_1
   try clear hcz43_0
   try clear hcz43_1
   try clear hcz46_0
   try clear hcz46_1
   try clear hcz50_0
   try clear hcz50_1
   try clear hcz53_0
   try clear hcz53_1
   try clear hfz18_0
   try clear hfz18_1
   try clear hfz18_2
   try clear hfz19_0
   try clear hfz19_1
   try clear hfz19_2
   try clear hfz24_0
   try clear hfz24_1
   try clear hfz25_0
   try clear hfz25_1
   try clear hfz25_2
   try clear hfz26_0
   try clear hfz26_1
   try clear hfz26_2
   try clear hfz35_0
   try clear hfz35_1
   try clear hfz43_0
   try clear hfz43_1
   try clear hfz46_0
   try clear hfz46_1
   try clear hfz50_0
   try clear hfz50_1
   try clear hfz53_0
   try clear hfz53_1
   obtain ⟨kq, x100_13, rfl, HA, HJ13, BK228, BK229, BK233, BK241, HB⟩ := hcut
   cases kq with
   | zero => exact absurd HA.out (by simp [marigraphlaw22_LerpLines.j0])
   | succ kj13 =>
    have H := HA.out
    clear HA
    simp only [marigraphlaw22_LerpLines.j0] at H
    by_cases c54 : x100_13 = true
    ·subst c54
     have H1 : (some false) = some r := by rw [if_pos rfl] at H; exact H
     clear H
     have H := H1
     clear H1
     obtain rfl := Option.some.inj H
     go_wp2
     go_ret
     exact ⟨by first | rfl | (simp [errW_none, errW_some] <;> rfl) | (simp [*, errW_none, errW_some] <;> rfl), (belS HB.out)⟩
    ·replace c54 := Bool.eq_false_iff.mpr c54
     subst c54
     have H1 : (if t223 < 0 then ((marigraphref1_Cmp.f kj13 (wrap64 (t224 + (wrap64 (t223 * (wrap64 (t225 + t226)))))) 1 t230 t231).bind fun t244 => (if t244 ≤ 0 then ((marigraphref1_Cmp.f kj13 t230 t231 (wrap64 (t224 + (wrap64 (t223 * t225)))) 1).bind fun t245 => (if t245 ≤ 0 then ((marigraphlaw22_known.f kj13).bind fun t246 => (some t246)) else (some false))) else (some false))) else ((marigraphref1_Cmp.f kj13 (wrap64 (t224 + (wrap64 (t223 * t225)))) 1 t230 t231).bind fun t247 => (if t247 ≤ 0 then ((marigraphref1_Cmp.f kj13 t230 t231 (wrap64 (t224 + (wrap64 (t223 * (wrap64 (t225 + t226)))))) 1).bind fun t248 => (if t248 ≤ 0 then ((marigraphlaw22_known.f kj13).bind fun t249 => (some t249)) else (some false))) else (some false)))) = some r := by rw [if_neg (show ¬ (false = true) by decide)] at H; exact H
     clear H
     have H := H1
     clear H1
     by_cases c55 : t223 < 0
     ·rw [if_pos c55] at H
      have c55b0 : decide (t223 < 0) = true := decide_eq_true c55
      clear c55
      replace H := Option.bind_eq_some_iff.mp H
      obtain ⟨t244, A560, H⟩ := H
      replace H : (if t244 ≤ 0 then ((marigraphref1_Cmp.f kj13 t230 t231 (wrap64 (t224 + (wrap64 (t223 * t225)))) 1).bind fun t245 => (if t245 ≤ 0 then ((marigraphlaw22_known.f kj13).bind fun t246 => (some t246)) else (some false))) else (some false)) = some r := H
      have A56 := Aside0.mk A560
      clear A560
      by_cases c57 : t244 ≤ 0
      ·rw [if_pos c57] at H
       have c57b0 : decide (t244 ≤ 0) = true := decide_eq_true c57
       clear c57
       replace H := Option.bind_eq_some_iff.mp H
       obtain ⟨t245, A580, H⟩ := H
       replace H : (if t245 ≤ 0 then ((marigraphlaw22_known.f kj13).bind fun t246 => (some t246)) else (some false)) = some r := H
       have A58 := Aside0.mk A580
       clear A580
       by_cases c59 : t245 ≤ 0
       ·rw [if_pos c59] at H
        have c59b0 : decide (t245 ≤ 0) = true := decide_eq_true c59
        clear c59
        replace H := Option.bind_eq_some_iff.mp H
        obtain ⟨t246, A600, H⟩ := H
        replace H : (some t246) = some r := H
        have A60 := Aside0.mk A600
        clear A600
        obtain rfl := Option.some.inj H
        try go_wp2
        have n0_ := Aside0.mk (blk_drew BK228.out)
        have n1_ := Aside0.mk (blk_drew BK229.out)
        have n2_ := Aside0.mk (blk_drew BK233.out)
        have n3_ := Aside0.mk (blk_drew BK241.out)
        have n4_ := Aside0.mk (below_drew1 HB.out)
        clear BK228
        clear BK229
        clear BK233
        clear BK241
        clear HB
        have BK228 := n0_
        have BK229 := n1_
        have BK233 := n2_
        have BK241 := n3_
        have HB := n4_
        clear n0_ n1_ n2_ n3_ n4_
        refine start_ (n := 8) (S := fun w' => w'.cell? ⟨gb228, 0, none⟩ = some (.int .i64 t225) ∧ w'.cell? ⟨gb228, 1, none⟩ = some (.int .i64 (wrap64 (t224 + (wrap64 (t223 * t225))))) ∧ w'.cell? ⟨gb228, 2, none⟩ = some (.int .i64 1) ∧ w'.cell? ⟨gb229, 0, none⟩ = some (.int .i64 (wrap64 (t225 + t226))) ∧ w'.cell? ⟨gb229, 1, none⟩ = some (.int .i64 (wrap64 (t224 + (wrap64 (t223 * (wrap64 (t225 + t226))))))) ∧ w'.cell? ⟨gb229, 2, none⟩ = some (.int .i64 1)) (ds := []) #[false, false, false, false, false, false, false, false] (by kernel_rfl) rfl rfl ⟨(blk_cell BK228.out 0).trans rfl, (blk_cell BK228.out 1).trans rfl, (blk_cell BK228.out 2).trans rfl, (blk_cell BK229.out 0).trans rfl, (blk_cell BK229.out 1).trans rfl, (blk_cell BK229.out 2).trans rfl⟩ (fun hHeld => ?_); refine with_tabW marigraphlaw22_LerpLines.tab10 marigraphlaw22_LerpLines.bits10 (fun HT_ HW_ => ?_)
        generalize wc.drew = w61 at BK228 BK229 BK233 BK241 HB hHeld ⊢
        refine pure_ (i := 0) (N := some 101) (v := ?_) (a' := ?_) #[true, false, false, false, false, false, false, false] rfl rfl (any_of HT_.out (by kernel_rfl)) (fun _ _ _ h => h) (Or.inl ⟨by rfl, ?_⟩) ?_ ?_
        rotate_left
        ·intro w'
         go_simp
         with_reducible rfl
        rotate_left
        ·simp only [Act.put, List.setIfInBounds_toArray, List.set_cons_zero, List.set_cons_succ, i64_w, i32_w]
         rfl
        refine pure_ (i := 2) (N := some 103) (v := ?_) (a' := ?_) #[true, false, true, false, false, false, false, false] rfl rfl (any_of HT_.out (by kernel_rfl)) (fun _ _ _ h => h) (Or.inl ⟨by rfl, ?_⟩) ?_ ?_
        rotate_left
        ·intro w'
         go_simp
         with_reducible rfl
        rotate_left
        ·simp only [Act.put, List.setIfInBounds_toArray, List.set_cons_zero, List.set_cons_succ, i64_w, i32_w]
         rfl
        refine take_ (i := 1) (N := some 102) (v := ?_) (a' := ?_) #[true, true, true, false, false, false, false, false] rfl rfl (take_ofW HT_.out HW_.out (by kernel_rfl)) (fun _ _ _ h => h) (Or.inl ⟨by rfl, ?_⟩) hHeld ?_ ?_
        rotate_left
        ·rintro w' ⟨s0, s1, s2, s3, s4, s5⟩
         go_simp
         with_reducible rfl
        rotate_left
        ·simp only [Act.put, List.setIfInBounds_toArray, List.set_cons_zero, List.set_cons_succ, i64_w, i32_w]
         rfl
        refine take_ (i := 3) (N := some 104) (v := ?_) (a' := ?_) #[true, true, true, true, false, false, false, false] rfl rfl (take_ofW HT_.out HW_.out (by kernel_rfl)) (fun _ _ _ h => h) (Or.inl ⟨by rfl, ?_⟩) hHeld ?_ ?_
        rotate_left
        ·rintro w' ⟨s0, s1, s2, s3, s4, s5⟩
         go_simp
         with_reducible rfl
        rotate_left
        ·simp only [Act.put, List.setIfInBounds_toArray, List.set_cons_zero, List.set_cons_succ, i64_w, i32_w]
         rfl
        refine join_ (σ := Nat × Nat) 2 #[true, true, true, true, true, true, false, false] (fun s_ => [(23, .pointer (some ⟨s_.1, 0, none⟩)), (24, .pointer (some ⟨s_.2, 0, none⟩))]) (fun s_ w' => (w'.cell? ⟨gb228, 0, none⟩ = some (.int .i64 t225) ∧ w'.cell? ⟨gb228, 1, none⟩ = some (.int .i64 (wrap64 (t224 + (wrap64 (t223 * t225))))) ∧ w'.cell? ⟨gb228, 2, none⟩ = some (.int .i64 1) ∧ w'.cell? ⟨gb229, 0, none⟩ = some (.int .i64 (wrap64 (t225 + t226))) ∧ w'.cell? ⟨gb229, 1, none⟩ = some (.int .i64 (wrap64 (t224 + (wrap64 (t223 * (wrap64 (t225 + t226))))))) ∧ w'.cell? ⟨gb229, 2, none⟩ = some (.int .i64 1)) ∧ (w'.heap[gb228]? = some (.cells #[.int .i64 t225, .int .i64 (wrap64 (t224 + (wrap64 (t223 * t225)))), .int .i64 1] 30 (0, 0))) ∧ (w'.heap[gb229]? = some (.cells #[.int .i64 (wrap64 (t225 + t226)), .int .i64 (wrap64 (t224 + (wrap64 (t223 * (wrap64 (t225 + t226)))))), .int .i64 1] 30 (0, 0))) ∧ (w'.heap[gb233]? = some (.cells #[.int .i64 t230, .int .i64 t231] 28 (0, 0))) ∧ (w'.heap[gb241]? = some (.cells #[.int .i64 t237, .int .i64 t238] 28 (0, 0))) ∧ (w'.heap[s_.1]? = some (.cells #[.int .i64 0, .int .i64 0] 28 (0, 0))) ∧ (w'.heap[s_.2]? = some (.cells #[.int .i64 0, .int .i64 0] 28 (0, 0))) ∧ (w.heap.size ≤ s_.1) ∧ (w.heap.size ≤ s_.1) ∧ (gb228 ≠ s_.1) ∧ (s_.1 ≠ gb228) ∧ (gb229 ≠ s_.1) ∧ (s_.1 ≠ gb229) ∧ (gb233 ≠ s_.1) ∧ (s_.1 ≠ gb233) ∧ (gb241 ≠ s_.1) ∧ (s_.1 ≠ gb241) ∧ (s_.2 ≠ s_.1) ∧ (s_.1 ≠ s_.2) ∧ (w.heap.size ≤ s_.2) ∧ (w.heap.size ≤ s_.2) ∧ (gb228 ≠ s_.2) ∧ (s_.2 ≠ gb228) ∧ (gb229 ≠ s_.2) ∧ (s_.2 ≠ gb229) ∧ (gb233 ≠ s_.2) ∧ (s_.2 ≠ gb233) ∧ (gb241 ≠ s_.2) ∧ (s_.2 ≠ gb241) ∧ (Below w.heap.size w w')) ?_ ?_
        rotate_left
        ·intro hCont
         refine two_ (i := 4) (j := 5) (Ni := some 23) (Nj := some 24) #[true, true, true, true, true, false, false, false] #[true, true, true, true, false, true, false, false] rfl rfl rfl rfl (two_of HT_.out (by kernel_rfl)) (by decide) (by decide) (fun K hK => ?_) (fun K hK => ?_)
         ·skip
          refine box_step ?hg (N := 23) ?hd (cs := #[.int .i64 0, .int .i64 0]) (t := 28) ?hr ?_; (case hd => rfl); (case hg => rfl); (case hr => first | (go_simp; done) | (go_simp; rfl))
          intro gb242 hg w62 hbox hb
          have n0_ := Aside0.mk (bkB BK228.out hb)
          have n1_ := Aside0.mk (bkB BK229.out hb)
          have n2_ := Aside0.mk (bkB BK233.out hb)
          have n3_ := Aside0.mk (bkB BK241.out hb)
          have n4_ := Aside0.mk (below_step (belS HB.out) hb)
          have n5_ := Aside0.mk (hbox)
          have n6_ := Aside0.mk (szB hg HB.out)
          have n7_ := Aside0.mk (szB hg HB.out)
          have n8_ := Aside0.mk ((bk1 hg BK228.out))
          have n9_ := Aside0.mk ((bk2 hg BK228.out))
          have n10_ := Aside0.mk ((bk1 hg BK229.out))
          have n11_ := Aside0.mk ((bk2 hg BK229.out))
          have n12_ := Aside0.mk ((bk1 hg BK233.out))
          have n13_ := Aside0.mk ((bk2 hg BK233.out))
          have n14_ := Aside0.mk ((bk1 hg BK241.out))
          have n15_ := Aside0.mk ((bk2 hg BK241.out))
          clear BK228
          clear BK229
          clear BK233
          clear BK241
          clear HB
          have BK228 := n0_
          have BK229 := n1_
          have BK233 := n2_
          have BK241 := n3_
          have HB := n4_
          have BK242 := n5_
          have GW242 := n6_
          have GE242 := n7_
          have NB228_242 := n8_
          have NB242_228 := n9_
          have NB229_242 := n10_
          have NB242_229 := n11_
          have NB233_242 := n12_
          have NB242_233 := n13_
          have NB241_242 := n14_
          have NB242_241 := n15_
          clear n0_ n1_ n2_ n3_ n4_ n5_ n6_ n7_ n8_ n9_ n10_ n11_ n12_ n13_ n14_ n15_
          clear hb hbox hg
          refine hK.out _ _ ⟨(blk_cell BK228.out 0).trans rfl, (blk_cell BK228.out 1).trans rfl, (blk_cell BK228.out 2).trans rfl, (blk_cell BK229.out 0).trans rfl, (blk_cell BK229.out 1).trans rfl, (blk_cell BK229.out 2).trans rfl⟩ (fun hHeld => ?_)
          clear hK K
          refine norm_ (a' := ?_) ?_ ?_
          rotate_left
          ·show Act.put _ (some 23) _ = _
           simp only [Act.put, List.setIfInBounds_toArray, List.set_cons_zero, List.set_cons_succ, i64_w, i32_w]
           rfl
          refine one_ (i := 5) (N := some 24) #[true, true, true, true, true, true, false, false] rfl rfl (one_of HT_.out (by kernel_rfl)) (by decide) (fun K hK => ?_)
          refine box_step ?hg (N := 24) ?hd (cs := #[.int .i64 0, .int .i64 0]) (t := 28) ?hr ?_; (case hd => rfl); (case hg => rfl); (case hr => first | (go_simp; done) | (go_simp; rfl))
          intro gb243 hg w63 hbox hb
          have n0_ := Aside0.mk (bkB BK228.out hb)
          have n1_ := Aside0.mk (bkB BK229.out hb)
          have n2_ := Aside0.mk (bkB BK233.out hb)
          have n3_ := Aside0.mk (bkB BK241.out hb)
          have n4_ := Aside0.mk (bkB BK242.out hb)
          have n5_ := Aside0.mk (below_step (belS HB.out) hb)
          have n6_ := Aside0.mk (hbox)
          have n7_ := Aside0.mk (szB hg HB.out)
          have n8_ := Aside0.mk (szB hg HB.out)
          have n9_ := Aside0.mk ((bk1 hg BK228.out))
          have n10_ := Aside0.mk ((bk2 hg BK228.out))
          have n11_ := Aside0.mk ((bk1 hg BK229.out))
          have n12_ := Aside0.mk ((bk2 hg BK229.out))
          have n13_ := Aside0.mk ((bk1 hg BK233.out))
          have n14_ := Aside0.mk ((bk2 hg BK233.out))
          have n15_ := Aside0.mk ((bk1 hg BK241.out))
          have n16_ := Aside0.mk ((bk2 hg BK241.out))
          have n17_ := Aside0.mk ((bk1 hg BK242.out))
          have n18_ := Aside0.mk ((bk2 hg BK242.out))
          clear BK228
          clear BK229
          clear BK233
          clear BK241
          clear BK242
          clear HB
          have BK228 := n0_
          have BK229 := n1_
          have BK233 := n2_
          have BK241 := n3_
          have BK242 := n4_
          have HB := n5_
          have BK243 := n6_
          have GW243 := n7_
          have GE243 := n8_
          have NB228_243 := n9_
          have NB243_228 := n10_
          have NB229_243 := n11_
          have NB243_229 := n12_
          have NB233_243 := n13_
          have NB243_233 := n14_
          have NB241_243 := n15_
          have NB243_241 := n16_
          have NB242_243 := n17_
          have NB243_242 := n18_
          clear n0_ n1_ n2_ n3_ n4_ n5_ n6_ n7_ n8_ n9_ n10_ n11_ n12_ n13_ n14_ n15_ n16_ n17_ n18_
          clear hb hbox hg
          refine hK.out _ _ ⟨(blk_cell BK228.out 0).trans rfl, (blk_cell BK228.out 1).trans rfl, (blk_cell BK228.out 2).trans rfl, (blk_cell BK229.out 0).trans rfl, (blk_cell BK229.out 1).trans rfl, (blk_cell BK229.out 2).trans rfl⟩ (fun hHeld => ?_)
          clear hK K
          refine norm_ (a' := ?_) ?_ ?_
          rotate_left
          ·show Act.put _ (some 24) _ = _
           simp only [Act.put, List.setIfInBounds_toArray, List.set_cons_zero, List.set_cons_succ, i64_w, i32_w]
           rfl
          exact norm_ (by simp only [putAll, Act.put, List.setIfInBounds_toArray, List.set_cons_zero, List.set_cons_succ]) (hCont (gb242, gb243) _ ⟨hHeld, (blkN BK228.out), (blkN BK229.out), (blkN BK233.out), (blkN BK241.out), (blkN BK242.out), (blkN BK243.out), GW242.out, GE242.out, NB228_242.out, NB242_228.out, NB229_242.out, NB242_229.out, NB233_242.out, NB242_233.out, NB241_242.out, NB242_241.out, NB243_242.out, NB242_243.out, GW243.out, GE243.out, NB228_243.out, NB243_228.out, NB229_243.out, NB243_229.out, NB233_243.out, NB243_233.out, NB241_243.out, NB243_241.out, (belS HB.out)⟩)
         ·skip
          refine box_step ?hg (N := 24) ?hd (cs := #[.int .i64 0, .int .i64 0]) (t := 28) ?hr ?_; (case hd => rfl); (case hg => rfl); (case hr => first | (go_simp; done) | (go_simp; rfl))
          intro gb243 hg w62 hbox hb
          have n0_ := Aside0.mk (bkB BK228.out hb)
          have n1_ := Aside0.mk (bkB BK229.out hb)
          have n2_ := Aside0.mk (bkB BK233.out hb)
          have n3_ := Aside0.mk (bkB BK241.out hb)
          have n4_ := Aside0.mk (below_step (belS HB.out) hb)
          have n5_ := Aside0.mk (hbox)
          have n6_ := Aside0.mk (szB hg HB.out)
          have n7_ := Aside0.mk (szB hg HB.out)
          have n8_ := Aside0.mk ((bk1 hg BK228.out))
          have n9_ := Aside0.mk ((bk2 hg BK228.out))
          have n10_ := Aside0.mk ((bk1 hg BK229.out))
          have n11_ := Aside0.mk ((bk2 hg BK229.out))
          have n12_ := Aside0.mk ((bk1 hg BK233.out))
          have n13_ := Aside0.mk ((bk2 hg BK233.out))
          have n14_ := Aside0.mk ((bk1 hg BK241.out))
          have n15_ := Aside0.mk ((bk2 hg BK241.out))
          clear BK228
          clear BK229
          clear BK233
          clear BK241
          clear HB
          have BK228 := n0_
          have BK229 := n1_
          have BK233 := n2_
          have BK241 := n3_
          have HB := n4_
          have BK243 := n5_
          have GW243 := n6_
          have GE243 := n7_
          have NB228_243 := n8_
          have NB243_228 := n9_
          have NB229_243 := n10_
          have NB243_229 := n11_
          have NB233_243 := n12_
          have NB243_233 := n13_
          have NB241_243 := n14_
          have NB243_241 := n15_
          clear n0_ n1_ n2_ n3_ n4_ n5_ n6_ n7_ n8_ n9_ n10_ n11_ n12_ n13_ n14_ n15_
          clear hb hbox hg
          refine hK.out _ _ ⟨(blk_cell BK228.out 0).trans rfl, (blk_cell BK228.out 1).trans rfl, (blk_cell BK228.out 2).trans rfl, (blk_cell BK229.out 0).trans rfl, (blk_cell BK229.out 1).trans rfl, (blk_cell BK229.out 2).trans rfl⟩ (fun hHeld => ?_)
          clear hK K
          refine norm_ (a' := ?_) ?_ ?_
          rotate_left
          ·show Act.put _ (some 24) _ = _
           simp only [Act.put, List.setIfInBounds_toArray, List.set_cons_zero, List.set_cons_succ, i64_w, i32_w]
           rfl
          refine one_ (i := 4) (N := some 23) #[true, true, true, true, true, true, false, false] rfl rfl (one_of HT_.out (by kernel_rfl)) (by decide) (fun K hK => ?_)
          refine box_step ?hg (N := 23) ?hd (cs := #[.int .i64 0, .int .i64 0]) (t := 28) ?hr ?_; (case hd => rfl); (case hg => rfl); (case hr => first | (go_simp; done) | (go_simp; rfl))
          intro gb242 hg w63 hbox hb
          have n0_ := Aside0.mk (bkB BK228.out hb)
          have n1_ := Aside0.mk (bkB BK229.out hb)
          have n2_ := Aside0.mk (bkB BK233.out hb)
          have n3_ := Aside0.mk (bkB BK241.out hb)
          have n4_ := Aside0.mk (bkB BK243.out hb)
          have n5_ := Aside0.mk (below_step (belS HB.out) hb)
          have n6_ := Aside0.mk (hbox)
          have n7_ := Aside0.mk (szB hg HB.out)
          have n8_ := Aside0.mk (szB hg HB.out)
          have n9_ := Aside0.mk ((bk1 hg BK228.out))
          have n10_ := Aside0.mk ((bk2 hg BK228.out))
          have n11_ := Aside0.mk ((bk1 hg BK229.out))
          have n12_ := Aside0.mk ((bk2 hg BK229.out))
          have n13_ := Aside0.mk ((bk1 hg BK233.out))
          have n14_ := Aside0.mk ((bk2 hg BK233.out))
          have n15_ := Aside0.mk ((bk1 hg BK241.out))
          have n16_ := Aside0.mk ((bk2 hg BK241.out))
          have n17_ := Aside0.mk ((bk1 hg BK243.out))
          have n18_ := Aside0.mk ((bk2 hg BK243.out))
          clear BK228
          clear BK229
          clear BK233
          clear BK241
          clear BK243
          clear HB
          have BK228 := n0_
          have BK229 := n1_
          have BK233 := n2_
          have BK241 := n3_
          have BK243 := n4_
          have HB := n5_
          have BK242 := n6_
          have GW242 := n7_
          have GE242 := n8_
          have NB228_242 := n9_
          have NB242_228 := n10_
          have NB229_242 := n11_
          have NB242_229 := n12_
          have NB233_242 := n13_
          have NB242_233 := n14_
          have NB241_242 := n15_
          have NB242_241 := n16_
          have NB243_242 := n17_
          have NB242_243 := n18_
          clear n0_ n1_ n2_ n3_ n4_ n5_ n6_ n7_ n8_ n9_ n10_ n11_ n12_ n13_ n14_ n15_ n16_ n17_ n18_
          clear hb hbox hg
          refine hK.out _ _ ⟨(blk_cell BK228.out 0).trans rfl, (blk_cell BK228.out 1).trans rfl, (blk_cell BK228.out 2).trans rfl, (blk_cell BK229.out 0).trans rfl, (blk_cell BK229.out 1).trans rfl, (blk_cell BK229.out 2).trans rfl⟩ (fun hHeld => ?_)
          clear hK K
          refine norm_ (a' := ?_) ?_ ?_
          rotate_left
          ·show Act.put _ (some 23) _ = _
           simp only [Act.put, List.setIfInBounds_toArray, List.set_cons_zero, List.set_cons_succ, i64_w, i32_w]
           rfl
          exact norm_ (by simp only [putAll, Act.put, List.setIfInBounds_toArray, List.set_cons_zero, List.set_cons_succ]) (hCont (gb242, gb243) _ ⟨hHeld, (blkN BK228.out), (blkN BK229.out), (blkN BK233.out), (blkN BK241.out), (blkN BK242.out), (blkN BK243.out), GW242.out, GE242.out, NB228_242.out, NB242_228.out, NB229_242.out, NB242_229.out, NB233_242.out, NB242_233.out, NB241_242.out, NB242_241.out, NB243_242.out, NB242_243.out, GW243.out, GE243.out, NB228_243.out, NB243_228.out, NB229_243.out, NB243_229.out, NB233_243.out, NB243_233.out, NB241_243.out, NB243_241.out, (belS HB.out)⟩)
        rintro ⟨gb242, gb243⟩ w64 ⟨hS_, h0_, h1_, h2_, h3_, h4_, h5_, h6_, h7_, h8_, h9_, h10_, h11_, h12_, h13_, h14_, h15_, h16_, h17_, h18_, h19_, h20_, h21_, h22_, h23_, h24_, h25_, h26_, h27_, h28_⟩
        have n0_ : Aside0 (w64.heap[gb228]? = some (.cells #[.int .i64 t225, .int .i64 (wrap64 (t224 + (wrap64 (t223 * t225)))), .int .i64 1] 30 (0, 0))) := ⟨h0_⟩
        have n1_ : Aside0 (w64.heap[gb229]? = some (.cells #[.int .i64 (wrap64 (t225 + t226)), .int .i64 (wrap64 (t224 + (wrap64 (t223 * (wrap64 (t225 + t226)))))), .int .i64 1] 30 (0, 0))) := ⟨h1_⟩
        have n2_ : Aside0 (w64.heap[gb233]? = some (.cells #[.int .i64 t230, .int .i64 t231] 28 (0, 0))) := ⟨h2_⟩
        have n3_ : Aside0 (w64.heap[gb241]? = some (.cells #[.int .i64 t237, .int .i64 t238] 28 (0, 0))) := ⟨h3_⟩
        have n4_ : Aside0 (w64.heap[gb242]? = some (.cells #[.int .i64 0, .int .i64 0] 28 (0, 0))) := ⟨h4_⟩
        have n5_ : Aside0 (w64.heap[gb243]? = some (.cells #[.int .i64 0, .int .i64 0] 28 (0, 0))) := ⟨h5_⟩
        have n6_ : Aside0 (w.heap.size ≤ gb242) := ⟨h6_⟩
        have n7_ : Aside0 (w.heap.size ≤ gb242) := ⟨h7_⟩
        have n8_ : Aside0 (gb228 ≠ gb242) := ⟨h8_⟩
        have n9_ : Aside0 (gb242 ≠ gb228) := ⟨h9_⟩
        have n10_ : Aside0 (gb229 ≠ gb242) := ⟨h10_⟩
        have n11_ : Aside0 (gb242 ≠ gb229) := ⟨h11_⟩
        have n12_ : Aside0 (gb233 ≠ gb242) := ⟨h12_⟩
        have n13_ : Aside0 (gb242 ≠ gb233) := ⟨h13_⟩
        have n14_ : Aside0 (gb241 ≠ gb242) := ⟨h14_⟩
        have n15_ : Aside0 (gb242 ≠ gb241) := ⟨h15_⟩
        have n16_ : Aside0 (gb243 ≠ gb242) := ⟨h16_⟩
        have n17_ : Aside0 (gb242 ≠ gb243) := ⟨h17_⟩
        have n18_ : Aside0 (w.heap.size ≤ gb243) := ⟨h18_⟩
        have n19_ : Aside0 (w.heap.size ≤ gb243) := ⟨h19_⟩
        have n20_ : Aside0 (gb228 ≠ gb243) := ⟨h20_⟩
        have n21_ : Aside0 (gb243 ≠ gb228) := ⟨h21_⟩
        have n22_ : Aside0 (gb229 ≠ gb243) := ⟨h22_⟩
        have n23_ : Aside0 (gb243 ≠ gb229) := ⟨h23_⟩
        have n24_ : Aside0 (gb233 ≠ gb243) := ⟨h24_⟩
        have n25_ : Aside0 (gb243 ≠ gb233) := ⟨h25_⟩
        have n26_ : Aside0 (gb241 ≠ gb243) := ⟨h26_⟩
        have n27_ : Aside0 (gb243 ≠ gb241) := ⟨h27_⟩
        have n28_ : Aside0 (Below w.heap.size w w64) := ⟨h28_⟩
        clear BK228
        clear BK229
        clear BK233
        clear BK241
        clear HB
        clear h0_ h1_ h2_ h3_ h4_ h5_ h6_ h7_ h8_ h9_ h10_ h11_ h12_ h13_ h14_ h15_ h16_ h17_ h18_ h19_ h20_ h21_ h22_ h23_ h24_ h25_ h26_ h27_ h28_
        have BK228 := n0_
        have BK229 := n1_
        have BK233 := n2_
        have BK241 := n3_
        have BK242 := n4_
        have BK243 := n5_
        have GW242 := n6_
        have GE242 := n7_
        have NB228_242 := n8_
        have NB242_228 := n9_
        have NB229_242 := n10_
        have NB242_229 := n11_
        have NB233_242 := n12_
        have NB242_233 := n13_
        have NB241_242 := n14_
        have NB242_241 := n15_
        have NB243_242 := n16_
        have NB242_243 := n17_
        have GW243 := n18_
        have GE243 := n19_
        have NB228_243 := n20_
        have NB243_228 := n21_
        have NB229_243 := n22_
        have NB243_229 := n23_
        have NB233_243 := n24_
        have NB243_233 := n25_
        have NB241_243 := n26_
        have NB243_241 := n27_
        have HB := n28_
        clear n0_ n1_ n2_ n3_ n4_ n5_ n6_ n7_ n8_ n9_ n10_ n11_ n12_ n13_ n14_ n15_ n16_ n17_ n18_ n19_ n20_ n21_ n22_ n23_ n24_ n25_ n26_ n27_ n28_
        have hHeld : w64.cell? ⟨gb228, 0, none⟩ = some (.int .i64 t225) ∧ w64.cell? ⟨gb228, 1, none⟩ = some (.int .i64 (wrap64 (t224 + (wrap64 (t223 * t225))))) ∧ w64.cell? ⟨gb228, 2, none⟩ = some (.int .i64 1) ∧ w64.cell? ⟨gb229, 0, none⟩ = some (.int .i64 (wrap64 (t225 + t226))) ∧ w64.cell? ⟨gb229, 1, none⟩ = some (.int .i64 (wrap64 (t224 + (wrap64 (t223 * (wrap64 (t225 + t226))))))) ∧ w64.cell? ⟨gb229, 2, none⟩ = some (.int .i64 1) := hS_
        refine norm_ (a' := ?_) ?_ ?_
        rotate_left
        ·simp only [putAll, Act.put, List.setIfInBounds_toArray, List.set_cons_zero, List.set_cons_succ]
         rfl
        refine one_ (i := 6) (N := none) #[true, true, true, true, true, true, true, false] rfl rfl (one_of HT_.out (by kernel_rfl)) (by decide) (fun K hK => ?_)
        have hs65 : w64.cell? ⟨gb242, 0, none⟩ = some (.int .i64 0) := (blk_cell BK242.out 0).trans rfl
        have hfs65 := blk_frozen BK242.out 0
        have hns65_0 := NB228_242.out
        have hns65_1 := NB229_242.out
        have hns65_2 := NB233_242.out
        have hns65_3 := NB241_242.out
        have hns65_5 := NB243_242.out
        have hms65_0 := NB242_228.out
        have hms65_1 := NB242_229.out
        have hms65_2 := NB242_233.out
        have hms65_3 := NB242_241.out
        have hms65_5 := NB242_243.out
        have hs66 : w64.cell? ⟨gb242, 1, none⟩ = some (.int .i64 0) := (blk_cell BK242.out 1).trans rfl
        have hfs66 := blk_frozen BK242.out 1
        have hns66_0 := NB228_242.out
        have hns66_1 := NB229_242.out
        have hns66_2 := NB233_242.out
        have hns66_3 := NB241_242.out
        have hns66_5 := NB243_242.out
        have hms66_0 := NB242_228.out
        have hms66_1 := NB242_229.out
        have hms66_2 := NB242_233.out
        have hms66_3 := NB242_241.out
        have hms66_5 := NB242_243.out
        refine skip_ (w1 := ?_) (by rfl) rfl ?_ ?_
        rotate_left
        ·go_simp
         rfl
        refine hK.out _ _ ⟨((cell_far (p := ⟨gb242, _, none⟩) NB228_242.out _).trans (((cell_far (p := ⟨gb242, _, none⟩) NB228_242.out _).trans (hHeld.1)))), ((cell_far (p := ⟨gb242, _, none⟩) NB228_242.out _).trans (((cell_far (p := ⟨gb242, _, none⟩) NB228_242.out _).trans (hHeld.2.1)))), ((cell_far (p := ⟨gb242, _, none⟩) NB228_242.out _).trans (((cell_far (p := ⟨gb242, _, none⟩) NB228_242.out _).trans (hHeld.2.2.1)))), ((cell_far (p := ⟨gb242, _, none⟩) NB229_242.out _).trans (((cell_far (p := ⟨gb242, _, none⟩) NB229_242.out _).trans (hHeld.2.2.2.1)))), ((cell_far (p := ⟨gb242, _, none⟩) NB229_242.out _).trans (((cell_far (p := ⟨gb242, _, none⟩) NB229_242.out _).trans (hHeld.2.2.2.2.1)))), ((cell_far (p := ⟨gb242, _, none⟩) NB229_242.out _).trans (((cell_far (p := ⟨gb242, _, none⟩) NB229_242.out _).trans (hHeld.2.2.2.2.2))))⟩ (fun hHeld => ?_)
        clear hK K
        refine one_ (i := 7) (N := none) #[true, true, true, true, true, true, true, true] rfl rfl (one_of HT_.out (by kernel_rfl)) (by decide) (fun K hK => ?_)
        have hs67 : w64.cell? ⟨gb243, 0, none⟩ = some (.int .i64 0) := (blk_cell BK243.out 0).trans rfl
        have hfs67 := blk_frozen BK243.out 0
        have hns67_0 := NB228_243.out
        have hns67_1 := NB229_243.out
        have hns67_2 := NB233_243.out
        have hns67_3 := NB241_243.out
        have hns67_4 := NB242_243.out
        have hms67_0 := NB243_228.out
        have hms67_1 := NB243_229.out
        have hms67_2 := NB243_233.out
        have hms67_3 := NB243_241.out
        have hms67_4 := NB243_242.out
        have hs68 : w64.cell? ⟨gb243, 1, none⟩ = some (.int .i64 0) := (blk_cell BK243.out 1).trans rfl
        have hfs68 := blk_frozen BK243.out 1
        have hns68_0 := NB228_243.out
        have hns68_1 := NB229_243.out
        have hns68_2 := NB233_243.out
        have hns68_3 := NB241_243.out
        have hns68_4 := NB242_243.out
        have hms68_0 := NB243_228.out
        have hms68_1 := NB243_229.out
        have hms68_2 := NB243_233.out
        have hms68_3 := NB243_241.out
        have hms68_4 := NB243_242.out
        refine skip_ (w1 := ?_) (by rfl) rfl ?_ ?_
        rotate_left
        ·go_simp
         rfl
        refine hK.out _ _ ⟨((cell_far (p := ⟨gb243, _, none⟩) NB228_243.out _).trans (((cell_far (p := ⟨gb243, _, none⟩) NB228_243.out _).trans (hHeld.1)))), ((cell_far (p := ⟨gb243, _, none⟩) NB228_243.out _).trans (((cell_far (p := ⟨gb243, _, none⟩) NB228_243.out _).trans (hHeld.2.1)))), ((cell_far (p := ⟨gb243, _, none⟩) NB228_243.out _).trans (((cell_far (p := ⟨gb243, _, none⟩) NB228_243.out _).trans (hHeld.2.2.1)))), ((cell_far (p := ⟨gb243, _, none⟩) NB229_243.out _).trans (((cell_far (p := ⟨gb243, _, none⟩) NB229_243.out _).trans (hHeld.2.2.2.1)))), ((cell_far (p := ⟨gb243, _, none⟩) NB229_243.out _).trans (((cell_far (p := ⟨gb243, _, none⟩) NB229_243.out _).trans (hHeld.2.2.2.2.1)))), ((cell_far (p := ⟨gb243, _, none⟩) NB229_243.out _).trans (((cell_far (p := ⟨gb243, _, none⟩) NB229_243.out _).trans (hHeld.2.2.2.2.2))))⟩ (fun hHeld => ?_)
        clear hK K
        refine done_ (done_of HT_.out (by kernel_rfl)) ?_
        have hnb69 := NB243_228.out
        have hnc69 := NB228_243.out
        have hnb70 := NB243_229.out
        have hnc70 := NB229_243.out
        have hnb71 := NB243_233.out
        have hnc71 := NB233_243.out
        have hnb72 := NB243_241.out
        have hnc72 := NB241_243.out
        have hnb73 := NB243_242.out
        have hnc73 := NB242_243.out
        have hcz74_0 : w64.cell? ⟨gb243, 0, none⟩ = some (.int .i64 0) := (blk_cell BK243.out 0).trans rfl
        have hcz74_1 : w64.cell? ⟨gb243, 1, none⟩ = some (.int .i64 0) := (blk_cell BK243.out 1).trans rfl
        have hfz74_0 := blk_frozen BK243.out 0
        have hfz74_1 := blk_frozen BK243.out 1
        have hnb75 := NB242_228.out
        have hnc75 := NB228_242.out
        have hnb76 := NB242_229.out
        have hnc76 := NB229_242.out
        have hnb77 := NB242_233.out
        have hnc77 := NB233_242.out
        have hnb78 := NB242_241.out
        have hnc78 := NB241_242.out
        have hcz79_0 : w64.cell? ⟨gb242, 0, none⟩ = some (.int .i64 0) := (blk_cell BK242.out 0).trans rfl
        have hcz79_1 : w64.cell? ⟨gb242, 1, none⟩ = some (.int .i64 0) := (blk_cell BK242.out 1).trans rfl
        have hfz79_0 := blk_frozen BK242.out 0
        have hfz79_1 := blk_frozen BK242.out 1
        have hnb80 := NB233_228.out
        have hnc80 := NB228_233.out
        have hnb81 := NB233_229.out
        have hnc81 := NB229_233.out
        have hnb82 := NB233_241.out
        have hnc82 := NB241_233.out
        have hcz83_0 : w64.cell? ⟨gb233, 0, none⟩ = some (.int .i64 t230) := (blk_cell BK233.out 0).trans rfl
        have hcz83_1 : w64.cell? ⟨gb233, 1, none⟩ = some (.int .i64 t231) := (blk_cell BK233.out 1).trans rfl
        have hfz83_0 := blk_frozen BK233.out 0
        have hfz83_1 := blk_frozen BK233.out 1
        have hq_a : ((((w64.setCell ⟨gb242, 0, none⟩ (.int .i64 (wrap64 (t224 + (wrap64 (t223 * t225)))))).setCell ⟨gb242, 1, none⟩ (.int .i64 1)).setCell ⟨gb243, 0, none⟩ (.int .i64 (wrap64 (t224 + (wrap64 (t223 * (wrap64 (t225 + t226)))))))).setCell ⟨gb243, 1, none⟩ (.int .i64 1)).cell? ⟨gb242, 0, none⟩ = some (.int .i64 (wrap64 (t224 + (wrap64 (t223 * t225))))) := by go_simp
        have hq_b : ((((w64.setCell ⟨gb242, 0, none⟩ (.int .i64 (wrap64 (t224 + (wrap64 (t223 * t225)))))).setCell ⟨gb242, 1, none⟩ (.int .i64 1)).setCell ⟨gb243, 0, none⟩ (.int .i64 (wrap64 (t224 + (wrap64 (t223 * (wrap64 (t225 + t226)))))))).setCell ⟨gb243, 1, none⟩ (.int .i64 1)).cell? ⟨gb242, 1, none⟩ = some (.int .i64 1) := by go_simp
        have hq_c : ((((w64.setCell ⟨gb242, 0, none⟩ (.int .i64 (wrap64 (t224 + (wrap64 (t223 * t225)))))).setCell ⟨gb242, 1, none⟩ (.int .i64 1)).setCell ⟨gb243, 0, none⟩ (.int .i64 (wrap64 (t224 + (wrap64 (t223 * (wrap64 (t225 + t226)))))))).setCell ⟨gb243, 1, none⟩ (.int .i64 1)).cell? ⟨gb243, 0, none⟩ = some (.int .i64 (wrap64 (t224 + (wrap64 (t223 * (wrap64 (t225 + t226))))))) := by go_simp
        have hq_d : ((((w64.setCell ⟨gb242, 0, none⟩ (.int .i64 (wrap64 (t224 + (wrap64 (t223 * t225)))))).setCell ⟨gb242, 1, none⟩ (.int .i64 1)).setCell ⟨gb243, 0, none⟩ (.int .i64 (wrap64 (t224 + (wrap64 (t223 * (wrap64 (t225 + t226)))))))).setCell ⟨gb243, 1, none⟩ (.int .i64 1)).cell? ⟨gb243, 1, none⟩ = some (.int .i64 1) := by go_simp
        try go_wp2_with (first | ((with_reducible refine gate_callee (f := 21) rfl ?_); refine goesL_ (some 111) rfl rfl Try.func21 (by kernel_rfl) rfl #[.agg #[.int .i64 (wrap64 (t224 + (wrap64 (t223 * (wrap64 (t225 + t226)))))), .int .i64 1], .agg #[.int .i64 t230, .int .i64 t231]] rfl argN ?_; (with_reducible refine (marigraphref1_Cmp.calls kj13 (wrap64 (t224 + (wrap64 (t223 * (wrap64 (t225 + t226)))))) 1 t230 t231 t244 _ A56.out).mono ?_); rintro e w84 ⟨rfl, hb⟩; refine ⟨_, rfl, ?_⟩; have n0_ := Aside0.mk (bkBF BK228.out hb); have n1_ := Aside0.mk (bkBF BK229.out hb); have n2_ := Aside0.mk (bkBF BK233.out hb); have n3_ := Aside0.mk (bkBF BK241.out hb); have n4_ := Aside0.mk (blk_below (g := gb242) (o := .cells #[.int .i64 (wrap64 (t224 + (wrap64 (t223 * (wrap64 (t225 + t226)))))), .int .i64 1] 28 (0, 0)) (by (with_reducible repeat (first | refine blk_drewN ?_ _ | refine blk_drew ?_ | refine blk_alloc ?_ _)); refine blk_far ?_ NB242_243.out _; (with_reducible repeat (first | refine blk_drewN ?_ _ | refine blk_drew ?_ | refine blk_alloc ?_ _)); refine blk_far ?_ NB242_243.out _; (with_reducible repeat (first | refine blk_drewN ?_ _ | refine blk_drew ?_ | refine blk_alloc ?_ _)); refine blk_put (cs := #[.int .i64 (wrap64 (t224 + (wrap64 (t223 * (wrap64 (t225 + t226)))))), .int .i64 1]) ?_ 1 _ rfl; (with_reducible repeat (first | refine blk_drewN ?_ _ | refine blk_drew ?_ | refine blk_alloc ?_ _)); refine blk_put (cs := #[.int .i64 (wrap64 (t224 + (wrap64 (t223 * t225)))), .int .i64 1]) ?_ 0 _ rfl; (with_reducible repeat (first | refine blk_drewN ?_ _ | refine blk_drew ?_ | refine blk_alloc ?_ _)); refine blk_far ?_ NB242_243.out _; (with_reducible repeat (first | refine blk_drewN ?_ _ | refine blk_drew ?_ | refine blk_alloc ?_ _)); refine blk_far ?_ NB242_243.out _; (with_reducible repeat (first | refine blk_drewN ?_ _ | refine blk_drew ?_ | refine blk_alloc ?_ _)); refine blk_put (cs := #[.int .i64 (wrap64 (t224 + (wrap64 (t223 * t225)))), .int .i64 0]) ?_ 1 _ rfl; (with_reducible repeat (first | refine blk_drewN ?_ _ | refine blk_drew ?_ | refine blk_alloc ?_ _)); refine blk_put (cs := #[.int .i64 0, .int .i64 0]) ?_ 0 _ rfl; (with_reducible repeat (first | refine blk_drewN ?_ _ | refine blk_drew ?_ | refine blk_alloc ?_ _)); exact BK242.out) hb); have n5_ := Aside0.mk (blk_below (g := gb243) (o := .cells #[.int .i64 (wrap64 (t224 + (wrap64 (t223 * t225)))), .int .i64 1] 28 (0, 0)) (by (with_reducible repeat (first | refine blk_drewN ?_ _ | refine blk_drew ?_ | refine blk_alloc ?_ _)); refine blk_put (cs := #[.int .i64 (wrap64 (t224 + (wrap64 (t223 * t225)))), .int .i64 1]) ?_ 1 _ rfl; (with_reducible repeat (first | refine blk_drewN ?_ _ | refine blk_drew ?_ | refine blk_alloc ?_ _)); refine blk_put (cs := #[.int .i64 (wrap64 (t224 + (wrap64 (t223 * (wrap64 (t225 + t226)))))), .int .i64 1]) ?_ 0 _ rfl; (with_reducible repeat (first | refine blk_drewN ?_ _ | refine blk_drew ?_ | refine blk_alloc ?_ _)); refine blk_far ?_ NB243_242.out _; (with_reducible repeat (first | refine blk_drewN ?_ _ | refine blk_drew ?_ | refine blk_alloc ?_ _)); refine blk_far ?_ NB243_242.out _; (with_reducible repeat (first | refine blk_drewN ?_ _ | refine blk_drew ?_ | refine blk_alloc ?_ _)); refine blk_put (cs := #[.int .i64 (wrap64 (t224 + (wrap64 (t223 * (wrap64 (t225 + t226)))))), .int .i64 0]) ?_ 1 _ rfl; (with_reducible repeat (first | refine blk_drewN ?_ _ | refine blk_drew ?_ | refine blk_alloc ?_ _)); refine blk_put (cs := #[.int .i64 0, .int .i64 0]) ?_ 0 _ rfl; (with_reducible repeat (first | refine blk_drewN ?_ _ | refine blk_drew ?_ | refine blk_alloc ?_ _)); refine blk_far ?_ NB243_242.out _; (with_reducible repeat (first | refine blk_drewN ?_ _ | refine blk_drew ?_ | refine blk_alloc ?_ _)); refine blk_far ?_ NB243_242.out _; (with_reducible repeat (first | refine blk_drewN ?_ _ | refine blk_drew ?_ | refine blk_alloc ?_ _)); exact BK243.out) hb); have n6_ := Aside0.mk (below_step (belS HB.out) hb); clear BK228; clear BK229; clear BK233; clear BK241; clear BK242; clear BK243; clear HB; have BK228 := n0_; have BK229 := n1_; have BK233 := n2_; have BK241 := n3_; have BK242 := n4_; have BK243 := n5_; have HB := n6_; clear n0_ n1_ n2_ n3_ n4_ n5_ n6_; (try clear hb); (try clear hb2); (try clear hk); (try clear hi); have hcz85_0 : w84.cell? ⟨gb233, 0, none⟩ = some (.int .i64 t230) := (blk_cell BK233.out 0).trans rfl; have hcz85_1 : w84.cell? ⟨gb233, 1, none⟩ = some (.int .i64 t231) := (blk_cell BK233.out 1).trans rfl; have hfz85_0 := blk_frozen BK233.out 0; have hfz85_1 := blk_frozen BK233.out 1; have hcz86_0 : w84.cell? ⟨gb243, 0, none⟩ = some (.int .i64 (wrap64 (t224 + (wrap64 (t223 * t225))))) := (blk_cell BK243.out 0).trans rfl; have hcz86_1 : w84.cell? ⟨gb243, 1, none⟩ = some (.int .i64 1) := (blk_cell BK243.out 1).trans rfl; have hfz86_0 := blk_frozen BK243.out 0; have hfz86_1 := blk_frozen BK243.out 1) | (go_at_call 21; (with_reducible refine (marigraphref1_Cmp.calls kj13 t230 t231 (wrap64 (t224 + (wrap64 (t223 * t225)))) 1 t245 _ A58.out).mono ?_); rintro e w87 ⟨rfl, hb⟩; have n0_ := Aside0.mk (bkB BK228.out hb); have n1_ := Aside0.mk (bkB BK229.out hb); have n2_ := Aside0.mk (bkB BK233.out hb); have n3_ := Aside0.mk (bkB BK241.out hb); have n4_ := Aside0.mk (bkB BK242.out hb); have n5_ := Aside0.mk (bkB BK243.out hb); have n6_ := Aside0.mk (below_step (belS HB.out) hb); clear BK228; clear BK229; clear BK233; clear BK241; clear BK242; clear BK243; clear HB; have BK228 := n0_; have BK229 := n1_; have BK233 := n2_; have BK241 := n3_; have BK242 := n4_; have BK243 := n5_; have HB := n6_; clear n0_ n1_ n2_ n3_ n4_ n5_ n6_; (try clear hb); (try clear hb2); (try clear hk); (try clear hi)) | (go_at_call 17; (with_reducible refine (marigraphlaw22_known.calls kj13  t246 _ A60.out).mono ?_); rintro e w88 ⟨rfl, hb⟩; have n0_ := Aside0.mk (bkB BK228.out hb); have n1_ := Aside0.mk (bkB BK229.out hb); have n2_ := Aside0.mk (bkB BK233.out hb); have n3_ := Aside0.mk (bkB BK241.out hb); have n4_ := Aside0.mk (bkB BK242.out hb); have n5_ := Aside0.mk (bkB BK243.out hb); have n6_ := Aside0.mk (below_step (belS HB.out) hb); clear BK228; clear BK229; clear BK233; clear BK241; clear BK242; clear BK243; clear HB; have BK228 := n0_; have BK229 := n1_; have BK233 := n2_; have BK241 := n3_; have BK242 := n4_; have BK243 := n5_; have HB := n6_; clear n0_ n1_ n2_ n3_ n4_ n5_ n6_; (try clear hb); (try clear hb2); (try clear hk); (try clear hi)))
        go_ret
        exact ⟨by first | rfl | (simp [errW_none, errW_some] <;> rfl) | (simp [*, errW_none, errW_some] <;> rfl), (belS HB.out)⟩
       ·rw [if_neg c59] at H
        have c59b0 : decide (t245 ≤ 0) = false := decide_eq_false c59
        clear c59
        obtain rfl := Option.some.inj H
        try go_wp2
        have n0_ := Aside0.mk (blk_drew BK228.out)
        have n1_ := Aside0.mk (blk_drew BK229.out)
        have n2_ := Aside0.mk (blk_drew BK233.out)
        have n3_ := Aside0.mk (blk_drew BK241.out)
        have n4_ := Aside0.mk (below_drew1 HB.out)
        clear BK228
        clear BK229
        clear BK233
        clear BK241
        clear HB
        have BK228 := n0_
        have BK229 := n1_
        have BK233 := n2_
        have BK241 := n3_
        have HB := n4_
        clear n0_ n1_ n2_ n3_ n4_
        refine start_ (n := 8) (S := fun w' => w'.cell? ⟨gb228, 0, none⟩ = some (.int .i64 t225) ∧ w'.cell? ⟨gb228, 1, none⟩ = some (.int .i64 (wrap64 (t224 + (wrap64 (t223 * t225))))) ∧ w'.cell? ⟨gb228, 2, none⟩ = some (.int .i64 1) ∧ w'.cell? ⟨gb229, 0, none⟩ = some (.int .i64 (wrap64 (t225 + t226))) ∧ w'.cell? ⟨gb229, 1, none⟩ = some (.int .i64 (wrap64 (t224 + (wrap64 (t223 * (wrap64 (t225 + t226))))))) ∧ w'.cell? ⟨gb229, 2, none⟩ = some (.int .i64 1)) (ds := []) #[false, false, false, false, false, false, false, false] (by kernel_rfl) rfl rfl ⟨(blk_cell BK228.out 0).trans rfl, (blk_cell BK228.out 1).trans rfl, (blk_cell BK228.out 2).trans rfl, (blk_cell BK229.out 0).trans rfl, (blk_cell BK229.out 1).trans rfl, (blk_cell BK229.out 2).trans rfl⟩ (fun hHeld => ?_); refine with_tabW marigraphlaw22_LerpLines.tab10 marigraphlaw22_LerpLines.bits10 (fun HT_ HW_ => ?_)
        generalize wc.drew = w89 at BK228 BK229 BK233 BK241 HB hHeld ⊢
        refine pure_ (i := 0) (N := some 101) (v := ?_) (a' := ?_) #[true, false, false, false, false, false, false, false] rfl rfl (any_of HT_.out (by kernel_rfl)) (fun _ _ _ h => h) (Or.inl ⟨by rfl, ?_⟩) ?_ ?_
        rotate_left
        ·intro w'
         go_simp
         with_reducible rfl
        rotate_left
        ·simp only [Act.put, List.setIfInBounds_toArray, List.set_cons_zero, List.set_cons_succ, i64_w, i32_w]
         rfl
        refine pure_ (i := 2) (N := some 103) (v := ?_) (a' := ?_) #[true, false, true, false, false, false, false, false] rfl rfl (any_of HT_.out (by kernel_rfl)) (fun _ _ _ h => h) (Or.inl ⟨by rfl, ?_⟩) ?_ ?_
        rotate_left
        ·intro w'
         go_simp
         with_reducible rfl
        rotate_left
        ·simp only [Act.put, List.setIfInBounds_toArray, List.set_cons_zero, List.set_cons_succ, i64_w, i32_w]
         rfl
        refine take_ (i := 1) (N := some 102) (v := ?_) (a' := ?_) #[true, true, true, false, false, false, false, false] rfl rfl (take_ofW HT_.out HW_.out (by kernel_rfl)) (fun _ _ _ h => h) (Or.inl ⟨by rfl, ?_⟩) hHeld ?_ ?_
        rotate_left
        ·rintro w' ⟨s0, s1, s2, s3, s4, s5⟩
         go_simp
         with_reducible rfl
        rotate_left
        ·simp only [Act.put, List.setIfInBounds_toArray, List.set_cons_zero, List.set_cons_succ, i64_w, i32_w]
         rfl
        refine take_ (i := 3) (N := some 104) (v := ?_) (a' := ?_) #[true, true, true, true, false, false, false, false] rfl rfl (take_ofW HT_.out HW_.out (by kernel_rfl)) (fun _ _ _ h => h) (Or.inl ⟨by rfl, ?_⟩) hHeld ?_ ?_
        rotate_left
        ·rintro w' ⟨s0, s1, s2, s3, s4, s5⟩
         go_simp
         with_reducible rfl
        rotate_left
        ·simp only [Act.put, List.setIfInBounds_toArray, List.set_cons_zero, List.set_cons_succ, i64_w, i32_w]
         rfl
        refine join_ (σ := Nat × Nat) 2 #[true, true, true, true, true, true, false, false] (fun s_ => [(23, .pointer (some ⟨s_.1, 0, none⟩)), (24, .pointer (some ⟨s_.2, 0, none⟩))]) (fun s_ w' => (w'.cell? ⟨gb228, 0, none⟩ = some (.int .i64 t225) ∧ w'.cell? ⟨gb228, 1, none⟩ = some (.int .i64 (wrap64 (t224 + (wrap64 (t223 * t225))))) ∧ w'.cell? ⟨gb228, 2, none⟩ = some (.int .i64 1) ∧ w'.cell? ⟨gb229, 0, none⟩ = some (.int .i64 (wrap64 (t225 + t226))) ∧ w'.cell? ⟨gb229, 1, none⟩ = some (.int .i64 (wrap64 (t224 + (wrap64 (t223 * (wrap64 (t225 + t226))))))) ∧ w'.cell? ⟨gb229, 2, none⟩ = some (.int .i64 1)) ∧ (w'.heap[gb228]? = some (.cells #[.int .i64 t225, .int .i64 (wrap64 (t224 + (wrap64 (t223 * t225)))), .int .i64 1] 30 (0, 0))) ∧ (w'.heap[gb229]? = some (.cells #[.int .i64 (wrap64 (t225 + t226)), .int .i64 (wrap64 (t224 + (wrap64 (t223 * (wrap64 (t225 + t226)))))), .int .i64 1] 30 (0, 0))) ∧ (w'.heap[gb233]? = some (.cells #[.int .i64 t230, .int .i64 t231] 28 (0, 0))) ∧ (w'.heap[gb241]? = some (.cells #[.int .i64 t237, .int .i64 t238] 28 (0, 0))) ∧ (w'.heap[s_.1]? = some (.cells #[.int .i64 0, .int .i64 0] 28 (0, 0))) ∧ (w'.heap[s_.2]? = some (.cells #[.int .i64 0, .int .i64 0] 28 (0, 0))) ∧ (w.heap.size ≤ s_.1) ∧ (w.heap.size ≤ s_.1) ∧ (gb228 ≠ s_.1) ∧ (s_.1 ≠ gb228) ∧ (gb229 ≠ s_.1) ∧ (s_.1 ≠ gb229) ∧ (gb233 ≠ s_.1) ∧ (s_.1 ≠ gb233) ∧ (gb241 ≠ s_.1) ∧ (s_.1 ≠ gb241) ∧ (s_.2 ≠ s_.1) ∧ (s_.1 ≠ s_.2) ∧ (w.heap.size ≤ s_.2) ∧ (w.heap.size ≤ s_.2) ∧ (gb228 ≠ s_.2) ∧ (s_.2 ≠ gb228) ∧ (gb229 ≠ s_.2) ∧ (s_.2 ≠ gb229) ∧ (gb233 ≠ s_.2) ∧ (s_.2 ≠ gb233) ∧ (gb241 ≠ s_.2) ∧ (s_.2 ≠ gb241) ∧ (Below w.heap.size w w')) ?_ ?_
        rotate_left
        ·intro hCont
         refine two_ (i := 4) (j := 5) (Ni := some 23) (Nj := some 24) #[true, true, true, true, true, false, false, false] #[true, true, true, true, false, true, false, false] rfl rfl rfl rfl (two_of HT_.out (by kernel_rfl)) (by decide) (by decide) (fun K hK => ?_) (fun K hK => ?_)
         ·skip
          refine box_step ?hg (N := 23) ?hd (cs := #[.int .i64 0, .int .i64 0]) (t := 28) ?hr ?_; (case hd => rfl); (case hg => rfl); (case hr => first | (go_simp; done) | (go_simp; rfl))
          intro gb242 hg w90 hbox hb
          have n0_ := Aside0.mk (bkB BK228.out hb)
          have n1_ := Aside0.mk (bkB BK229.out hb)
          have n2_ := Aside0.mk (bkB BK233.out hb)
          have n3_ := Aside0.mk (bkB BK241.out hb)
          have n4_ := Aside0.mk (below_step (belS HB.out) hb)
          have n5_ := Aside0.mk (hbox)
          have n6_ := Aside0.mk (szB hg HB.out)
          have n7_ := Aside0.mk (szB hg HB.out)
          have n8_ := Aside0.mk ((bk1 hg BK228.out))
          have n9_ := Aside0.mk ((bk2 hg BK228.out))
          have n10_ := Aside0.mk ((bk1 hg BK229.out))
          have n11_ := Aside0.mk ((bk2 hg BK229.out))
          have n12_ := Aside0.mk ((bk1 hg BK233.out))
          have n13_ := Aside0.mk ((bk2 hg BK233.out))
          have n14_ := Aside0.mk ((bk1 hg BK241.out))
          have n15_ := Aside0.mk ((bk2 hg BK241.out))
          clear BK228
          clear BK229
          clear BK233
          clear BK241
          clear HB
          have BK228 := n0_
          have BK229 := n1_
          have BK233 := n2_
          have BK241 := n3_
          have HB := n4_
          have BK242 := n5_
          have GW242 := n6_
          have GE242 := n7_
          have NB228_242 := n8_
          have NB242_228 := n9_
          have NB229_242 := n10_
          have NB242_229 := n11_
          have NB233_242 := n12_
          have NB242_233 := n13_
          have NB241_242 := n14_
          have NB242_241 := n15_
          clear n0_ n1_ n2_ n3_ n4_ n5_ n6_ n7_ n8_ n9_ n10_ n11_ n12_ n13_ n14_ n15_
          clear hb hbox hg
          refine hK.out _ _ ⟨(blk_cell BK228.out 0).trans rfl, (blk_cell BK228.out 1).trans rfl, (blk_cell BK228.out 2).trans rfl, (blk_cell BK229.out 0).trans rfl, (blk_cell BK229.out 1).trans rfl, (blk_cell BK229.out 2).trans rfl⟩ (fun hHeld => ?_)
          clear hK K
          refine norm_ (a' := ?_) ?_ ?_
          rotate_left
          ·show Act.put _ (some 23) _ = _
           simp only [Act.put, List.setIfInBounds_toArray, List.set_cons_zero, List.set_cons_succ, i64_w, i32_w]
           rfl
          refine one_ (i := 5) (N := some 24) #[true, true, true, true, true, true, false, false] rfl rfl (one_of HT_.out (by kernel_rfl)) (by decide) (fun K hK => ?_)
          refine box_step ?hg (N := 24) ?hd (cs := #[.int .i64 0, .int .i64 0]) (t := 28) ?hr ?_; (case hd => rfl); (case hg => rfl); (case hr => first | (go_simp; done) | (go_simp; rfl))
          intro gb243 hg w91 hbox hb
          have n0_ := Aside0.mk (bkB BK228.out hb)
          have n1_ := Aside0.mk (bkB BK229.out hb)
          have n2_ := Aside0.mk (bkB BK233.out hb)
          have n3_ := Aside0.mk (bkB BK241.out hb)
          have n4_ := Aside0.mk (bkB BK242.out hb)
          have n5_ := Aside0.mk (below_step (belS HB.out) hb)
          have n6_ := Aside0.mk (hbox)
          have n7_ := Aside0.mk (szB hg HB.out)
          have n8_ := Aside0.mk (szB hg HB.out)
          have n9_ := Aside0.mk ((bk1 hg BK228.out))
          have n10_ := Aside0.mk ((bk2 hg BK228.out))
          have n11_ := Aside0.mk ((bk1 hg BK229.out))
          have n12_ := Aside0.mk ((bk2 hg BK229.out))
          have n13_ := Aside0.mk ((bk1 hg BK233.out))
          have n14_ := Aside0.mk ((bk2 hg BK233.out))
          have n15_ := Aside0.mk ((bk1 hg BK241.out))
          have n16_ := Aside0.mk ((bk2 hg BK241.out))
          have n17_ := Aside0.mk ((bk1 hg BK242.out))
          have n18_ := Aside0.mk ((bk2 hg BK242.out))
          clear BK228
          clear BK229
          clear BK233
          clear BK241
          clear BK242
          clear HB
          have BK228 := n0_
          have BK229 := n1_
          have BK233 := n2_
          have BK241 := n3_
          have BK242 := n4_
          have HB := n5_
          have BK243 := n6_
          have GW243 := n7_
          have GE243 := n8_
          have NB228_243 := n9_
          have NB243_228 := n10_
          have NB229_243 := n11_
          have NB243_229 := n12_
          have NB233_243 := n13_
          have NB243_233 := n14_
          have NB241_243 := n15_
          have NB243_241 := n16_
          have NB242_243 := n17_
          have NB243_242 := n18_
          clear n0_ n1_ n2_ n3_ n4_ n5_ n6_ n7_ n8_ n9_ n10_ n11_ n12_ n13_ n14_ n15_ n16_ n17_ n18_
          clear hb hbox hg
          refine hK.out _ _ ⟨(blk_cell BK228.out 0).trans rfl, (blk_cell BK228.out 1).trans rfl, (blk_cell BK228.out 2).trans rfl, (blk_cell BK229.out 0).trans rfl, (blk_cell BK229.out 1).trans rfl, (blk_cell BK229.out 2).trans rfl⟩ (fun hHeld => ?_)
          clear hK K
          refine norm_ (a' := ?_) ?_ ?_
          rotate_left
          ·show Act.put _ (some 24) _ = _
           simp only [Act.put, List.setIfInBounds_toArray, List.set_cons_zero, List.set_cons_succ, i64_w, i32_w]
           rfl
          exact norm_ (by simp only [putAll, Act.put, List.setIfInBounds_toArray, List.set_cons_zero, List.set_cons_succ]) (hCont (gb242, gb243) _ ⟨hHeld, (blkN BK228.out), (blkN BK229.out), (blkN BK233.out), (blkN BK241.out), (blkN BK242.out), (blkN BK243.out), GW242.out, GE242.out, NB228_242.out, NB242_228.out, NB229_242.out, NB242_229.out, NB233_242.out, NB242_233.out, NB241_242.out, NB242_241.out, NB243_242.out, NB242_243.out, GW243.out, GE243.out, NB228_243.out, NB243_228.out, NB229_243.out, NB243_229.out, NB233_243.out, NB243_233.out, NB241_243.out, NB243_241.out, (belS HB.out)⟩)
         ·skip
          refine box_step ?hg (N := 24) ?hd (cs := #[.int .i64 0, .int .i64 0]) (t := 28) ?hr ?_; (case hd => rfl); (case hg => rfl); (case hr => first | (go_simp; done) | (go_simp; rfl))
          intro gb243 hg w90 hbox hb
          have n0_ := Aside0.mk (bkB BK228.out hb)
          have n1_ := Aside0.mk (bkB BK229.out hb)
          have n2_ := Aside0.mk (bkB BK233.out hb)
          have n3_ := Aside0.mk (bkB BK241.out hb)
          have n4_ := Aside0.mk (below_step (belS HB.out) hb)
          have n5_ := Aside0.mk (hbox)
          have n6_ := Aside0.mk (szB hg HB.out)
          have n7_ := Aside0.mk (szB hg HB.out)
          have n8_ := Aside0.mk ((bk1 hg BK228.out))
          have n9_ := Aside0.mk ((bk2 hg BK228.out))
          have n10_ := Aside0.mk ((bk1 hg BK229.out))
          have n11_ := Aside0.mk ((bk2 hg BK229.out))
          have n12_ := Aside0.mk ((bk1 hg BK233.out))
          have n13_ := Aside0.mk ((bk2 hg BK233.out))
          have n14_ := Aside0.mk ((bk1 hg BK241.out))
          have n15_ := Aside0.mk ((bk2 hg BK241.out))
          clear BK228
          clear BK229
          clear BK233
          clear BK241
          clear HB
          have BK228 := n0_
          have BK229 := n1_
          have BK233 := n2_
          have BK241 := n3_
          have HB := n4_
          have BK243 := n5_
          have GW243 := n6_
          have GE243 := n7_
          have NB228_243 := n8_
          have NB243_228 := n9_
          have NB229_243 := n10_
          have NB243_229 := n11_
          have NB233_243 := n12_
          have NB243_233 := n13_
          have NB241_243 := n14_
          have NB243_241 := n15_
          clear n0_ n1_ n2_ n3_ n4_ n5_ n6_ n7_ n8_ n9_ n10_ n11_ n12_ n13_ n14_ n15_
          clear hb hbox hg
          refine hK.out _ _ ⟨(blk_cell BK228.out 0).trans rfl, (blk_cell BK228.out 1).trans rfl, (blk_cell BK228.out 2).trans rfl, (blk_cell BK229.out 0).trans rfl, (blk_cell BK229.out 1).trans rfl, (blk_cell BK229.out 2).trans rfl⟩ (fun hHeld => ?_)
          clear hK K
          refine norm_ (a' := ?_) ?_ ?_
          rotate_left
          ·show Act.put _ (some 24) _ = _
           simp only [Act.put, List.setIfInBounds_toArray, List.set_cons_zero, List.set_cons_succ, i64_w, i32_w]
           rfl
          refine one_ (i := 4) (N := some 23) #[true, true, true, true, true, true, false, false] rfl rfl (one_of HT_.out (by kernel_rfl)) (by decide) (fun K hK => ?_)
          refine box_step ?hg (N := 23) ?hd (cs := #[.int .i64 0, .int .i64 0]) (t := 28) ?hr ?_; (case hd => rfl); (case hg => rfl); (case hr => first | (go_simp; done) | (go_simp; rfl))
          intro gb242 hg w91 hbox hb
          have n0_ := Aside0.mk (bkB BK228.out hb)
          have n1_ := Aside0.mk (bkB BK229.out hb)
          have n2_ := Aside0.mk (bkB BK233.out hb)
          have n3_ := Aside0.mk (bkB BK241.out hb)
          have n4_ := Aside0.mk (bkB BK243.out hb)
          have n5_ := Aside0.mk (below_step (belS HB.out) hb)
          have n6_ := Aside0.mk (hbox)
          have n7_ := Aside0.mk (szB hg HB.out)
          have n8_ := Aside0.mk (szB hg HB.out)
          have n9_ := Aside0.mk ((bk1 hg BK228.out))
          have n10_ := Aside0.mk ((bk2 hg BK228.out))
          have n11_ := Aside0.mk ((bk1 hg BK229.out))
          have n12_ := Aside0.mk ((bk2 hg BK229.out))
          have n13_ := Aside0.mk ((bk1 hg BK233.out))
          have n14_ := Aside0.mk ((bk2 hg BK233.out))
          have n15_ := Aside0.mk ((bk1 hg BK241.out))
          have n16_ := Aside0.mk ((bk2 hg BK241.out))
          have n17_ := Aside0.mk ((bk1 hg BK243.out))
          have n18_ := Aside0.mk ((bk2 hg BK243.out))
          clear BK228
          clear BK229
          clear BK233
          clear BK241
          clear BK243
          clear HB
          have BK228 := n0_
          have BK229 := n1_
          have BK233 := n2_
          have BK241 := n3_
          have BK243 := n4_
          have HB := n5_
          have BK242 := n6_
          have GW242 := n7_
          have GE242 := n8_
          have NB228_242 := n9_
          have NB242_228 := n10_
          have NB229_242 := n11_
          have NB242_229 := n12_
          have NB233_242 := n13_
          have NB242_233 := n14_
          have NB241_242 := n15_
          have NB242_241 := n16_
          have NB243_242 := n17_
          have NB242_243 := n18_
          clear n0_ n1_ n2_ n3_ n4_ n5_ n6_ n7_ n8_ n9_ n10_ n11_ n12_ n13_ n14_ n15_ n16_ n17_ n18_
          clear hb hbox hg
          refine hK.out _ _ ⟨(blk_cell BK228.out 0).trans rfl, (blk_cell BK228.out 1).trans rfl, (blk_cell BK228.out 2).trans rfl, (blk_cell BK229.out 0).trans rfl, (blk_cell BK229.out 1).trans rfl, (blk_cell BK229.out 2).trans rfl⟩ (fun hHeld => ?_)
          clear hK K
          refine norm_ (a' := ?_) ?_ ?_
          rotate_left
          ·show Act.put _ (some 23) _ = _
           simp only [Act.put, List.setIfInBounds_toArray, List.set_cons_zero, List.set_cons_succ, i64_w, i32_w]
           rfl
          exact norm_ (by simp only [putAll, Act.put, List.setIfInBounds_toArray, List.set_cons_zero, List.set_cons_succ]) (hCont (gb242, gb243) _ ⟨hHeld, (blkN BK228.out), (blkN BK229.out), (blkN BK233.out), (blkN BK241.out), (blkN BK242.out), (blkN BK243.out), GW242.out, GE242.out, NB228_242.out, NB242_228.out, NB229_242.out, NB242_229.out, NB233_242.out, NB242_233.out, NB241_242.out, NB242_241.out, NB243_242.out, NB242_243.out, GW243.out, GE243.out, NB228_243.out, NB243_228.out, NB229_243.out, NB243_229.out, NB233_243.out, NB243_233.out, NB241_243.out, NB243_241.out, (belS HB.out)⟩)
        rintro ⟨gb242, gb243⟩ w92 ⟨hS_, h0_, h1_, h2_, h3_, h4_, h5_, h6_, h7_, h8_, h9_, h10_, h11_, h12_, h13_, h14_, h15_, h16_, h17_, h18_, h19_, h20_, h21_, h22_, h23_, h24_, h25_, h26_, h27_, h28_⟩
        have n0_ : Aside0 (w92.heap[gb228]? = some (.cells #[.int .i64 t225, .int .i64 (wrap64 (t224 + (wrap64 (t223 * t225)))), .int .i64 1] 30 (0, 0))) := ⟨h0_⟩
        have n1_ : Aside0 (w92.heap[gb229]? = some (.cells #[.int .i64 (wrap64 (t225 + t226)), .int .i64 (wrap64 (t224 + (wrap64 (t223 * (wrap64 (t225 + t226)))))), .int .i64 1] 30 (0, 0))) := ⟨h1_⟩
        have n2_ : Aside0 (w92.heap[gb233]? = some (.cells #[.int .i64 t230, .int .i64 t231] 28 (0, 0))) := ⟨h2_⟩
        have n3_ : Aside0 (w92.heap[gb241]? = some (.cells #[.int .i64 t237, .int .i64 t238] 28 (0, 0))) := ⟨h3_⟩
        have n4_ : Aside0 (w92.heap[gb242]? = some (.cells #[.int .i64 0, .int .i64 0] 28 (0, 0))) := ⟨h4_⟩
        have n5_ : Aside0 (w92.heap[gb243]? = some (.cells #[.int .i64 0, .int .i64 0] 28 (0, 0))) := ⟨h5_⟩
        have n6_ : Aside0 (w.heap.size ≤ gb242) := ⟨h6_⟩
        have n7_ : Aside0 (w.heap.size ≤ gb242) := ⟨h7_⟩
        have n8_ : Aside0 (gb228 ≠ gb242) := ⟨h8_⟩
        have n9_ : Aside0 (gb242 ≠ gb228) := ⟨h9_⟩
        have n10_ : Aside0 (gb229 ≠ gb242) := ⟨h10_⟩
        have n11_ : Aside0 (gb242 ≠ gb229) := ⟨h11_⟩
        have n12_ : Aside0 (gb233 ≠ gb242) := ⟨h12_⟩
        have n13_ : Aside0 (gb242 ≠ gb233) := ⟨h13_⟩
        have n14_ : Aside0 (gb241 ≠ gb242) := ⟨h14_⟩
        have n15_ : Aside0 (gb242 ≠ gb241) := ⟨h15_⟩
        have n16_ : Aside0 (gb243 ≠ gb242) := ⟨h16_⟩
        have n17_ : Aside0 (gb242 ≠ gb243) := ⟨h17_⟩
        have n18_ : Aside0 (w.heap.size ≤ gb243) := ⟨h18_⟩
        have n19_ : Aside0 (w.heap.size ≤ gb243) := ⟨h19_⟩
        have n20_ : Aside0 (gb228 ≠ gb243) := ⟨h20_⟩
        have n21_ : Aside0 (gb243 ≠ gb228) := ⟨h21_⟩
        have n22_ : Aside0 (gb229 ≠ gb243) := ⟨h22_⟩
        have n23_ : Aside0 (gb243 ≠ gb229) := ⟨h23_⟩
        have n24_ : Aside0 (gb233 ≠ gb243) := ⟨h24_⟩
        have n25_ : Aside0 (gb243 ≠ gb233) := ⟨h25_⟩
        have n26_ : Aside0 (gb241 ≠ gb243) := ⟨h26_⟩
        have n27_ : Aside0 (gb243 ≠ gb241) := ⟨h27_⟩
        have n28_ : Aside0 (Below w.heap.size w w92) := ⟨h28_⟩
        clear BK228
        clear BK229
        clear BK233
        clear BK241
        clear HB
        clear h0_ h1_ h2_ h3_ h4_ h5_ h6_ h7_ h8_ h9_ h10_ h11_ h12_ h13_ h14_ h15_ h16_ h17_ h18_ h19_ h20_ h21_ h22_ h23_ h24_ h25_ h26_ h27_ h28_
        have BK228 := n0_
        have BK229 := n1_
        have BK233 := n2_
        have BK241 := n3_
        have BK242 := n4_
        have BK243 := n5_
        have GW242 := n6_
        have GE242 := n7_
        have NB228_242 := n8_
        have NB242_228 := n9_
        have NB229_242 := n10_
        have NB242_229 := n11_
        have NB233_242 := n12_
        have NB242_233 := n13_
        have NB241_242 := n14_
        have NB242_241 := n15_
        have NB243_242 := n16_
        have NB242_243 := n17_
        have GW243 := n18_
        have GE243 := n19_
        have NB228_243 := n20_
        have NB243_228 := n21_
        have NB229_243 := n22_
        have NB243_229 := n23_
        have NB233_243 := n24_
        have NB243_233 := n25_
        have NB241_243 := n26_
        have NB243_241 := n27_
        have HB := n28_
        clear n0_ n1_ n2_ n3_ n4_ n5_ n6_ n7_ n8_ n9_ n10_ n11_ n12_ n13_ n14_ n15_ n16_ n17_ n18_ n19_ n20_ n21_ n22_ n23_ n24_ n25_ n26_ n27_ n28_
        have hHeld : w92.cell? ⟨gb228, 0, none⟩ = some (.int .i64 t225) ∧ w92.cell? ⟨gb228, 1, none⟩ = some (.int .i64 (wrap64 (t224 + (wrap64 (t223 * t225))))) ∧ w92.cell? ⟨gb228, 2, none⟩ = some (.int .i64 1) ∧ w92.cell? ⟨gb229, 0, none⟩ = some (.int .i64 (wrap64 (t225 + t226))) ∧ w92.cell? ⟨gb229, 1, none⟩ = some (.int .i64 (wrap64 (t224 + (wrap64 (t223 * (wrap64 (t225 + t226))))))) ∧ w92.cell? ⟨gb229, 2, none⟩ = some (.int .i64 1) := hS_
        refine norm_ (a' := ?_) ?_ ?_
        rotate_left
        ·simp only [putAll, Act.put, List.setIfInBounds_toArray, List.set_cons_zero, List.set_cons_succ]
         rfl
        refine one_ (i := 6) (N := none) #[true, true, true, true, true, true, true, false] rfl rfl (one_of HT_.out (by kernel_rfl)) (by decide) (fun K hK => ?_)
        have hs93 : w92.cell? ⟨gb242, 0, none⟩ = some (.int .i64 0) := (blk_cell BK242.out 0).trans rfl
        have hfs93 := blk_frozen BK242.out 0
        have hns93_0 := NB228_242.out
        have hns93_1 := NB229_242.out
        have hns93_2 := NB233_242.out
        have hns93_3 := NB241_242.out
        have hns93_5 := NB243_242.out
        have hms93_0 := NB242_228.out
        have hms93_1 := NB242_229.out
        have hms93_2 := NB242_233.out
        have hms93_3 := NB242_241.out
        have hms93_5 := NB242_243.out
        have hs94 : w92.cell? ⟨gb242, 1, none⟩ = some (.int .i64 0) := (blk_cell BK242.out 1).trans rfl
        have hfs94 := blk_frozen BK242.out 1
        have hns94_0 := NB228_242.out
        have hns94_1 := NB229_242.out
        have hns94_2 := NB233_242.out
        have hns94_3 := NB241_242.out
        have hns94_5 := NB243_242.out
        have hms94_0 := NB242_228.out
        have hms94_1 := NB242_229.out
        have hms94_2 := NB242_233.out
        have hms94_3 := NB242_241.out
        have hms94_5 := NB242_243.out
        refine skip_ (w1 := ?_) (by rfl) rfl ?_ ?_
        rotate_left
        ·go_simp
         rfl
        refine hK.out _ _ ⟨((cell_far (p := ⟨gb242, _, none⟩) NB228_242.out _).trans (((cell_far (p := ⟨gb242, _, none⟩) NB228_242.out _).trans (hHeld.1)))), ((cell_far (p := ⟨gb242, _, none⟩) NB228_242.out _).trans (((cell_far (p := ⟨gb242, _, none⟩) NB228_242.out _).trans (hHeld.2.1)))), ((cell_far (p := ⟨gb242, _, none⟩) NB228_242.out _).trans (((cell_far (p := ⟨gb242, _, none⟩) NB228_242.out _).trans (hHeld.2.2.1)))), ((cell_far (p := ⟨gb242, _, none⟩) NB229_242.out _).trans (((cell_far (p := ⟨gb242, _, none⟩) NB229_242.out _).trans (hHeld.2.2.2.1)))), ((cell_far (p := ⟨gb242, _, none⟩) NB229_242.out _).trans (((cell_far (p := ⟨gb242, _, none⟩) NB229_242.out _).trans (hHeld.2.2.2.2.1)))), ((cell_far (p := ⟨gb242, _, none⟩) NB229_242.out _).trans (((cell_far (p := ⟨gb242, _, none⟩) NB229_242.out _).trans (hHeld.2.2.2.2.2))))⟩ (fun hHeld => ?_)
        clear hK K
        refine one_ (i := 7) (N := none) #[true, true, true, true, true, true, true, true] rfl rfl (one_of HT_.out (by kernel_rfl)) (by decide) (fun K hK => ?_)
        have hs95 : w92.cell? ⟨gb243, 0, none⟩ = some (.int .i64 0) := (blk_cell BK243.out 0).trans rfl
        have hfs95 := blk_frozen BK243.out 0
        have hns95_0 := NB228_243.out
        have hns95_1 := NB229_243.out
        have hns95_2 := NB233_243.out
        have hns95_3 := NB241_243.out
        have hns95_4 := NB242_243.out
        have hms95_0 := NB243_228.out
        have hms95_1 := NB243_229.out
        have hms95_2 := NB243_233.out
        have hms95_3 := NB243_241.out
        have hms95_4 := NB243_242.out
        have hs96 : w92.cell? ⟨gb243, 1, none⟩ = some (.int .i64 0) := (blk_cell BK243.out 1).trans rfl
        have hfs96 := blk_frozen BK243.out 1
        have hns96_0 := NB228_243.out
        have hns96_1 := NB229_243.out
        have hns96_2 := NB233_243.out
        have hns96_3 := NB241_243.out
        have hns96_4 := NB242_243.out
        have hms96_0 := NB243_228.out
        have hms96_1 := NB243_229.out
        have hms96_2 := NB243_233.out
        have hms96_3 := NB243_241.out
        have hms96_4 := NB243_242.out
        refine skip_ (w1 := ?_) (by rfl) rfl ?_ ?_
        rotate_left
        ·go_simp
         rfl
        refine hK.out _ _ ⟨((cell_far (p := ⟨gb243, _, none⟩) NB228_243.out _).trans (((cell_far (p := ⟨gb243, _, none⟩) NB228_243.out _).trans (hHeld.1)))), ((cell_far (p := ⟨gb243, _, none⟩) NB228_243.out _).trans (((cell_far (p := ⟨gb243, _, none⟩) NB228_243.out _).trans (hHeld.2.1)))), ((cell_far (p := ⟨gb243, _, none⟩) NB228_243.out _).trans (((cell_far (p := ⟨gb243, _, none⟩) NB228_243.out _).trans (hHeld.2.2.1)))), ((cell_far (p := ⟨gb243, _, none⟩) NB229_243.out _).trans (((cell_far (p := ⟨gb243, _, none⟩) NB229_243.out _).trans (hHeld.2.2.2.1)))), ((cell_far (p := ⟨gb243, _, none⟩) NB229_243.out _).trans (((cell_far (p := ⟨gb243, _, none⟩) NB229_243.out _).trans (hHeld.2.2.2.2.1)))), ((cell_far (p := ⟨gb243, _, none⟩) NB229_243.out _).trans (((cell_far (p := ⟨gb243, _, none⟩) NB229_243.out _).trans (hHeld.2.2.2.2.2))))⟩ (fun hHeld => ?_)
        clear hK K
        refine done_ (done_of HT_.out (by kernel_rfl)) ?_
        have hnb97 := NB243_228.out
        have hnc97 := NB228_243.out
        have hnb98 := NB243_229.out
        have hnc98 := NB229_243.out
        have hnb99 := NB243_233.out
        have hnc99 := NB233_243.out
        have hnb100 := NB243_241.out
        have hnc100 := NB241_243.out
        have hnb101 := NB243_242.out
        have hnc101 := NB242_243.out
        have hcz102_0 : w92.cell? ⟨gb243, 0, none⟩ = some (.int .i64 0) := (blk_cell BK243.out 0).trans rfl
        have hcz102_1 : w92.cell? ⟨gb243, 1, none⟩ = some (.int .i64 0) := (blk_cell BK243.out 1).trans rfl
        have hfz102_0 := blk_frozen BK243.out 0
        have hfz102_1 := blk_frozen BK243.out 1
        have hnb103 := NB242_228.out
        have hnc103 := NB228_242.out
        have hnb104 := NB242_229.out
        have hnc104 := NB229_242.out
        have hnb105 := NB242_233.out
        have hnc105 := NB233_242.out
        have hnb106 := NB242_241.out
        have hnc106 := NB241_242.out
        have hcz107_0 : w92.cell? ⟨gb242, 0, none⟩ = some (.int .i64 0) := (blk_cell BK242.out 0).trans rfl
        have hcz107_1 : w92.cell? ⟨gb242, 1, none⟩ = some (.int .i64 0) := (blk_cell BK242.out 1).trans rfl
        have hfz107_0 := blk_frozen BK242.out 0
        have hfz107_1 := blk_frozen BK242.out 1
        have hnb108 := NB233_228.out
        have hnc108 := NB228_233.out
        have hnb109 := NB233_229.out
        have hnc109 := NB229_233.out
        have hnb110 := NB233_241.out
        have hnc110 := NB241_233.out
        have hcz111_0 : w92.cell? ⟨gb233, 0, none⟩ = some (.int .i64 t230) := (blk_cell BK233.out 0).trans rfl
        have hcz111_1 : w92.cell? ⟨gb233, 1, none⟩ = some (.int .i64 t231) := (blk_cell BK233.out 1).trans rfl
        have hfz111_0 := blk_frozen BK233.out 0
        have hfz111_1 := blk_frozen BK233.out 1
        have hq_a : ((((w92.setCell ⟨gb242, 0, none⟩ (.int .i64 (wrap64 (t224 + (wrap64 (t223 * t225)))))).setCell ⟨gb242, 1, none⟩ (.int .i64 1)).setCell ⟨gb243, 0, none⟩ (.int .i64 (wrap64 (t224 + (wrap64 (t223 * (wrap64 (t225 + t226)))))))).setCell ⟨gb243, 1, none⟩ (.int .i64 1)).cell? ⟨gb242, 0, none⟩ = some (.int .i64 (wrap64 (t224 + (wrap64 (t223 * t225))))) := by go_simp
        have hq_b : ((((w92.setCell ⟨gb242, 0, none⟩ (.int .i64 (wrap64 (t224 + (wrap64 (t223 * t225)))))).setCell ⟨gb242, 1, none⟩ (.int .i64 1)).setCell ⟨gb243, 0, none⟩ (.int .i64 (wrap64 (t224 + (wrap64 (t223 * (wrap64 (t225 + t226)))))))).setCell ⟨gb243, 1, none⟩ (.int .i64 1)).cell? ⟨gb242, 1, none⟩ = some (.int .i64 1) := by go_simp
        have hq_c : ((((w92.setCell ⟨gb242, 0, none⟩ (.int .i64 (wrap64 (t224 + (wrap64 (t223 * t225)))))).setCell ⟨gb242, 1, none⟩ (.int .i64 1)).setCell ⟨gb243, 0, none⟩ (.int .i64 (wrap64 (t224 + (wrap64 (t223 * (wrap64 (t225 + t226)))))))).setCell ⟨gb243, 1, none⟩ (.int .i64 1)).cell? ⟨gb243, 0, none⟩ = some (.int .i64 (wrap64 (t224 + (wrap64 (t223 * (wrap64 (t225 + t226))))))) := by go_simp
        have hq_d : ((((w92.setCell ⟨gb242, 0, none⟩ (.int .i64 (wrap64 (t224 + (wrap64 (t223 * t225)))))).setCell ⟨gb242, 1, none⟩ (.int .i64 1)).setCell ⟨gb243, 0, none⟩ (.int .i64 (wrap64 (t224 + (wrap64 (t223 * (wrap64 (t225 + t226)))))))).setCell ⟨gb243, 1, none⟩ (.int .i64 1)).cell? ⟨gb243, 1, none⟩ = some (.int .i64 1) := by go_simp
        try go_wp2_with (first | ((with_reducible refine gate_callee (f := 21) rfl ?_); refine goesL_ (some 111) rfl rfl Try.func21 (by kernel_rfl) rfl #[.agg #[.int .i64 (wrap64 (t224 + (wrap64 (t223 * (wrap64 (t225 + t226)))))), .int .i64 1], .agg #[.int .i64 t230, .int .i64 t231]] rfl argN ?_; (with_reducible refine (marigraphref1_Cmp.calls kj13 (wrap64 (t224 + (wrap64 (t223 * (wrap64 (t225 + t226)))))) 1 t230 t231 t244 _ A56.out).mono ?_); rintro e w112 ⟨rfl, hb⟩; refine ⟨_, rfl, ?_⟩; have n0_ := Aside0.mk (bkBF BK228.out hb); have n1_ := Aside0.mk (bkBF BK229.out hb); have n2_ := Aside0.mk (bkBF BK233.out hb); have n3_ := Aside0.mk (bkBF BK241.out hb); have n4_ := Aside0.mk (blk_below (g := gb242) (o := .cells #[.int .i64 (wrap64 (t224 + (wrap64 (t223 * (wrap64 (t225 + t226)))))), .int .i64 1] 28 (0, 0)) (by (with_reducible repeat (first | refine blk_drewN ?_ _ | refine blk_drew ?_ | refine blk_alloc ?_ _)); refine blk_far ?_ NB242_243.out _; (with_reducible repeat (first | refine blk_drewN ?_ _ | refine blk_drew ?_ | refine blk_alloc ?_ _)); refine blk_far ?_ NB242_243.out _; (with_reducible repeat (first | refine blk_drewN ?_ _ | refine blk_drew ?_ | refine blk_alloc ?_ _)); refine blk_put (cs := #[.int .i64 (wrap64 (t224 + (wrap64 (t223 * (wrap64 (t225 + t226)))))), .int .i64 1]) ?_ 1 _ rfl; (with_reducible repeat (first | refine blk_drewN ?_ _ | refine blk_drew ?_ | refine blk_alloc ?_ _)); refine blk_put (cs := #[.int .i64 (wrap64 (t224 + (wrap64 (t223 * t225)))), .int .i64 1]) ?_ 0 _ rfl; (with_reducible repeat (first | refine blk_drewN ?_ _ | refine blk_drew ?_ | refine blk_alloc ?_ _)); refine blk_far ?_ NB242_243.out _; (with_reducible repeat (first | refine blk_drewN ?_ _ | refine blk_drew ?_ | refine blk_alloc ?_ _)); refine blk_far ?_ NB242_243.out _; (with_reducible repeat (first | refine blk_drewN ?_ _ | refine blk_drew ?_ | refine blk_alloc ?_ _)); refine blk_put (cs := #[.int .i64 (wrap64 (t224 + (wrap64 (t223 * t225)))), .int .i64 0]) ?_ 1 _ rfl; (with_reducible repeat (first | refine blk_drewN ?_ _ | refine blk_drew ?_ | refine blk_alloc ?_ _)); refine blk_put (cs := #[.int .i64 0, .int .i64 0]) ?_ 0 _ rfl; (with_reducible repeat (first | refine blk_drewN ?_ _ | refine blk_drew ?_ | refine blk_alloc ?_ _)); exact BK242.out) hb); have n5_ := Aside0.mk (blk_below (g := gb243) (o := .cells #[.int .i64 (wrap64 (t224 + (wrap64 (t223 * t225)))), .int .i64 1] 28 (0, 0)) (by (with_reducible repeat (first | refine blk_drewN ?_ _ | refine blk_drew ?_ | refine blk_alloc ?_ _)); refine blk_put (cs := #[.int .i64 (wrap64 (t224 + (wrap64 (t223 * t225)))), .int .i64 1]) ?_ 1 _ rfl; (with_reducible repeat (first | refine blk_drewN ?_ _ | refine blk_drew ?_ | refine blk_alloc ?_ _)); refine blk_put (cs := #[.int .i64 (wrap64 (t224 + (wrap64 (t223 * (wrap64 (t225 + t226)))))), .int .i64 1]) ?_ 0 _ rfl; (with_reducible repeat (first | refine blk_drewN ?_ _ | refine blk_drew ?_ | refine blk_alloc ?_ _)); refine blk_far ?_ NB243_242.out _; (with_reducible repeat (first | refine blk_drewN ?_ _ | refine blk_drew ?_ | refine blk_alloc ?_ _)); refine blk_far ?_ NB243_242.out _; (with_reducible repeat (first | refine blk_drewN ?_ _ | refine blk_drew ?_ | refine blk_alloc ?_ _)); refine blk_put (cs := #[.int .i64 (wrap64 (t224 + (wrap64 (t223 * (wrap64 (t225 + t226)))))), .int .i64 0]) ?_ 1 _ rfl; (with_reducible repeat (first | refine blk_drewN ?_ _ | refine blk_drew ?_ | refine blk_alloc ?_ _)); refine blk_put (cs := #[.int .i64 0, .int .i64 0]) ?_ 0 _ rfl; (with_reducible repeat (first | refine blk_drewN ?_ _ | refine blk_drew ?_ | refine blk_alloc ?_ _)); refine blk_far ?_ NB243_242.out _; (with_reducible repeat (first | refine blk_drewN ?_ _ | refine blk_drew ?_ | refine blk_alloc ?_ _)); refine blk_far ?_ NB243_242.out _; (with_reducible repeat (first | refine blk_drewN ?_ _ | refine blk_drew ?_ | refine blk_alloc ?_ _)); exact BK243.out) hb); have n6_ := Aside0.mk (below_step (belS HB.out) hb); clear BK228; clear BK229; clear BK233; clear BK241; clear BK242; clear BK243; clear HB; have BK228 := n0_; have BK229 := n1_; have BK233 := n2_; have BK241 := n3_; have BK242 := n4_; have BK243 := n5_; have HB := n6_; clear n0_ n1_ n2_ n3_ n4_ n5_ n6_; (try clear hb); (try clear hb2); (try clear hk); (try clear hi); have hcz113_0 : w112.cell? ⟨gb233, 0, none⟩ = some (.int .i64 t230) := (blk_cell BK233.out 0).trans rfl; have hcz113_1 : w112.cell? ⟨gb233, 1, none⟩ = some (.int .i64 t231) := (blk_cell BK233.out 1).trans rfl; have hfz113_0 := blk_frozen BK233.out 0; have hfz113_1 := blk_frozen BK233.out 1; have hcz114_0 : w112.cell? ⟨gb243, 0, none⟩ = some (.int .i64 (wrap64 (t224 + (wrap64 (t223 * t225))))) := (blk_cell BK243.out 0).trans rfl; have hcz114_1 : w112.cell? ⟨gb243, 1, none⟩ = some (.int .i64 1) := (blk_cell BK243.out 1).trans rfl; have hfz114_0 := blk_frozen BK243.out 0; have hfz114_1 := blk_frozen BK243.out 1) | (go_at_call 21; (with_reducible refine (marigraphref1_Cmp.calls kj13 t230 t231 (wrap64 (t224 + (wrap64 (t223 * t225)))) 1 t245 _ A58.out).mono ?_); rintro e w115 ⟨rfl, hb⟩; have n0_ := Aside0.mk (bkB BK228.out hb); have n1_ := Aside0.mk (bkB BK229.out hb); have n2_ := Aside0.mk (bkB BK233.out hb); have n3_ := Aside0.mk (bkB BK241.out hb); have n4_ := Aside0.mk (bkB BK242.out hb); have n5_ := Aside0.mk (bkB BK243.out hb); have n6_ := Aside0.mk (below_step (belS HB.out) hb); clear BK228; clear BK229; clear BK233; clear BK241; clear BK242; clear BK243; clear HB; have BK228 := n0_; have BK229 := n1_; have BK233 := n2_; have BK241 := n3_; have BK242 := n4_; have BK243 := n5_; have HB := n6_; clear n0_ n1_ n2_ n3_ n4_ n5_ n6_; (try clear hb); (try clear hb2); (try clear hk); (try clear hi)))
        go_ret
        exact ⟨by first | rfl | (simp [errW_none, errW_some] <;> rfl) | (simp [*, errW_none, errW_some] <;> rfl), (belS HB.out)⟩
      ·rw [if_neg c57] at H
       have c57b0 : decide (t244 ≤ 0) = false := decide_eq_false c57
       clear c57
       obtain rfl := Option.some.inj H
       try go_wp2
       have n0_ := Aside0.mk (blk_drew BK228.out)
       have n1_ := Aside0.mk (blk_drew BK229.out)
       have n2_ := Aside0.mk (blk_drew BK233.out)
       have n3_ := Aside0.mk (blk_drew BK241.out)
       have n4_ := Aside0.mk (below_drew1 HB.out)
       clear BK228
       clear BK229
       clear BK233
       clear BK241
       clear HB
       have BK228 := n0_
       have BK229 := n1_
       have BK233 := n2_
       have BK241 := n3_
       have HB := n4_
       clear n0_ n1_ n2_ n3_ n4_
       refine start_ (n := 8) (S := fun w' => w'.cell? ⟨gb228, 0, none⟩ = some (.int .i64 t225) ∧ w'.cell? ⟨gb228, 1, none⟩ = some (.int .i64 (wrap64 (t224 + (wrap64 (t223 * t225))))) ∧ w'.cell? ⟨gb228, 2, none⟩ = some (.int .i64 1) ∧ w'.cell? ⟨gb229, 0, none⟩ = some (.int .i64 (wrap64 (t225 + t226))) ∧ w'.cell? ⟨gb229, 1, none⟩ = some (.int .i64 (wrap64 (t224 + (wrap64 (t223 * (wrap64 (t225 + t226))))))) ∧ w'.cell? ⟨gb229, 2, none⟩ = some (.int .i64 1)) (ds := []) #[false, false, false, false, false, false, false, false] (by kernel_rfl) rfl rfl ⟨(blk_cell BK228.out 0).trans rfl, (blk_cell BK228.out 1).trans rfl, (blk_cell BK228.out 2).trans rfl, (blk_cell BK229.out 0).trans rfl, (blk_cell BK229.out 1).trans rfl, (blk_cell BK229.out 2).trans rfl⟩ (fun hHeld => ?_); refine with_tabW marigraphlaw22_LerpLines.tab10 marigraphlaw22_LerpLines.bits10 (fun HT_ HW_ => ?_)
       generalize wc.drew = w116 at BK228 BK229 BK233 BK241 HB hHeld ⊢
       refine pure_ (i := 0) (N := some 101) (v := ?_) (a' := ?_) #[true, false, false, false, false, false, false, false] rfl rfl (any_of HT_.out (by kernel_rfl)) (fun _ _ _ h => h) (Or.inl ⟨by rfl, ?_⟩) ?_ ?_
       rotate_left
       ·intro w'
        go_simp
        with_reducible rfl
       rotate_left
       ·simp only [Act.put, List.setIfInBounds_toArray, List.set_cons_zero, List.set_cons_succ, i64_w, i32_w]
        rfl
       refine pure_ (i := 2) (N := some 103) (v := ?_) (a' := ?_) #[true, false, true, false, false, false, false, false] rfl rfl (any_of HT_.out (by kernel_rfl)) (fun _ _ _ h => h) (Or.inl ⟨by rfl, ?_⟩) ?_ ?_
       rotate_left
       ·intro w'
        go_simp
        with_reducible rfl
       rotate_left
       ·simp only [Act.put, List.setIfInBounds_toArray, List.set_cons_zero, List.set_cons_succ, i64_w, i32_w]
        rfl
       refine take_ (i := 1) (N := some 102) (v := ?_) (a' := ?_) #[true, true, true, false, false, false, false, false] rfl rfl (take_ofW HT_.out HW_.out (by kernel_rfl)) (fun _ _ _ h => h) (Or.inl ⟨by rfl, ?_⟩) hHeld ?_ ?_
       rotate_left
       ·rintro w' ⟨s0, s1, s2, s3, s4, s5⟩
        go_simp
        with_reducible rfl
       rotate_left
       ·simp only [Act.put, List.setIfInBounds_toArray, List.set_cons_zero, List.set_cons_succ, i64_w, i32_w]
        rfl
       refine take_ (i := 3) (N := some 104) (v := ?_) (a' := ?_) #[true, true, true, true, false, false, false, false] rfl rfl (take_ofW HT_.out HW_.out (by kernel_rfl)) (fun _ _ _ h => h) (Or.inl ⟨by rfl, ?_⟩) hHeld ?_ ?_
       rotate_left
       ·rintro w' ⟨s0, s1, s2, s3, s4, s5⟩
        go_simp
        with_reducible rfl
       rotate_left
       ·simp only [Act.put, List.setIfInBounds_toArray, List.set_cons_zero, List.set_cons_succ, i64_w, i32_w]
        rfl
       refine join_ (σ := Nat × Nat) 2 #[true, true, true, true, true, true, false, false] (fun s_ => [(23, .pointer (some ⟨s_.1, 0, none⟩)), (24, .pointer (some ⟨s_.2, 0, none⟩))]) (fun s_ w' => (w'.cell? ⟨gb228, 0, none⟩ = some (.int .i64 t225) ∧ w'.cell? ⟨gb228, 1, none⟩ = some (.int .i64 (wrap64 (t224 + (wrap64 (t223 * t225))))) ∧ w'.cell? ⟨gb228, 2, none⟩ = some (.int .i64 1) ∧ w'.cell? ⟨gb229, 0, none⟩ = some (.int .i64 (wrap64 (t225 + t226))) ∧ w'.cell? ⟨gb229, 1, none⟩ = some (.int .i64 (wrap64 (t224 + (wrap64 (t223 * (wrap64 (t225 + t226))))))) ∧ w'.cell? ⟨gb229, 2, none⟩ = some (.int .i64 1)) ∧ (w'.heap[gb228]? = some (.cells #[.int .i64 t225, .int .i64 (wrap64 (t224 + (wrap64 (t223 * t225)))), .int .i64 1] 30 (0, 0))) ∧ (w'.heap[gb229]? = some (.cells #[.int .i64 (wrap64 (t225 + t226)), .int .i64 (wrap64 (t224 + (wrap64 (t223 * (wrap64 (t225 + t226)))))), .int .i64 1] 30 (0, 0))) ∧ (w'.heap[gb233]? = some (.cells #[.int .i64 t230, .int .i64 t231] 28 (0, 0))) ∧ (w'.heap[gb241]? = some (.cells #[.int .i64 t237, .int .i64 t238] 28 (0, 0))) ∧ (w'.heap[s_.1]? = some (.cells #[.int .i64 0, .int .i64 0] 28 (0, 0))) ∧ (w'.heap[s_.2]? = some (.cells #[.int .i64 0, .int .i64 0] 28 (0, 0))) ∧ (w.heap.size ≤ s_.1) ∧ (w.heap.size ≤ s_.1) ∧ (gb228 ≠ s_.1) ∧ (s_.1 ≠ gb228) ∧ (gb229 ≠ s_.1) ∧ (s_.1 ≠ gb229) ∧ (gb233 ≠ s_.1) ∧ (s_.1 ≠ gb233) ∧ (gb241 ≠ s_.1) ∧ (s_.1 ≠ gb241) ∧ (s_.2 ≠ s_.1) ∧ (s_.1 ≠ s_.2) ∧ (w.heap.size ≤ s_.2) ∧ (w.heap.size ≤ s_.2) ∧ (gb228 ≠ s_.2) ∧ (s_.2 ≠ gb228) ∧ (gb229 ≠ s_.2) ∧ (s_.2 ≠ gb229) ∧ (gb233 ≠ s_.2) ∧ (s_.2 ≠ gb233) ∧ (gb241 ≠ s_.2) ∧ (s_.2 ≠ gb241) ∧ (Below w.heap.size w w')) ?_ ?_
       rotate_left
       ·intro hCont
        refine two_ (i := 4) (j := 5) (Ni := some 23) (Nj := some 24) #[true, true, true, true, true, false, false, false] #[true, true, true, true, false, true, false, false] rfl rfl rfl rfl (two_of HT_.out (by kernel_rfl)) (by decide) (by decide) (fun K hK => ?_) (fun K hK => ?_)
        ·skip
         refine box_step ?hg (N := 23) ?hd (cs := #[.int .i64 0, .int .i64 0]) (t := 28) ?hr ?_; (case hd => rfl); (case hg => rfl); (case hr => first | (go_simp; done) | (go_simp; rfl))
         intro gb242 hg w117 hbox hb
         have n0_ := Aside0.mk (bkB BK228.out hb)
         have n1_ := Aside0.mk (bkB BK229.out hb)
         have n2_ := Aside0.mk (bkB BK233.out hb)
         have n3_ := Aside0.mk (bkB BK241.out hb)
         have n4_ := Aside0.mk (below_step (belS HB.out) hb)
         have n5_ := Aside0.mk (hbox)
         have n6_ := Aside0.mk (szB hg HB.out)
         have n7_ := Aside0.mk (szB hg HB.out)
         have n8_ := Aside0.mk ((bk1 hg BK228.out))
         have n9_ := Aside0.mk ((bk2 hg BK228.out))
         have n10_ := Aside0.mk ((bk1 hg BK229.out))
         have n11_ := Aside0.mk ((bk2 hg BK229.out))
         have n12_ := Aside0.mk ((bk1 hg BK233.out))
         have n13_ := Aside0.mk ((bk2 hg BK233.out))
         have n14_ := Aside0.mk ((bk1 hg BK241.out))
         have n15_ := Aside0.mk ((bk2 hg BK241.out))
         clear BK228
         clear BK229
         clear BK233
         clear BK241
         clear HB
         have BK228 := n0_
         have BK229 := n1_
         have BK233 := n2_
         have BK241 := n3_
         have HB := n4_
         have BK242 := n5_
         have GW242 := n6_
         have GE242 := n7_
         have NB228_242 := n8_
         have NB242_228 := n9_
         have NB229_242 := n10_
         have NB242_229 := n11_
         have NB233_242 := n12_
         have NB242_233 := n13_
         have NB241_242 := n14_
         have NB242_241 := n15_
         clear n0_ n1_ n2_ n3_ n4_ n5_ n6_ n7_ n8_ n9_ n10_ n11_ n12_ n13_ n14_ n15_
         clear hb hbox hg
         refine hK.out _ _ ⟨(blk_cell BK228.out 0).trans rfl, (blk_cell BK228.out 1).trans rfl, (blk_cell BK228.out 2).trans rfl, (blk_cell BK229.out 0).trans rfl, (blk_cell BK229.out 1).trans rfl, (blk_cell BK229.out 2).trans rfl⟩ (fun hHeld => ?_)
         clear hK K
         refine norm_ (a' := ?_) ?_ ?_
         rotate_left
         ·show Act.put _ (some 23) _ = _
          simp only [Act.put, List.setIfInBounds_toArray, List.set_cons_zero, List.set_cons_succ, i64_w, i32_w]
          rfl
         refine one_ (i := 5) (N := some 24) #[true, true, true, true, true, true, false, false] rfl rfl (one_of HT_.out (by kernel_rfl)) (by decide) (fun K hK => ?_)
         refine box_step ?hg (N := 24) ?hd (cs := #[.int .i64 0, .int .i64 0]) (t := 28) ?hr ?_; (case hd => rfl); (case hg => rfl); (case hr => first | (go_simp; done) | (go_simp; rfl))
         intro gb243 hg w118 hbox hb
         have n0_ := Aside0.mk (bkB BK228.out hb)
         have n1_ := Aside0.mk (bkB BK229.out hb)
         have n2_ := Aside0.mk (bkB BK233.out hb)
         have n3_ := Aside0.mk (bkB BK241.out hb)
         have n4_ := Aside0.mk (bkB BK242.out hb)
         have n5_ := Aside0.mk (below_step (belS HB.out) hb)
         have n6_ := Aside0.mk (hbox)
         have n7_ := Aside0.mk (szB hg HB.out)
         have n8_ := Aside0.mk (szB hg HB.out)
         have n9_ := Aside0.mk ((bk1 hg BK228.out))
         have n10_ := Aside0.mk ((bk2 hg BK228.out))
         have n11_ := Aside0.mk ((bk1 hg BK229.out))
         have n12_ := Aside0.mk ((bk2 hg BK229.out))
         have n13_ := Aside0.mk ((bk1 hg BK233.out))
         have n14_ := Aside0.mk ((bk2 hg BK233.out))
         have n15_ := Aside0.mk ((bk1 hg BK241.out))
         have n16_ := Aside0.mk ((bk2 hg BK241.out))
         have n17_ := Aside0.mk ((bk1 hg BK242.out))
         have n18_ := Aside0.mk ((bk2 hg BK242.out))
         clear BK228
         clear BK229
         clear BK233
         clear BK241
         clear BK242
         clear HB
         have BK228 := n0_
         have BK229 := n1_
         have BK233 := n2_
         have BK241 := n3_
         have BK242 := n4_
         have HB := n5_
         have BK243 := n6_
         have GW243 := n7_
         have GE243 := n8_
         have NB228_243 := n9_
         have NB243_228 := n10_
         have NB229_243 := n11_
         have NB243_229 := n12_
         have NB233_243 := n13_
         have NB243_233 := n14_
         have NB241_243 := n15_
         have NB243_241 := n16_
         have NB242_243 := n17_
         have NB243_242 := n18_
         clear n0_ n1_ n2_ n3_ n4_ n5_ n6_ n7_ n8_ n9_ n10_ n11_ n12_ n13_ n14_ n15_ n16_ n17_ n18_
         clear hb hbox hg
         refine hK.out _ _ ⟨(blk_cell BK228.out 0).trans rfl, (blk_cell BK228.out 1).trans rfl, (blk_cell BK228.out 2).trans rfl, (blk_cell BK229.out 0).trans rfl, (blk_cell BK229.out 1).trans rfl, (blk_cell BK229.out 2).trans rfl⟩ (fun hHeld => ?_)
         clear hK K
         refine norm_ (a' := ?_) ?_ ?_
         rotate_left
         ·show Act.put _ (some 24) _ = _
          simp only [Act.put, List.setIfInBounds_toArray, List.set_cons_zero, List.set_cons_succ, i64_w, i32_w]
          rfl
         exact norm_ (by simp only [putAll, Act.put, List.setIfInBounds_toArray, List.set_cons_zero, List.set_cons_succ]) (hCont (gb242, gb243) _ ⟨hHeld, (blkN BK228.out), (blkN BK229.out), (blkN BK233.out), (blkN BK241.out), (blkN BK242.out), (blkN BK243.out), GW242.out, GE242.out, NB228_242.out, NB242_228.out, NB229_242.out, NB242_229.out, NB233_242.out, NB242_233.out, NB241_242.out, NB242_241.out, NB243_242.out, NB242_243.out, GW243.out, GE243.out, NB228_243.out, NB243_228.out, NB229_243.out, NB243_229.out, NB233_243.out, NB243_233.out, NB241_243.out, NB243_241.out, (belS HB.out)⟩)
        ·skip
         refine box_step ?hg (N := 24) ?hd (cs := #[.int .i64 0, .int .i64 0]) (t := 28) ?hr ?_; (case hd => rfl); (case hg => rfl); (case hr => first | (go_simp; done) | (go_simp; rfl))
         intro gb243 hg w117 hbox hb
         have n0_ := Aside0.mk (bkB BK228.out hb)
         have n1_ := Aside0.mk (bkB BK229.out hb)
         have n2_ := Aside0.mk (bkB BK233.out hb)
         have n3_ := Aside0.mk (bkB BK241.out hb)
         have n4_ := Aside0.mk (below_step (belS HB.out) hb)
         have n5_ := Aside0.mk (hbox)
         have n6_ := Aside0.mk (szB hg HB.out)
         have n7_ := Aside0.mk (szB hg HB.out)
         have n8_ := Aside0.mk ((bk1 hg BK228.out))
         have n9_ := Aside0.mk ((bk2 hg BK228.out))
         have n10_ := Aside0.mk ((bk1 hg BK229.out))
         have n11_ := Aside0.mk ((bk2 hg BK229.out))
         have n12_ := Aside0.mk ((bk1 hg BK233.out))
         have n13_ := Aside0.mk ((bk2 hg BK233.out))
         have n14_ := Aside0.mk ((bk1 hg BK241.out))
         have n15_ := Aside0.mk ((bk2 hg BK241.out))
         clear BK228
         clear BK229
         clear BK233
         clear BK241
         clear HB
         have BK228 := n0_
         have BK229 := n1_
         have BK233 := n2_
         have BK241 := n3_
         have HB := n4_
         have BK243 := n5_
         have GW243 := n6_
         have GE243 := n7_
         have NB228_243 := n8_
         have NB243_228 := n9_
         have NB229_243 := n10_
         have NB243_229 := n11_
         have NB233_243 := n12_
         have NB243_233 := n13_
         have NB241_243 := n14_
         have NB243_241 := n15_
         clear n0_ n1_ n2_ n3_ n4_ n5_ n6_ n7_ n8_ n9_ n10_ n11_ n12_ n13_ n14_ n15_
         clear hb hbox hg
         refine hK.out _ _ ⟨(blk_cell BK228.out 0).trans rfl, (blk_cell BK228.out 1).trans rfl, (blk_cell BK228.out 2).trans rfl, (blk_cell BK229.out 0).trans rfl, (blk_cell BK229.out 1).trans rfl, (blk_cell BK229.out 2).trans rfl⟩ (fun hHeld => ?_)
         clear hK K
         refine norm_ (a' := ?_) ?_ ?_
         rotate_left
         ·show Act.put _ (some 24) _ = _
          simp only [Act.put, List.setIfInBounds_toArray, List.set_cons_zero, List.set_cons_succ, i64_w, i32_w]
          rfl
         refine one_ (i := 4) (N := some 23) #[true, true, true, true, true, true, false, false] rfl rfl (one_of HT_.out (by kernel_rfl)) (by decide) (fun K hK => ?_)
         refine box_step ?hg (N := 23) ?hd (cs := #[.int .i64 0, .int .i64 0]) (t := 28) ?hr ?_; (case hd => rfl); (case hg => rfl); (case hr => first | (go_simp; done) | (go_simp; rfl))
         intro gb242 hg w118 hbox hb
         have n0_ := Aside0.mk (bkB BK228.out hb)
         have n1_ := Aside0.mk (bkB BK229.out hb)
         have n2_ := Aside0.mk (bkB BK233.out hb)
         have n3_ := Aside0.mk (bkB BK241.out hb)
         have n4_ := Aside0.mk (bkB BK243.out hb)
         have n5_ := Aside0.mk (below_step (belS HB.out) hb)
         have n6_ := Aside0.mk (hbox)
         have n7_ := Aside0.mk (szB hg HB.out)
         have n8_ := Aside0.mk (szB hg HB.out)
         have n9_ := Aside0.mk ((bk1 hg BK228.out))
         have n10_ := Aside0.mk ((bk2 hg BK228.out))
         have n11_ := Aside0.mk ((bk1 hg BK229.out))
         have n12_ := Aside0.mk ((bk2 hg BK229.out))
         have n13_ := Aside0.mk ((bk1 hg BK233.out))
         have n14_ := Aside0.mk ((bk2 hg BK233.out))
         have n15_ := Aside0.mk ((bk1 hg BK241.out))
         have n16_ := Aside0.mk ((bk2 hg BK241.out))
         have n17_ := Aside0.mk ((bk1 hg BK243.out))
         have n18_ := Aside0.mk ((bk2 hg BK243.out))
         clear BK228
         clear BK229
         clear BK233
         clear BK241
         clear BK243
         clear HB
         have BK228 := n0_
         have BK229 := n1_
         have BK233 := n2_
         have BK241 := n3_
         have BK243 := n4_
         have HB := n5_
         have BK242 := n6_
         have GW242 := n7_
         have GE242 := n8_
         have NB228_242 := n9_
         have NB242_228 := n10_
         have NB229_242 := n11_
         have NB242_229 := n12_
         have NB233_242 := n13_
         have NB242_233 := n14_
         have NB241_242 := n15_
         have NB242_241 := n16_
         have NB243_242 := n17_
         have NB242_243 := n18_
         clear n0_ n1_ n2_ n3_ n4_ n5_ n6_ n7_ n8_ n9_ n10_ n11_ n12_ n13_ n14_ n15_ n16_ n17_ n18_
         clear hb hbox hg
         refine hK.out _ _ ⟨(blk_cell BK228.out 0).trans rfl, (blk_cell BK228.out 1).trans rfl, (blk_cell BK228.out 2).trans rfl, (blk_cell BK229.out 0).trans rfl, (blk_cell BK229.out 1).trans rfl, (blk_cell BK229.out 2).trans rfl⟩ (fun hHeld => ?_)
         clear hK K
         refine norm_ (a' := ?_) ?_ ?_
         rotate_left
         ·show Act.put _ (some 23) _ = _
          simp only [Act.put, List.setIfInBounds_toArray, List.set_cons_zero, List.set_cons_succ, i64_w, i32_w]
          rfl
         exact norm_ (by simp only [putAll, Act.put, List.setIfInBounds_toArray, List.set_cons_zero, List.set_cons_succ]) (hCont (gb242, gb243) _ ⟨hHeld, (blkN BK228.out), (blkN BK229.out), (blkN BK233.out), (blkN BK241.out), (blkN BK242.out), (blkN BK243.out), GW242.out, GE242.out, NB228_242.out, NB242_228.out, NB229_242.out, NB242_229.out, NB233_242.out, NB242_233.out, NB241_242.out, NB242_241.out, NB243_242.out, NB242_243.out, GW243.out, GE243.out, NB228_243.out, NB243_228.out, NB229_243.out, NB243_229.out, NB233_243.out, NB243_233.out, NB241_243.out, NB243_241.out, (belS HB.out)⟩)
       rintro ⟨gb242, gb243⟩ w119 ⟨hS_, h0_, h1_, h2_, h3_, h4_, h5_, h6_, h7_, h8_, h9_, h10_, h11_, h12_, h13_, h14_, h15_, h16_, h17_, h18_, h19_, h20_, h21_, h22_, h23_, h24_, h25_, h26_, h27_, h28_⟩
       have n0_ : Aside0 (w119.heap[gb228]? = some (.cells #[.int .i64 t225, .int .i64 (wrap64 (t224 + (wrap64 (t223 * t225)))), .int .i64 1] 30 (0, 0))) := ⟨h0_⟩
       have n1_ : Aside0 (w119.heap[gb229]? = some (.cells #[.int .i64 (wrap64 (t225 + t226)), .int .i64 (wrap64 (t224 + (wrap64 (t223 * (wrap64 (t225 + t226)))))), .int .i64 1] 30 (0, 0))) := ⟨h1_⟩
       have n2_ : Aside0 (w119.heap[gb233]? = some (.cells #[.int .i64 t230, .int .i64 t231] 28 (0, 0))) := ⟨h2_⟩
       have n3_ : Aside0 (w119.heap[gb241]? = some (.cells #[.int .i64 t237, .int .i64 t238] 28 (0, 0))) := ⟨h3_⟩
       have n4_ : Aside0 (w119.heap[gb242]? = some (.cells #[.int .i64 0, .int .i64 0] 28 (0, 0))) := ⟨h4_⟩
       have n5_ : Aside0 (w119.heap[gb243]? = some (.cells #[.int .i64 0, .int .i64 0] 28 (0, 0))) := ⟨h5_⟩
       have n6_ : Aside0 (w.heap.size ≤ gb242) := ⟨h6_⟩
       have n7_ : Aside0 (w.heap.size ≤ gb242) := ⟨h7_⟩
       have n8_ : Aside0 (gb228 ≠ gb242) := ⟨h8_⟩
       have n9_ : Aside0 (gb242 ≠ gb228) := ⟨h9_⟩
       have n10_ : Aside0 (gb229 ≠ gb242) := ⟨h10_⟩
       have n11_ : Aside0 (gb242 ≠ gb229) := ⟨h11_⟩
       have n12_ : Aside0 (gb233 ≠ gb242) := ⟨h12_⟩
       have n13_ : Aside0 (gb242 ≠ gb233) := ⟨h13_⟩
       have n14_ : Aside0 (gb241 ≠ gb242) := ⟨h14_⟩
       have n15_ : Aside0 (gb242 ≠ gb241) := ⟨h15_⟩
       have n16_ : Aside0 (gb243 ≠ gb242) := ⟨h16_⟩
       have n17_ : Aside0 (gb242 ≠ gb243) := ⟨h17_⟩
       have n18_ : Aside0 (w.heap.size ≤ gb243) := ⟨h18_⟩
       have n19_ : Aside0 (w.heap.size ≤ gb243) := ⟨h19_⟩
       have n20_ : Aside0 (gb228 ≠ gb243) := ⟨h20_⟩
       have n21_ : Aside0 (gb243 ≠ gb228) := ⟨h21_⟩
       have n22_ : Aside0 (gb229 ≠ gb243) := ⟨h22_⟩
       have n23_ : Aside0 (gb243 ≠ gb229) := ⟨h23_⟩
       have n24_ : Aside0 (gb233 ≠ gb243) := ⟨h24_⟩
       have n25_ : Aside0 (gb243 ≠ gb233) := ⟨h25_⟩
       have n26_ : Aside0 (gb241 ≠ gb243) := ⟨h26_⟩
       have n27_ : Aside0 (gb243 ≠ gb241) := ⟨h27_⟩
       have n28_ : Aside0 (Below w.heap.size w w119) := ⟨h28_⟩
       clear BK228
       clear BK229
       clear BK233
       clear BK241
       clear HB
       clear h0_ h1_ h2_ h3_ h4_ h5_ h6_ h7_ h8_ h9_ h10_ h11_ h12_ h13_ h14_ h15_ h16_ h17_ h18_ h19_ h20_ h21_ h22_ h23_ h24_ h25_ h26_ h27_ h28_
       have BK228 := n0_
       have BK229 := n1_
       have BK233 := n2_
       have BK241 := n3_
       have BK242 := n4_
       have BK243 := n5_
       have GW242 := n6_
       have GE242 := n7_
       have NB228_242 := n8_
       have NB242_228 := n9_
       have NB229_242 := n10_
       have NB242_229 := n11_
       have NB233_242 := n12_
       have NB242_233 := n13_
       have NB241_242 := n14_
       have NB242_241 := n15_
       have NB243_242 := n16_
       have NB242_243 := n17_
       have GW243 := n18_
       have GE243 := n19_
       have NB228_243 := n20_
       have NB243_228 := n21_
       have NB229_243 := n22_
       have NB243_229 := n23_
       have NB233_243 := n24_
       have NB243_233 := n25_
       have NB241_243 := n26_
       have NB243_241 := n27_
       have HB := n28_
       clear n0_ n1_ n2_ n3_ n4_ n5_ n6_ n7_ n8_ n9_ n10_ n11_ n12_ n13_ n14_ n15_ n16_ n17_ n18_ n19_ n20_ n21_ n22_ n23_ n24_ n25_ n26_ n27_ n28_
       have hHeld : w119.cell? ⟨gb228, 0, none⟩ = some (.int .i64 t225) ∧ w119.cell? ⟨gb228, 1, none⟩ = some (.int .i64 (wrap64 (t224 + (wrap64 (t223 * t225))))) ∧ w119.cell? ⟨gb228, 2, none⟩ = some (.int .i64 1) ∧ w119.cell? ⟨gb229, 0, none⟩ = some (.int .i64 (wrap64 (t225 + t226))) ∧ w119.cell? ⟨gb229, 1, none⟩ = some (.int .i64 (wrap64 (t224 + (wrap64 (t223 * (wrap64 (t225 + t226))))))) ∧ w119.cell? ⟨gb229, 2, none⟩ = some (.int .i64 1) := hS_
       refine norm_ (a' := ?_) ?_ ?_
       rotate_left
       ·simp only [putAll, Act.put, List.setIfInBounds_toArray, List.set_cons_zero, List.set_cons_succ]
        rfl
       refine one_ (i := 6) (N := none) #[true, true, true, true, true, true, true, false] rfl rfl (one_of HT_.out (by kernel_rfl)) (by decide) (fun K hK => ?_)
       have hs120 : w119.cell? ⟨gb242, 0, none⟩ = some (.int .i64 0) := (blk_cell BK242.out 0).trans rfl
       have hfs120 := blk_frozen BK242.out 0
       have hns120_0 := NB228_242.out
       have hns120_1 := NB229_242.out
       have hns120_2 := NB233_242.out
       have hns120_3 := NB241_242.out
       have hns120_5 := NB243_242.out
       have hms120_0 := NB242_228.out
       have hms120_1 := NB242_229.out
       have hms120_2 := NB242_233.out
       have hms120_3 := NB242_241.out
       have hms120_5 := NB242_243.out
       have hs121 : w119.cell? ⟨gb242, 1, none⟩ = some (.int .i64 0) := (blk_cell BK242.out 1).trans rfl
       have hfs121 := blk_frozen BK242.out 1
       have hns121_0 := NB228_242.out
       have hns121_1 := NB229_242.out
       have hns121_2 := NB233_242.out
       have hns121_3 := NB241_242.out
       have hns121_5 := NB243_242.out
       have hms121_0 := NB242_228.out
       have hms121_1 := NB242_229.out
       have hms121_2 := NB242_233.out
       have hms121_3 := NB242_241.out
       have hms121_5 := NB242_243.out
       refine skip_ (w1 := ?_) (by rfl) rfl ?_ ?_
       rotate_left
       ·go_simp
        rfl
       refine hK.out _ _ ⟨((cell_far (p := ⟨gb242, _, none⟩) NB228_242.out _).trans (((cell_far (p := ⟨gb242, _, none⟩) NB228_242.out _).trans (hHeld.1)))), ((cell_far (p := ⟨gb242, _, none⟩) NB228_242.out _).trans (((cell_far (p := ⟨gb242, _, none⟩) NB228_242.out _).trans (hHeld.2.1)))), ((cell_far (p := ⟨gb242, _, none⟩) NB228_242.out _).trans (((cell_far (p := ⟨gb242, _, none⟩) NB228_242.out _).trans (hHeld.2.2.1)))), ((cell_far (p := ⟨gb242, _, none⟩) NB229_242.out _).trans (((cell_far (p := ⟨gb242, _, none⟩) NB229_242.out _).trans (hHeld.2.2.2.1)))), ((cell_far (p := ⟨gb242, _, none⟩) NB229_242.out _).trans (((cell_far (p := ⟨gb242, _, none⟩) NB229_242.out _).trans (hHeld.2.2.2.2.1)))), ((cell_far (p := ⟨gb242, _, none⟩) NB229_242.out _).trans (((cell_far (p := ⟨gb242, _, none⟩) NB229_242.out _).trans (hHeld.2.2.2.2.2))))⟩ (fun hHeld => ?_)
       clear hK K
       refine one_ (i := 7) (N := none) #[true, true, true, true, true, true, true, true] rfl rfl (one_of HT_.out (by kernel_rfl)) (by decide) (fun K hK => ?_)
       have hs122 : w119.cell? ⟨gb243, 0, none⟩ = some (.int .i64 0) := (blk_cell BK243.out 0).trans rfl
       have hfs122 := blk_frozen BK243.out 0
       have hns122_0 := NB228_243.out
       have hns122_1 := NB229_243.out
       have hns122_2 := NB233_243.out
       have hns122_3 := NB241_243.out
       have hns122_4 := NB242_243.out
       have hms122_0 := NB243_228.out
       have hms122_1 := NB243_229.out
       have hms122_2 := NB243_233.out
       have hms122_3 := NB243_241.out
       have hms122_4 := NB243_242.out
       have hs123 : w119.cell? ⟨gb243, 1, none⟩ = some (.int .i64 0) := (blk_cell BK243.out 1).trans rfl
       have hfs123 := blk_frozen BK243.out 1
       have hns123_0 := NB228_243.out
       have hns123_1 := NB229_243.out
       have hns123_2 := NB233_243.out
       have hns123_3 := NB241_243.out
       have hns123_4 := NB242_243.out
       have hms123_0 := NB243_228.out
       have hms123_1 := NB243_229.out
       have hms123_2 := NB243_233.out
       have hms123_3 := NB243_241.out
       have hms123_4 := NB243_242.out
       refine skip_ (w1 := ?_) (by rfl) rfl ?_ ?_
       rotate_left
       ·go_simp
        rfl
       refine hK.out _ _ ⟨((cell_far (p := ⟨gb243, _, none⟩) NB228_243.out _).trans (((cell_far (p := ⟨gb243, _, none⟩) NB228_243.out _).trans (hHeld.1)))), ((cell_far (p := ⟨gb243, _, none⟩) NB228_243.out _).trans (((cell_far (p := ⟨gb243, _, none⟩) NB228_243.out _).trans (hHeld.2.1)))), ((cell_far (p := ⟨gb243, _, none⟩) NB228_243.out _).trans (((cell_far (p := ⟨gb243, _, none⟩) NB228_243.out _).trans (hHeld.2.2.1)))), ((cell_far (p := ⟨gb243, _, none⟩) NB229_243.out _).trans (((cell_far (p := ⟨gb243, _, none⟩) NB229_243.out _).trans (hHeld.2.2.2.1)))), ((cell_far (p := ⟨gb243, _, none⟩) NB229_243.out _).trans (((cell_far (p := ⟨gb243, _, none⟩) NB229_243.out _).trans (hHeld.2.2.2.2.1)))), ((cell_far (p := ⟨gb243, _, none⟩) NB229_243.out _).trans (((cell_far (p := ⟨gb243, _, none⟩) NB229_243.out _).trans (hHeld.2.2.2.2.2))))⟩ (fun hHeld => ?_)
       clear hK K
       refine done_ (done_of HT_.out (by kernel_rfl)) ?_
       have hnb124 := NB243_228.out
       have hnc124 := NB228_243.out
       have hnb125 := NB243_229.out
       have hnc125 := NB229_243.out
       have hnb126 := NB243_233.out
       have hnc126 := NB233_243.out
       have hnb127 := NB243_241.out
       have hnc127 := NB241_243.out
       have hnb128 := NB243_242.out
       have hnc128 := NB242_243.out
       have hcz129_0 : w119.cell? ⟨gb243, 0, none⟩ = some (.int .i64 0) := (blk_cell BK243.out 0).trans rfl
       have hcz129_1 : w119.cell? ⟨gb243, 1, none⟩ = some (.int .i64 0) := (blk_cell BK243.out 1).trans rfl
       have hfz129_0 := blk_frozen BK243.out 0
       have hfz129_1 := blk_frozen BK243.out 1
       have hnb130 := NB242_228.out
       have hnc130 := NB228_242.out
       have hnb131 := NB242_229.out
       have hnc131 := NB229_242.out
       have hnb132 := NB242_233.out
       have hnc132 := NB233_242.out
       have hnb133 := NB242_241.out
       have hnc133 := NB241_242.out
       have hcz134_0 : w119.cell? ⟨gb242, 0, none⟩ = some (.int .i64 0) := (blk_cell BK242.out 0).trans rfl
       have hcz134_1 : w119.cell? ⟨gb242, 1, none⟩ = some (.int .i64 0) := (blk_cell BK242.out 1).trans rfl
       have hfz134_0 := blk_frozen BK242.out 0
       have hfz134_1 := blk_frozen BK242.out 1
       have hnb135 := NB233_228.out
       have hnc135 := NB228_233.out
       have hnb136 := NB233_229.out
       have hnc136 := NB229_233.out
       have hnb137 := NB233_241.out
       have hnc137 := NB241_233.out
       have hcz138_0 : w119.cell? ⟨gb233, 0, none⟩ = some (.int .i64 t230) := (blk_cell BK233.out 0).trans rfl
       have hcz138_1 : w119.cell? ⟨gb233, 1, none⟩ = some (.int .i64 t231) := (blk_cell BK233.out 1).trans rfl
       have hfz138_0 := blk_frozen BK233.out 0
       have hfz138_1 := blk_frozen BK233.out 1
       have hq_a : ((((w119.setCell ⟨gb242, 0, none⟩ (.int .i64 (wrap64 (t224 + (wrap64 (t223 * t225)))))).setCell ⟨gb242, 1, none⟩ (.int .i64 1)).setCell ⟨gb243, 0, none⟩ (.int .i64 (wrap64 (t224 + (wrap64 (t223 * (wrap64 (t225 + t226)))))))).setCell ⟨gb243, 1, none⟩ (.int .i64 1)).cell? ⟨gb242, 0, none⟩ = some (.int .i64 (wrap64 (t224 + (wrap64 (t223 * t225))))) := by go_simp
       have hq_b : ((((w119.setCell ⟨gb242, 0, none⟩ (.int .i64 (wrap64 (t224 + (wrap64 (t223 * t225)))))).setCell ⟨gb242, 1, none⟩ (.int .i64 1)).setCell ⟨gb243, 0, none⟩ (.int .i64 (wrap64 (t224 + (wrap64 (t223 * (wrap64 (t225 + t226)))))))).setCell ⟨gb243, 1, none⟩ (.int .i64 1)).cell? ⟨gb242, 1, none⟩ = some (.int .i64 1) := by go_simp
       have hq_c : ((((w119.setCell ⟨gb242, 0, none⟩ (.int .i64 (wrap64 (t224 + (wrap64 (t223 * t225)))))).setCell ⟨gb242, 1, none⟩ (.int .i64 1)).setCell ⟨gb243, 0, none⟩ (.int .i64 (wrap64 (t224 + (wrap64 (t223 * (wrap64 (t225 + t226)))))))).setCell ⟨gb243, 1, none⟩ (.int .i64 1)).cell? ⟨gb243, 0, none⟩ = some (.int .i64 (wrap64 (t224 + (wrap64 (t223 * (wrap64 (t225 + t226))))))) := by go_simp
       have hq_d : ((((w119.setCell ⟨gb242, 0, none⟩ (.int .i64 (wrap64 (t224 + (wrap64 (t223 * t225)))))).setCell ⟨gb242, 1, none⟩ (.int .i64 1)).setCell ⟨gb243, 0, none⟩ (.int .i64 (wrap64 (t224 + (wrap64 (t223 * (wrap64 (t225 + t226)))))))).setCell ⟨gb243, 1, none⟩ (.int .i64 1)).cell? ⟨gb243, 1, none⟩ = some (.int .i64 1) := by go_simp
       try go_wp2_with (first | ((with_reducible refine gate_callee (f := 21) rfl ?_); refine goesL_ (some 111) rfl rfl Try.func21 (by kernel_rfl) rfl #[.agg #[.int .i64 (wrap64 (t224 + (wrap64 (t223 * (wrap64 (t225 + t226)))))), .int .i64 1], .agg #[.int .i64 t230, .int .i64 t231]] rfl argN ?_; (with_reducible refine (marigraphref1_Cmp.calls kj13 (wrap64 (t224 + (wrap64 (t223 * (wrap64 (t225 + t226)))))) 1 t230 t231 t244 _ A56.out).mono ?_); rintro e w139 ⟨rfl, hb⟩; refine ⟨_, rfl, ?_⟩; have n0_ := Aside0.mk (bkBF BK228.out hb); have n1_ := Aside0.mk (bkBF BK229.out hb); have n2_ := Aside0.mk (bkBF BK233.out hb); have n3_ := Aside0.mk (bkBF BK241.out hb); have n4_ := Aside0.mk (blk_below (g := gb242) (o := .cells #[.int .i64 (wrap64 (t224 + (wrap64 (t223 * (wrap64 (t225 + t226)))))), .int .i64 1] 28 (0, 0)) (by (with_reducible repeat (first | refine blk_drewN ?_ _ | refine blk_drew ?_ | refine blk_alloc ?_ _)); refine blk_far ?_ NB242_243.out _; (with_reducible repeat (first | refine blk_drewN ?_ _ | refine blk_drew ?_ | refine blk_alloc ?_ _)); refine blk_far ?_ NB242_243.out _; (with_reducible repeat (first | refine blk_drewN ?_ _ | refine blk_drew ?_ | refine blk_alloc ?_ _)); refine blk_put (cs := #[.int .i64 (wrap64 (t224 + (wrap64 (t223 * (wrap64 (t225 + t226)))))), .int .i64 1]) ?_ 1 _ rfl; (with_reducible repeat (first | refine blk_drewN ?_ _ | refine blk_drew ?_ | refine blk_alloc ?_ _)); refine blk_put (cs := #[.int .i64 (wrap64 (t224 + (wrap64 (t223 * t225)))), .int .i64 1]) ?_ 0 _ rfl; (with_reducible repeat (first | refine blk_drewN ?_ _ | refine blk_drew ?_ | refine blk_alloc ?_ _)); refine blk_far ?_ NB242_243.out _; (with_reducible repeat (first | refine blk_drewN ?_ _ | refine blk_drew ?_ | refine blk_alloc ?_ _)); refine blk_far ?_ NB242_243.out _; (with_reducible repeat (first | refine blk_drewN ?_ _ | refine blk_drew ?_ | refine blk_alloc ?_ _)); refine blk_put (cs := #[.int .i64 (wrap64 (t224 + (wrap64 (t223 * t225)))), .int .i64 0]) ?_ 1 _ rfl; (with_reducible repeat (first | refine blk_drewN ?_ _ | refine blk_drew ?_ | refine blk_alloc ?_ _)); refine blk_put (cs := #[.int .i64 0, .int .i64 0]) ?_ 0 _ rfl; (with_reducible repeat (first | refine blk_drewN ?_ _ | refine blk_drew ?_ | refine blk_alloc ?_ _)); exact BK242.out) hb); have n5_ := Aside0.mk (blk_below (g := gb243) (o := .cells #[.int .i64 (wrap64 (t224 + (wrap64 (t223 * t225)))), .int .i64 1] 28 (0, 0)) (by (with_reducible repeat (first | refine blk_drewN ?_ _ | refine blk_drew ?_ | refine blk_alloc ?_ _)); refine blk_put (cs := #[.int .i64 (wrap64 (t224 + (wrap64 (t223 * t225)))), .int .i64 1]) ?_ 1 _ rfl; (with_reducible repeat (first | refine blk_drewN ?_ _ | refine blk_drew ?_ | refine blk_alloc ?_ _)); refine blk_put (cs := #[.int .i64 (wrap64 (t224 + (wrap64 (t223 * (wrap64 (t225 + t226)))))), .int .i64 1]) ?_ 0 _ rfl; (with_reducible repeat (first | refine blk_drewN ?_ _ | refine blk_drew ?_ | refine blk_alloc ?_ _)); refine blk_far ?_ NB243_242.out _; (with_reducible repeat (first | refine blk_drewN ?_ _ | refine blk_drew ?_ | refine blk_alloc ?_ _)); refine blk_far ?_ NB243_242.out _; (with_reducible repeat (first | refine blk_drewN ?_ _ | refine blk_drew ?_ | refine blk_alloc ?_ _)); refine blk_put (cs := #[.int .i64 (wrap64 (t224 + (wrap64 (t223 * (wrap64 (t225 + t226)))))), .int .i64 0]) ?_ 1 _ rfl; (with_reducible repeat (first | refine blk_drewN ?_ _ | refine blk_drew ?_ | refine blk_alloc ?_ _)); refine blk_put (cs := #[.int .i64 0, .int .i64 0]) ?_ 0 _ rfl; (with_reducible repeat (first | refine blk_drewN ?_ _ | refine blk_drew ?_ | refine blk_alloc ?_ _)); refine blk_far ?_ NB243_242.out _; (with_reducible repeat (first | refine blk_drewN ?_ _ | refine blk_drew ?_ | refine blk_alloc ?_ _)); refine blk_far ?_ NB243_242.out _; (with_reducible repeat (first | refine blk_drewN ?_ _ | refine blk_drew ?_ | refine blk_alloc ?_ _)); exact BK243.out) hb); have n6_ := Aside0.mk (below_step (belS HB.out) hb); clear BK228; clear BK229; clear BK233; clear BK241; clear BK242; clear BK243; clear HB; have BK228 := n0_; have BK229 := n1_; have BK233 := n2_; have BK241 := n3_; have BK242 := n4_; have BK243 := n5_; have HB := n6_; clear n0_ n1_ n2_ n3_ n4_ n5_ n6_; (try clear hb); (try clear hb2); (try clear hk); (try clear hi)))
       go_ret
       exact ⟨by first | rfl | (simp [errW_none, errW_some] <;> rfl) | (simp [*, errW_none, errW_some] <;> rfl), (belS HB.out)⟩
     ·rw [if_neg c55] at H
      have c55b0 : decide (t223 < 0) = false := decide_eq_false c55
      clear c55
      replace H := Option.bind_eq_some_iff.mp H
      obtain ⟨t247, A1400, H⟩ := H
      replace H : (if t247 ≤ 0 then ((marigraphref1_Cmp.f kj13 t230 t231 (wrap64 (t224 + (wrap64 (t223 * (wrap64 (t225 + t226)))))) 1).bind fun t248 => (if t248 ≤ 0 then ((marigraphlaw22_known.f kj13).bind fun t249 => (some t249)) else (some false))) else (some false)) = some r := H
      have A140 := Aside0.mk A1400
      clear A1400
      by_cases c141 : t247 ≤ 0
      ·rw [if_pos c141] at H
       have c141b0 : decide (t247 ≤ 0) = true := decide_eq_true c141
       clear c141
       replace H := Option.bind_eq_some_iff.mp H
       obtain ⟨t248, A1420, H⟩ := H
       replace H : (if t248 ≤ 0 then ((marigraphlaw22_known.f kj13).bind fun t249 => (some t249)) else (some false)) = some r := H
       have A142 := Aside0.mk A1420
       clear A1420
       by_cases c143 : t248 ≤ 0
       ·rw [if_pos c143] at H
        have c143b0 : decide (t248 ≤ 0) = true := decide_eq_true c143
        clear c143
        replace H := Option.bind_eq_some_iff.mp H
        obtain ⟨t249, A1440, H⟩ := H
        replace H : (some t249) = some r := H
        have A144 := Aside0.mk A1440
        clear A1440
        obtain rfl := Option.some.inj H
        try go_wp2
        have n0_ := Aside0.mk (blk_drew BK228.out)
        have n1_ := Aside0.mk (blk_drew BK229.out)
        have n2_ := Aside0.mk (blk_drew BK233.out)
        have n3_ := Aside0.mk (blk_drew BK241.out)
        have n4_ := Aside0.mk (below_drew1 HB.out)
        clear BK228
        clear BK229
        clear BK233
        clear BK241
        clear HB
        have BK228 := n0_
        have BK229 := n1_
        have BK233 := n2_
        have BK241 := n3_
        have HB := n4_
        clear n0_ n1_ n2_ n3_ n4_
        refine start_ (n := 8) (S := fun w' => w'.cell? ⟨gb228, 0, none⟩ = some (.int .i64 t225) ∧ w'.cell? ⟨gb228, 1, none⟩ = some (.int .i64 (wrap64 (t224 + (wrap64 (t223 * t225))))) ∧ w'.cell? ⟨gb228, 2, none⟩ = some (.int .i64 1) ∧ w'.cell? ⟨gb229, 0, none⟩ = some (.int .i64 (wrap64 (t225 + t226))) ∧ w'.cell? ⟨gb229, 1, none⟩ = some (.int .i64 (wrap64 (t224 + (wrap64 (t223 * (wrap64 (t225 + t226))))))) ∧ w'.cell? ⟨gb229, 2, none⟩ = some (.int .i64 1)) (ds := []) #[false, false, false, false, false, false, false, false] (by kernel_rfl) rfl rfl ⟨(blk_cell BK228.out 0).trans rfl, (blk_cell BK228.out 1).trans rfl, (blk_cell BK228.out 2).trans rfl, (blk_cell BK229.out 0).trans rfl, (blk_cell BK229.out 1).trans rfl, (blk_cell BK229.out 2).trans rfl⟩ (fun hHeld => ?_); refine with_tabW marigraphlaw22_LerpLines.tab10 marigraphlaw22_LerpLines.bits10 (fun HT_ HW_ => ?_)
        generalize wc.drew = w145 at BK228 BK229 BK233 BK241 HB hHeld ⊢
        refine pure_ (i := 0) (N := some 101) (v := ?_) (a' := ?_) #[true, false, false, false, false, false, false, false] rfl rfl (any_of HT_.out (by kernel_rfl)) (fun _ _ _ h => h) (Or.inl ⟨by rfl, ?_⟩) ?_ ?_
        rotate_left
        ·intro w'
         go_simp
         with_reducible rfl
        rotate_left
        ·simp only [Act.put, List.setIfInBounds_toArray, List.set_cons_zero, List.set_cons_succ, i64_w, i32_w]
         rfl
        refine pure_ (i := 2) (N := some 103) (v := ?_) (a' := ?_) #[true, false, true, false, false, false, false, false] rfl rfl (any_of HT_.out (by kernel_rfl)) (fun _ _ _ h => h) (Or.inl ⟨by rfl, ?_⟩) ?_ ?_
        rotate_left
        ·intro w'
         go_simp
         with_reducible rfl
        rotate_left
        ·simp only [Act.put, List.setIfInBounds_toArray, List.set_cons_zero, List.set_cons_succ, i64_w, i32_w]
         rfl
        refine take_ (i := 1) (N := some 102) (v := ?_) (a' := ?_) #[true, true, true, false, false, false, false, false] rfl rfl (take_ofW HT_.out HW_.out (by kernel_rfl)) (fun _ _ _ h => h) (Or.inl ⟨by rfl, ?_⟩) hHeld ?_ ?_
        rotate_left
        ·rintro w' ⟨s0, s1, s2, s3, s4, s5⟩
         go_simp
         with_reducible rfl
        rotate_left
        ·simp only [Act.put, List.setIfInBounds_toArray, List.set_cons_zero, List.set_cons_succ, i64_w, i32_w]
         rfl
        refine take_ (i := 3) (N := some 104) (v := ?_) (a' := ?_) #[true, true, true, true, false, false, false, false] rfl rfl (take_ofW HT_.out HW_.out (by kernel_rfl)) (fun _ _ _ h => h) (Or.inl ⟨by rfl, ?_⟩) hHeld ?_ ?_
        rotate_left
        ·rintro w' ⟨s0, s1, s2, s3, s4, s5⟩
         go_simp
         with_reducible rfl
        rotate_left
        ·simp only [Act.put, List.setIfInBounds_toArray, List.set_cons_zero, List.set_cons_succ, i64_w, i32_w]
         rfl
        refine join_ (σ := Nat × Nat) 2 #[true, true, true, true, true, true, false, false] (fun s_ => [(23, .pointer (some ⟨s_.1, 0, none⟩)), (24, .pointer (some ⟨s_.2, 0, none⟩))]) (fun s_ w' => (w'.cell? ⟨gb228, 0, none⟩ = some (.int .i64 t225) ∧ w'.cell? ⟨gb228, 1, none⟩ = some (.int .i64 (wrap64 (t224 + (wrap64 (t223 * t225))))) ∧ w'.cell? ⟨gb228, 2, none⟩ = some (.int .i64 1) ∧ w'.cell? ⟨gb229, 0, none⟩ = some (.int .i64 (wrap64 (t225 + t226))) ∧ w'.cell? ⟨gb229, 1, none⟩ = some (.int .i64 (wrap64 (t224 + (wrap64 (t223 * (wrap64 (t225 + t226))))))) ∧ w'.cell? ⟨gb229, 2, none⟩ = some (.int .i64 1)) ∧ (w'.heap[gb228]? = some (.cells #[.int .i64 t225, .int .i64 (wrap64 (t224 + (wrap64 (t223 * t225)))), .int .i64 1] 30 (0, 0))) ∧ (w'.heap[gb229]? = some (.cells #[.int .i64 (wrap64 (t225 + t226)), .int .i64 (wrap64 (t224 + (wrap64 (t223 * (wrap64 (t225 + t226)))))), .int .i64 1] 30 (0, 0))) ∧ (w'.heap[gb233]? = some (.cells #[.int .i64 t230, .int .i64 t231] 28 (0, 0))) ∧ (w'.heap[gb241]? = some (.cells #[.int .i64 t237, .int .i64 t238] 28 (0, 0))) ∧ (w'.heap[s_.1]? = some (.cells #[.int .i64 0, .int .i64 0] 28 (0, 0))) ∧ (w'.heap[s_.2]? = some (.cells #[.int .i64 0, .int .i64 0] 28 (0, 0))) ∧ (w.heap.size ≤ s_.1) ∧ (w.heap.size ≤ s_.1) ∧ (gb228 ≠ s_.1) ∧ (s_.1 ≠ gb228) ∧ (gb229 ≠ s_.1) ∧ (s_.1 ≠ gb229) ∧ (gb233 ≠ s_.1) ∧ (s_.1 ≠ gb233) ∧ (gb241 ≠ s_.1) ∧ (s_.1 ≠ gb241) ∧ (s_.2 ≠ s_.1) ∧ (s_.1 ≠ s_.2) ∧ (w.heap.size ≤ s_.2) ∧ (w.heap.size ≤ s_.2) ∧ (gb228 ≠ s_.2) ∧ (s_.2 ≠ gb228) ∧ (gb229 ≠ s_.2) ∧ (s_.2 ≠ gb229) ∧ (gb233 ≠ s_.2) ∧ (s_.2 ≠ gb233) ∧ (gb241 ≠ s_.2) ∧ (s_.2 ≠ gb241) ∧ (Below w.heap.size w w')) ?_ ?_
        rotate_left
        ·intro hCont
         refine two_ (i := 4) (j := 5) (Ni := some 23) (Nj := some 24) #[true, true, true, true, true, false, false, false] #[true, true, true, true, false, true, false, false] rfl rfl rfl rfl (two_of HT_.out (by kernel_rfl)) (by decide) (by decide) (fun K hK => ?_) (fun K hK => ?_)
         ·skip
          refine box_step ?hg (N := 23) ?hd (cs := #[.int .i64 0, .int .i64 0]) (t := 28) ?hr ?_; (case hd => rfl); (case hg => rfl); (case hr => first | (go_simp; done) | (go_simp; rfl))
          intro gb242 hg w146 hbox hb
          have n0_ := Aside0.mk (bkB BK228.out hb)
          have n1_ := Aside0.mk (bkB BK229.out hb)
          have n2_ := Aside0.mk (bkB BK233.out hb)
          have n3_ := Aside0.mk (bkB BK241.out hb)
          have n4_ := Aside0.mk (below_step (belS HB.out) hb)
          have n5_ := Aside0.mk (hbox)
          have n6_ := Aside0.mk (szB hg HB.out)
          have n7_ := Aside0.mk (szB hg HB.out)
          have n8_ := Aside0.mk ((bk1 hg BK228.out))
          have n9_ := Aside0.mk ((bk2 hg BK228.out))
          have n10_ := Aside0.mk ((bk1 hg BK229.out))
          have n11_ := Aside0.mk ((bk2 hg BK229.out))
          have n12_ := Aside0.mk ((bk1 hg BK233.out))
          have n13_ := Aside0.mk ((bk2 hg BK233.out))
          have n14_ := Aside0.mk ((bk1 hg BK241.out))
          have n15_ := Aside0.mk ((bk2 hg BK241.out))
          clear BK228
          clear BK229
          clear BK233
          clear BK241
          clear HB
          have BK228 := n0_
          have BK229 := n1_
          have BK233 := n2_
          have BK241 := n3_
          have HB := n4_
          have BK242 := n5_
          have GW242 := n6_
          have GE242 := n7_
          have NB228_242 := n8_
          have NB242_228 := n9_
          have NB229_242 := n10_
          have NB242_229 := n11_
          have NB233_242 := n12_
          have NB242_233 := n13_
          have NB241_242 := n14_
          have NB242_241 := n15_
          clear n0_ n1_ n2_ n3_ n4_ n5_ n6_ n7_ n8_ n9_ n10_ n11_ n12_ n13_ n14_ n15_
          clear hb hbox hg
          refine hK.out _ _ ⟨(blk_cell BK228.out 0).trans rfl, (blk_cell BK228.out 1).trans rfl, (blk_cell BK228.out 2).trans rfl, (blk_cell BK229.out 0).trans rfl, (blk_cell BK229.out 1).trans rfl, (blk_cell BK229.out 2).trans rfl⟩ (fun hHeld => ?_)
          clear hK K
          refine norm_ (a' := ?_) ?_ ?_
          rotate_left
          ·show Act.put _ (some 23) _ = _
           simp only [Act.put, List.setIfInBounds_toArray, List.set_cons_zero, List.set_cons_succ, i64_w, i32_w]
           rfl
          refine one_ (i := 5) (N := some 24) #[true, true, true, true, true, true, false, false] rfl rfl (one_of HT_.out (by kernel_rfl)) (by decide) (fun K hK => ?_)
          refine box_step ?hg (N := 24) ?hd (cs := #[.int .i64 0, .int .i64 0]) (t := 28) ?hr ?_; (case hd => rfl); (case hg => rfl); (case hr => first | (go_simp; done) | (go_simp; rfl))
          intro gb243 hg w147 hbox hb
          have n0_ := Aside0.mk (bkB BK228.out hb)
          have n1_ := Aside0.mk (bkB BK229.out hb)
          have n2_ := Aside0.mk (bkB BK233.out hb)
          have n3_ := Aside0.mk (bkB BK241.out hb)
          have n4_ := Aside0.mk (bkB BK242.out hb)
          have n5_ := Aside0.mk (below_step (belS HB.out) hb)
          have n6_ := Aside0.mk (hbox)
          have n7_ := Aside0.mk (szB hg HB.out)
          have n8_ := Aside0.mk (szB hg HB.out)
          have n9_ := Aside0.mk ((bk1 hg BK228.out))
          have n10_ := Aside0.mk ((bk2 hg BK228.out))
          have n11_ := Aside0.mk ((bk1 hg BK229.out))
          have n12_ := Aside0.mk ((bk2 hg BK229.out))
          have n13_ := Aside0.mk ((bk1 hg BK233.out))
          have n14_ := Aside0.mk ((bk2 hg BK233.out))
          have n15_ := Aside0.mk ((bk1 hg BK241.out))
          have n16_ := Aside0.mk ((bk2 hg BK241.out))
          have n17_ := Aside0.mk ((bk1 hg BK242.out))
          have n18_ := Aside0.mk ((bk2 hg BK242.out))
          clear BK228
          clear BK229
          clear BK233
          clear BK241
          clear BK242
          clear HB
          have BK228 := n0_
          have BK229 := n1_
          have BK233 := n2_
          have BK241 := n3_
          have BK242 := n4_
          have HB := n5_
          have BK243 := n6_
          have GW243 := n7_
          have GE243 := n8_
          have NB228_243 := n9_
          have NB243_228 := n10_
          have NB229_243 := n11_
          have NB243_229 := n12_
          have NB233_243 := n13_
          have NB243_233 := n14_
          have NB241_243 := n15_
          have NB243_241 := n16_
          have NB242_243 := n17_
          have NB243_242 := n18_
          clear n0_ n1_ n2_ n3_ n4_ n5_ n6_ n7_ n8_ n9_ n10_ n11_ n12_ n13_ n14_ n15_ n16_ n17_ n18_
          clear hb hbox hg
          refine hK.out _ _ ⟨(blk_cell BK228.out 0).trans rfl, (blk_cell BK228.out 1).trans rfl, (blk_cell BK228.out 2).trans rfl, (blk_cell BK229.out 0).trans rfl, (blk_cell BK229.out 1).trans rfl, (blk_cell BK229.out 2).trans rfl⟩ (fun hHeld => ?_)
          clear hK K
          refine norm_ (a' := ?_) ?_ ?_
          rotate_left
          ·show Act.put _ (some 24) _ = _
           simp only [Act.put, List.setIfInBounds_toArray, List.set_cons_zero, List.set_cons_succ, i64_w, i32_w]
           rfl
          exact norm_ (by simp only [putAll, Act.put, List.setIfInBounds_toArray, List.set_cons_zero, List.set_cons_succ]) (hCont (gb242, gb243) _ ⟨hHeld, (blkN BK228.out), (blkN BK229.out), (blkN BK233.out), (blkN BK241.out), (blkN BK242.out), (blkN BK243.out), GW242.out, GE242.out, NB228_242.out, NB242_228.out, NB229_242.out, NB242_229.out, NB233_242.out, NB242_233.out, NB241_242.out, NB242_241.out, NB243_242.out, NB242_243.out, GW243.out, GE243.out, NB228_243.out, NB243_228.out, NB229_243.out, NB243_229.out, NB233_243.out, NB243_233.out, NB241_243.out, NB243_241.out, (belS HB.out)⟩)
         ·skip
          refine box_step ?hg (N := 24) ?hd (cs := #[.int .i64 0, .int .i64 0]) (t := 28) ?hr ?_; (case hd => rfl); (case hg => rfl); (case hr => first | (go_simp; done) | (go_simp; rfl))
          intro gb243 hg w146 hbox hb
          have n0_ := Aside0.mk (bkB BK228.out hb)
          have n1_ := Aside0.mk (bkB BK229.out hb)
          have n2_ := Aside0.mk (bkB BK233.out hb)
          have n3_ := Aside0.mk (bkB BK241.out hb)
          have n4_ := Aside0.mk (below_step (belS HB.out) hb)
          have n5_ := Aside0.mk (hbox)
          have n6_ := Aside0.mk (szB hg HB.out)
          have n7_ := Aside0.mk (szB hg HB.out)
          have n8_ := Aside0.mk ((bk1 hg BK228.out))
          have n9_ := Aside0.mk ((bk2 hg BK228.out))
          have n10_ := Aside0.mk ((bk1 hg BK229.out))
          have n11_ := Aside0.mk ((bk2 hg BK229.out))
          have n12_ := Aside0.mk ((bk1 hg BK233.out))
          have n13_ := Aside0.mk ((bk2 hg BK233.out))
          have n14_ := Aside0.mk ((bk1 hg BK241.out))
          have n15_ := Aside0.mk ((bk2 hg BK241.out))
          clear BK228
          clear BK229
          clear BK233
          clear BK241
          clear HB
          have BK228 := n0_
          have BK229 := n1_
          have BK233 := n2_
          have BK241 := n3_
          have HB := n4_
          have BK243 := n5_
          have GW243 := n6_
          have GE243 := n7_
          have NB228_243 := n8_
          have NB243_228 := n9_
          have NB229_243 := n10_
          have NB243_229 := n11_
          have NB233_243 := n12_
          have NB243_233 := n13_
          have NB241_243 := n14_
          have NB243_241 := n15_
          clear n0_ n1_ n2_ n3_ n4_ n5_ n6_ n7_ n8_ n9_ n10_ n11_ n12_ n13_ n14_ n15_
          clear hb hbox hg
          refine hK.out _ _ ⟨(blk_cell BK228.out 0).trans rfl, (blk_cell BK228.out 1).trans rfl, (blk_cell BK228.out 2).trans rfl, (blk_cell BK229.out 0).trans rfl, (blk_cell BK229.out 1).trans rfl, (blk_cell BK229.out 2).trans rfl⟩ (fun hHeld => ?_)
          clear hK K
          refine norm_ (a' := ?_) ?_ ?_
          rotate_left
          ·show Act.put _ (some 24) _ = _
           simp only [Act.put, List.setIfInBounds_toArray, List.set_cons_zero, List.set_cons_succ, i64_w, i32_w]
           rfl
          refine one_ (i := 4) (N := some 23) #[true, true, true, true, true, true, false, false] rfl rfl (one_of HT_.out (by kernel_rfl)) (by decide) (fun K hK => ?_)
          refine box_step ?hg (N := 23) ?hd (cs := #[.int .i64 0, .int .i64 0]) (t := 28) ?hr ?_; (case hd => rfl); (case hg => rfl); (case hr => first | (go_simp; done) | (go_simp; rfl))
          intro gb242 hg w147 hbox hb
          have n0_ := Aside0.mk (bkB BK228.out hb)
          have n1_ := Aside0.mk (bkB BK229.out hb)
          have n2_ := Aside0.mk (bkB BK233.out hb)
          have n3_ := Aside0.mk (bkB BK241.out hb)
          have n4_ := Aside0.mk (bkB BK243.out hb)
          have n5_ := Aside0.mk (below_step (belS HB.out) hb)
          have n6_ := Aside0.mk (hbox)
          have n7_ := Aside0.mk (szB hg HB.out)
          have n8_ := Aside0.mk (szB hg HB.out)
          have n9_ := Aside0.mk ((bk1 hg BK228.out))
          have n10_ := Aside0.mk ((bk2 hg BK228.out))
          have n11_ := Aside0.mk ((bk1 hg BK229.out))
          have n12_ := Aside0.mk ((bk2 hg BK229.out))
          have n13_ := Aside0.mk ((bk1 hg BK233.out))
          have n14_ := Aside0.mk ((bk2 hg BK233.out))
          have n15_ := Aside0.mk ((bk1 hg BK241.out))
          have n16_ := Aside0.mk ((bk2 hg BK241.out))
          have n17_ := Aside0.mk ((bk1 hg BK243.out))
          have n18_ := Aside0.mk ((bk2 hg BK243.out))
          clear BK228
          clear BK229
          clear BK233
          clear BK241
          clear BK243
          clear HB
          have BK228 := n0_
          have BK229 := n1_
          have BK233 := n2_
          have BK241 := n3_
          have BK243 := n4_
          have HB := n5_
          have BK242 := n6_
          have GW242 := n7_
          have GE242 := n8_
          have NB228_242 := n9_
          have NB242_228 := n10_
          have NB229_242 := n11_
          have NB242_229 := n12_
          have NB233_242 := n13_
          have NB242_233 := n14_
          have NB241_242 := n15_
          have NB242_241 := n16_
          have NB243_242 := n17_
          have NB242_243 := n18_
          clear n0_ n1_ n2_ n3_ n4_ n5_ n6_ n7_ n8_ n9_ n10_ n11_ n12_ n13_ n14_ n15_ n16_ n17_ n18_
          clear hb hbox hg
          refine hK.out _ _ ⟨(blk_cell BK228.out 0).trans rfl, (blk_cell BK228.out 1).trans rfl, (blk_cell BK228.out 2).trans rfl, (blk_cell BK229.out 0).trans rfl, (blk_cell BK229.out 1).trans rfl, (blk_cell BK229.out 2).trans rfl⟩ (fun hHeld => ?_)
          clear hK K
          refine norm_ (a' := ?_) ?_ ?_
          rotate_left
          ·show Act.put _ (some 23) _ = _
           simp only [Act.put, List.setIfInBounds_toArray, List.set_cons_zero, List.set_cons_succ, i64_w, i32_w]
           rfl
          exact norm_ (by simp only [putAll, Act.put, List.setIfInBounds_toArray, List.set_cons_zero, List.set_cons_succ]) (hCont (gb242, gb243) _ ⟨hHeld, (blkN BK228.out), (blkN BK229.out), (blkN BK233.out), (blkN BK241.out), (blkN BK242.out), (blkN BK243.out), GW242.out, GE242.out, NB228_242.out, NB242_228.out, NB229_242.out, NB242_229.out, NB233_242.out, NB242_233.out, NB241_242.out, NB242_241.out, NB243_242.out, NB242_243.out, GW243.out, GE243.out, NB228_243.out, NB243_228.out, NB229_243.out, NB243_229.out, NB233_243.out, NB243_233.out, NB241_243.out, NB243_241.out, (belS HB.out)⟩)
        rintro ⟨gb242, gb243⟩ w148 ⟨hS_, h0_, h1_, h2_, h3_, h4_, h5_, h6_, h7_, h8_, h9_, h10_, h11_, h12_, h13_, h14_, h15_, h16_, h17_, h18_, h19_, h20_, h21_, h22_, h23_, h24_, h25_, h26_, h27_, h28_⟩
        have n0_ : Aside0 (w148.heap[gb228]? = some (.cells #[.int .i64 t225, .int .i64 (wrap64 (t224 + (wrap64 (t223 * t225)))), .int .i64 1] 30 (0, 0))) := ⟨h0_⟩
        have n1_ : Aside0 (w148.heap[gb229]? = some (.cells #[.int .i64 (wrap64 (t225 + t226)), .int .i64 (wrap64 (t224 + (wrap64 (t223 * (wrap64 (t225 + t226)))))), .int .i64 1] 30 (0, 0))) := ⟨h1_⟩
        have n2_ : Aside0 (w148.heap[gb233]? = some (.cells #[.int .i64 t230, .int .i64 t231] 28 (0, 0))) := ⟨h2_⟩
        have n3_ : Aside0 (w148.heap[gb241]? = some (.cells #[.int .i64 t237, .int .i64 t238] 28 (0, 0))) := ⟨h3_⟩
        have n4_ : Aside0 (w148.heap[gb242]? = some (.cells #[.int .i64 0, .int .i64 0] 28 (0, 0))) := ⟨h4_⟩
        have n5_ : Aside0 (w148.heap[gb243]? = some (.cells #[.int .i64 0, .int .i64 0] 28 (0, 0))) := ⟨h5_⟩
        have n6_ : Aside0 (w.heap.size ≤ gb242) := ⟨h6_⟩
        have n7_ : Aside0 (w.heap.size ≤ gb242) := ⟨h7_⟩
        have n8_ : Aside0 (gb228 ≠ gb242) := ⟨h8_⟩
        have n9_ : Aside0 (gb242 ≠ gb228) := ⟨h9_⟩
        have n10_ : Aside0 (gb229 ≠ gb242) := ⟨h10_⟩
        have n11_ : Aside0 (gb242 ≠ gb229) := ⟨h11_⟩
        have n12_ : Aside0 (gb233 ≠ gb242) := ⟨h12_⟩
        have n13_ : Aside0 (gb242 ≠ gb233) := ⟨h13_⟩
        have n14_ : Aside0 (gb241 ≠ gb242) := ⟨h14_⟩
        have n15_ : Aside0 (gb242 ≠ gb241) := ⟨h15_⟩
        have n16_ : Aside0 (gb243 ≠ gb242) := ⟨h16_⟩
        have n17_ : Aside0 (gb242 ≠ gb243) := ⟨h17_⟩
        have n18_ : Aside0 (w.heap.size ≤ gb243) := ⟨h18_⟩
        have n19_ : Aside0 (w.heap.size ≤ gb243) := ⟨h19_⟩
        have n20_ : Aside0 (gb228 ≠ gb243) := ⟨h20_⟩
        have n21_ : Aside0 (gb243 ≠ gb228) := ⟨h21_⟩
        have n22_ : Aside0 (gb229 ≠ gb243) := ⟨h22_⟩
        have n23_ : Aside0 (gb243 ≠ gb229) := ⟨h23_⟩
        have n24_ : Aside0 (gb233 ≠ gb243) := ⟨h24_⟩
        have n25_ : Aside0 (gb243 ≠ gb233) := ⟨h25_⟩
        have n26_ : Aside0 (gb241 ≠ gb243) := ⟨h26_⟩
        have n27_ : Aside0 (gb243 ≠ gb241) := ⟨h27_⟩
        have n28_ : Aside0 (Below w.heap.size w w148) := ⟨h28_⟩
        clear BK228
        clear BK229
        clear BK233
        clear BK241
        clear HB
        clear h0_ h1_ h2_ h3_ h4_ h5_ h6_ h7_ h8_ h9_ h10_ h11_ h12_ h13_ h14_ h15_ h16_ h17_ h18_ h19_ h20_ h21_ h22_ h23_ h24_ h25_ h26_ h27_ h28_
        have BK228 := n0_
        have BK229 := n1_
        have BK233 := n2_
        have BK241 := n3_
        have BK242 := n4_
        have BK243 := n5_
        have GW242 := n6_
        have GE242 := n7_
        have NB228_242 := n8_
        have NB242_228 := n9_
        have NB229_242 := n10_
        have NB242_229 := n11_
        have NB233_242 := n12_
        have NB242_233 := n13_
        have NB241_242 := n14_
        have NB242_241 := n15_
        have NB243_242 := n16_
        have NB242_243 := n17_
        have GW243 := n18_
        have GE243 := n19_
        have NB228_243 := n20_
        have NB243_228 := n21_
        have NB229_243 := n22_
        have NB243_229 := n23_
        have NB233_243 := n24_
        have NB243_233 := n25_
        have NB241_243 := n26_
        have NB243_241 := n27_
        have HB := n28_
        clear n0_ n1_ n2_ n3_ n4_ n5_ n6_ n7_ n8_ n9_ n10_ n11_ n12_ n13_ n14_ n15_ n16_ n17_ n18_ n19_ n20_ n21_ n22_ n23_ n24_ n25_ n26_ n27_ n28_
        have hHeld : w148.cell? ⟨gb228, 0, none⟩ = some (.int .i64 t225) ∧ w148.cell? ⟨gb228, 1, none⟩ = some (.int .i64 (wrap64 (t224 + (wrap64 (t223 * t225))))) ∧ w148.cell? ⟨gb228, 2, none⟩ = some (.int .i64 1) ∧ w148.cell? ⟨gb229, 0, none⟩ = some (.int .i64 (wrap64 (t225 + t226))) ∧ w148.cell? ⟨gb229, 1, none⟩ = some (.int .i64 (wrap64 (t224 + (wrap64 (t223 * (wrap64 (t225 + t226))))))) ∧ w148.cell? ⟨gb229, 2, none⟩ = some (.int .i64 1) := hS_
        refine norm_ (a' := ?_) ?_ ?_
        rotate_left
        ·simp only [putAll, Act.put, List.setIfInBounds_toArray, List.set_cons_zero, List.set_cons_succ]
         rfl
        refine one_ (i := 6) (N := none) #[true, true, true, true, true, true, true, false] rfl rfl (one_of HT_.out (by kernel_rfl)) (by decide) (fun K hK => ?_)
        have hs149 : w148.cell? ⟨gb242, 0, none⟩ = some (.int .i64 0) := (blk_cell BK242.out 0).trans rfl
        have hfs149 := blk_frozen BK242.out 0
        have hns149_0 := NB228_242.out
        have hns149_1 := NB229_242.out
        have hns149_2 := NB233_242.out
        have hns149_3 := NB241_242.out
        have hns149_5 := NB243_242.out
        have hms149_0 := NB242_228.out
        have hms149_1 := NB242_229.out
        have hms149_2 := NB242_233.out
        have hms149_3 := NB242_241.out
        have hms149_5 := NB242_243.out
        have hs150 : w148.cell? ⟨gb242, 1, none⟩ = some (.int .i64 0) := (blk_cell BK242.out 1).trans rfl
        have hfs150 := blk_frozen BK242.out 1
        have hns150_0 := NB228_242.out
        have hns150_1 := NB229_242.out
        have hns150_2 := NB233_242.out
        have hns150_3 := NB241_242.out
        have hns150_5 := NB243_242.out
        have hms150_0 := NB242_228.out
        have hms150_1 := NB242_229.out
        have hms150_2 := NB242_233.out
        have hms150_3 := NB242_241.out
        have hms150_5 := NB242_243.out
        refine skip_ (w1 := ?_) (by rfl) rfl ?_ ?_
        rotate_left
        ·go_simp
         rfl
        refine hK.out _ _ ⟨((cell_far (p := ⟨gb242, _, none⟩) NB228_242.out _).trans (((cell_far (p := ⟨gb242, _, none⟩) NB228_242.out _).trans (hHeld.1)))), ((cell_far (p := ⟨gb242, _, none⟩) NB228_242.out _).trans (((cell_far (p := ⟨gb242, _, none⟩) NB228_242.out _).trans (hHeld.2.1)))), ((cell_far (p := ⟨gb242, _, none⟩) NB228_242.out _).trans (((cell_far (p := ⟨gb242, _, none⟩) NB228_242.out _).trans (hHeld.2.2.1)))), ((cell_far (p := ⟨gb242, _, none⟩) NB229_242.out _).trans (((cell_far (p := ⟨gb242, _, none⟩) NB229_242.out _).trans (hHeld.2.2.2.1)))), ((cell_far (p := ⟨gb242, _, none⟩) NB229_242.out _).trans (((cell_far (p := ⟨gb242, _, none⟩) NB229_242.out _).trans (hHeld.2.2.2.2.1)))), ((cell_far (p := ⟨gb242, _, none⟩) NB229_242.out _).trans (((cell_far (p := ⟨gb242, _, none⟩) NB229_242.out _).trans (hHeld.2.2.2.2.2))))⟩ (fun hHeld => ?_)
        clear hK K
        refine one_ (i := 7) (N := none) #[true, true, true, true, true, true, true, true] rfl rfl (one_of HT_.out (by kernel_rfl)) (by decide) (fun K hK => ?_)
        have hs151 : w148.cell? ⟨gb243, 0, none⟩ = some (.int .i64 0) := (blk_cell BK243.out 0).trans rfl
        have hfs151 := blk_frozen BK243.out 0
        have hns151_0 := NB228_243.out
        have hns151_1 := NB229_243.out
        have hns151_2 := NB233_243.out
        have hns151_3 := NB241_243.out
        have hns151_4 := NB242_243.out
        have hms151_0 := NB243_228.out
        have hms151_1 := NB243_229.out
        have hms151_2 := NB243_233.out
        have hms151_3 := NB243_241.out
        have hms151_4 := NB243_242.out
        have hs152 : w148.cell? ⟨gb243, 1, none⟩ = some (.int .i64 0) := (blk_cell BK243.out 1).trans rfl
        have hfs152 := blk_frozen BK243.out 1
        have hns152_0 := NB228_243.out
        have hns152_1 := NB229_243.out
        have hns152_2 := NB233_243.out
        have hns152_3 := NB241_243.out
        have hns152_4 := NB242_243.out
        have hms152_0 := NB243_228.out
        have hms152_1 := NB243_229.out
        have hms152_2 := NB243_233.out
        have hms152_3 := NB243_241.out
        have hms152_4 := NB243_242.out
        refine skip_ (w1 := ?_) (by rfl) rfl ?_ ?_
        rotate_left
        ·go_simp
         rfl
        refine hK.out _ _ ⟨((cell_far (p := ⟨gb243, _, none⟩) NB228_243.out _).trans (((cell_far (p := ⟨gb243, _, none⟩) NB228_243.out _).trans (hHeld.1)))), ((cell_far (p := ⟨gb243, _, none⟩) NB228_243.out _).trans (((cell_far (p := ⟨gb243, _, none⟩) NB228_243.out _).trans (hHeld.2.1)))), ((cell_far (p := ⟨gb243, _, none⟩) NB228_243.out _).trans (((cell_far (p := ⟨gb243, _, none⟩) NB228_243.out _).trans (hHeld.2.2.1)))), ((cell_far (p := ⟨gb243, _, none⟩) NB229_243.out _).trans (((cell_far (p := ⟨gb243, _, none⟩) NB229_243.out _).trans (hHeld.2.2.2.1)))), ((cell_far (p := ⟨gb243, _, none⟩) NB229_243.out _).trans (((cell_far (p := ⟨gb243, _, none⟩) NB229_243.out _).trans (hHeld.2.2.2.2.1)))), ((cell_far (p := ⟨gb243, _, none⟩) NB229_243.out _).trans (((cell_far (p := ⟨gb243, _, none⟩) NB229_243.out _).trans (hHeld.2.2.2.2.2))))⟩ (fun hHeld => ?_)
        clear hK K
        refine done_ (done_of HT_.out (by kernel_rfl)) ?_
        have hnb153 := NB242_228.out
        have hnc153 := NB228_242.out
        have hnb154 := NB242_229.out
        have hnc154 := NB229_242.out
        have hnb155 := NB242_233.out
        have hnc155 := NB233_242.out
        have hnb156 := NB242_241.out
        have hnc156 := NB241_242.out
        have hnb157 := NB242_243.out
        have hnc157 := NB243_242.out
        have hcz158_0 : w148.cell? ⟨gb242, 0, none⟩ = some (.int .i64 0) := (blk_cell BK242.out 0).trans rfl
        have hcz158_1 : w148.cell? ⟨gb242, 1, none⟩ = some (.int .i64 0) := (blk_cell BK242.out 1).trans rfl
        have hfz158_0 := blk_frozen BK242.out 0
        have hfz158_1 := blk_frozen BK242.out 1
        have hnb159 := NB233_228.out
        have hnc159 := NB228_233.out
        have hnb160 := NB233_229.out
        have hnc160 := NB229_233.out
        have hnb161 := NB233_241.out
        have hnc161 := NB241_233.out
        have hnb162 := NB233_243.out
        have hnc162 := NB243_233.out
        have hcz163_0 : w148.cell? ⟨gb233, 0, none⟩ = some (.int .i64 t230) := (blk_cell BK233.out 0).trans rfl
        have hcz163_1 : w148.cell? ⟨gb233, 1, none⟩ = some (.int .i64 t231) := (blk_cell BK233.out 1).trans rfl
        have hfz163_0 := blk_frozen BK233.out 0
        have hfz163_1 := blk_frozen BK233.out 1
        try go_wp2_with (first | ((with_reducible refine gate_callee (f := 21) rfl ?_); refine goesL_ (some 111) rfl rfl Try.func21 (by kernel_rfl) rfl #[.agg #[.int .i64 (wrap64 (t224 + (wrap64 (t223 * t225)))), .int .i64 1], .agg #[.int .i64 t230, .int .i64 t231]] rfl argN ?_; (with_reducible refine (marigraphref1_Cmp.calls kj13 (wrap64 (t224 + (wrap64 (t223 * t225)))) 1 t230 t231 t247 _ A140.out).mono ?_); rintro e w164 ⟨rfl, hb⟩; refine ⟨_, rfl, ?_⟩; have n0_ := Aside0.mk (bkBF BK228.out hb); have n1_ := Aside0.mk (bkBF BK229.out hb); have n2_ := Aside0.mk (bkBF BK233.out hb); have n3_ := Aside0.mk (bkBF BK241.out hb); have n4_ := Aside0.mk (blk_below (g := gb242) (o := .cells #[.int .i64 (wrap64 (t224 + (wrap64 (t223 * t225)))), .int .i64 1] 28 (0, 0)) (by (with_reducible repeat (first | refine blk_drewN ?_ _ | refine blk_drew ?_ | refine blk_alloc ?_ _)); refine blk_far ?_ NB242_243.out _; (with_reducible repeat (first | refine blk_drewN ?_ _ | refine blk_drew ?_ | refine blk_alloc ?_ _)); refine blk_far ?_ NB242_243.out _; (with_reducible repeat (first | refine blk_drewN ?_ _ | refine blk_drew ?_ | refine blk_alloc ?_ _)); refine blk_put (cs := #[.int .i64 (wrap64 (t224 + (wrap64 (t223 * t225)))), .int .i64 0]) ?_ 1 _ rfl; (with_reducible repeat (first | refine blk_drewN ?_ _ | refine blk_drew ?_ | refine blk_alloc ?_ _)); refine blk_put (cs := #[.int .i64 0, .int .i64 0]) ?_ 0 _ rfl; (with_reducible repeat (first | refine blk_drewN ?_ _ | refine blk_drew ?_ | refine blk_alloc ?_ _)); exact BK242.out) hb); have n5_ := Aside0.mk (blk_below (g := gb243) (o := .cells #[.int .i64 (wrap64 (t224 + (wrap64 (t223 * (wrap64 (t225 + t226)))))), .int .i64 1] 28 (0, 0)) (by (with_reducible repeat (first | refine blk_drewN ?_ _ | refine blk_drew ?_ | refine blk_alloc ?_ _)); refine blk_put (cs := #[.int .i64 (wrap64 (t224 + (wrap64 (t223 * (wrap64 (t225 + t226)))))), .int .i64 0]) ?_ 1 _ rfl; (with_reducible repeat (first | refine blk_drewN ?_ _ | refine blk_drew ?_ | refine blk_alloc ?_ _)); refine blk_put (cs := #[.int .i64 0, .int .i64 0]) ?_ 0 _ rfl; (with_reducible repeat (first | refine blk_drewN ?_ _ | refine blk_drew ?_ | refine blk_alloc ?_ _)); refine blk_far ?_ NB243_242.out _; (with_reducible repeat (first | refine blk_drewN ?_ _ | refine blk_drew ?_ | refine blk_alloc ?_ _)); refine blk_far ?_ NB243_242.out _; (with_reducible repeat (first | refine blk_drewN ?_ _ | refine blk_drew ?_ | refine blk_alloc ?_ _)); exact BK243.out) hb); have n6_ := Aside0.mk (below_step (belS HB.out) hb); clear BK228; clear BK229; clear BK233; clear BK241; clear BK242; clear BK243; clear HB; have BK228 := n0_; have BK229 := n1_; have BK233 := n2_; have BK241 := n3_; have BK242 := n4_; have BK243 := n5_; have HB := n6_; clear n0_ n1_ n2_ n3_ n4_ n5_ n6_; (try clear hb); (try clear hb2); (try clear hk); (try clear hi); have hcz165_0 : w164.cell? ⟨gb233, 0, none⟩ = some (.int .i64 t230) := (blk_cell BK233.out 0).trans rfl; have hcz165_1 : w164.cell? ⟨gb233, 1, none⟩ = some (.int .i64 t231) := (blk_cell BK233.out 1).trans rfl; have hfz165_0 := blk_frozen BK233.out 0; have hfz165_1 := blk_frozen BK233.out 1; have hnb166 := NB243_228.out; have hnc166 := NB228_243.out; have hnb167 := NB243_229.out; have hnc167 := NB229_243.out; have hnb168 := NB243_241.out; have hnc168 := NB241_243.out; have hcz169_0 : w164.cell? ⟨gb243, 0, none⟩ = some (.int .i64 (wrap64 (t224 + (wrap64 (t223 * (wrap64 (t225 + t226))))))) := (blk_cell BK243.out 0).trans rfl; have hcz169_1 : w164.cell? ⟨gb243, 1, none⟩ = some (.int .i64 1) := (blk_cell BK243.out 1).trans rfl; have hfz169_0 := blk_frozen BK243.out 0; have hfz169_1 := blk_frozen BK243.out 1) | (go_at_call 21; (with_reducible refine (marigraphref1_Cmp.calls kj13 t230 t231 (wrap64 (t224 + (wrap64 (t223 * (wrap64 (t225 + t226)))))) 1 t248 _ A142.out).mono ?_); rintro e w170 ⟨rfl, hb⟩; have n0_ := Aside0.mk (bkB BK228.out hb); have n1_ := Aside0.mk (bkB BK229.out hb); have n2_ := Aside0.mk (bkB BK233.out hb); have n3_ := Aside0.mk (bkB BK241.out hb); have n4_ := Aside0.mk (bkB BK242.out hb); have n5_ := Aside0.mk (bkB BK243.out hb); have n6_ := Aside0.mk (below_step (belS HB.out) hb); clear BK228; clear BK229; clear BK233; clear BK241; clear BK242; clear BK243; clear HB; have BK228 := n0_; have BK229 := n1_; have BK233 := n2_; have BK241 := n3_; have BK242 := n4_; have BK243 := n5_; have HB := n6_; clear n0_ n1_ n2_ n3_ n4_ n5_ n6_; (try clear hb); (try clear hb2); (try clear hk); (try clear hi)) | (go_at_call 17; (with_reducible refine (marigraphlaw22_known.calls kj13  t249 _ A144.out).mono ?_); rintro e w171 ⟨rfl, hb⟩; have n0_ := Aside0.mk (bkB BK228.out hb); have n1_ := Aside0.mk (bkB BK229.out hb); have n2_ := Aside0.mk (bkB BK233.out hb); have n3_ := Aside0.mk (bkB BK241.out hb); have n4_ := Aside0.mk (bkB BK242.out hb); have n5_ := Aside0.mk (bkB BK243.out hb); have n6_ := Aside0.mk (below_step (belS HB.out) hb); clear BK228; clear BK229; clear BK233; clear BK241; clear BK242; clear BK243; clear HB; have BK228 := n0_; have BK229 := n1_; have BK233 := n2_; have BK241 := n3_; have BK242 := n4_; have BK243 := n5_; have HB := n6_; clear n0_ n1_ n2_ n3_ n4_ n5_ n6_; (try clear hb); (try clear hb2); (try clear hk); (try clear hi)))
        go_ret
        exact ⟨by first | rfl | (simp [errW_none, errW_some] <;> rfl) | (simp [*, errW_none, errW_some] <;> rfl), (belS HB.out)⟩
       ·rw [if_neg c143] at H
        have c143b0 : decide (t248 ≤ 0) = false := decide_eq_false c143
        clear c143
        obtain rfl := Option.some.inj H
        try go_wp2
        have n0_ := Aside0.mk (blk_drew BK228.out)
        have n1_ := Aside0.mk (blk_drew BK229.out)
        have n2_ := Aside0.mk (blk_drew BK233.out)
        have n3_ := Aside0.mk (blk_drew BK241.out)
        have n4_ := Aside0.mk (below_drew1 HB.out)
        clear BK228
        clear BK229
        clear BK233
        clear BK241
        clear HB
        have BK228 := n0_
        have BK229 := n1_
        have BK233 := n2_
        have BK241 := n3_
        have HB := n4_
        clear n0_ n1_ n2_ n3_ n4_
        refine start_ (n := 8) (S := fun w' => w'.cell? ⟨gb228, 0, none⟩ = some (.int .i64 t225) ∧ w'.cell? ⟨gb228, 1, none⟩ = some (.int .i64 (wrap64 (t224 + (wrap64 (t223 * t225))))) ∧ w'.cell? ⟨gb228, 2, none⟩ = some (.int .i64 1) ∧ w'.cell? ⟨gb229, 0, none⟩ = some (.int .i64 (wrap64 (t225 + t226))) ∧ w'.cell? ⟨gb229, 1, none⟩ = some (.int .i64 (wrap64 (t224 + (wrap64 (t223 * (wrap64 (t225 + t226))))))) ∧ w'.cell? ⟨gb229, 2, none⟩ = some (.int .i64 1)) (ds := []) #[false, false, false, false, false, false, false, false] (by kernel_rfl) rfl rfl ⟨(blk_cell BK228.out 0).trans rfl, (blk_cell BK228.out 1).trans rfl, (blk_cell BK228.out 2).trans rfl, (blk_cell BK229.out 0).trans rfl, (blk_cell BK229.out 1).trans rfl, (blk_cell BK229.out 2).trans rfl⟩ (fun hHeld => ?_); refine with_tabW marigraphlaw22_LerpLines.tab10 marigraphlaw22_LerpLines.bits10 (fun HT_ HW_ => ?_)
        generalize wc.drew = w172 at BK228 BK229 BK233 BK241 HB hHeld ⊢
        refine pure_ (i := 0) (N := some 101) (v := ?_) (a' := ?_) #[true, false, false, false, false, false, false, false] rfl rfl (any_of HT_.out (by kernel_rfl)) (fun _ _ _ h => h) (Or.inl ⟨by rfl, ?_⟩) ?_ ?_
        rotate_left
        ·intro w'
         go_simp
         with_reducible rfl
        rotate_left
        ·simp only [Act.put, List.setIfInBounds_toArray, List.set_cons_zero, List.set_cons_succ, i64_w, i32_w]
         rfl
        refine pure_ (i := 2) (N := some 103) (v := ?_) (a' := ?_) #[true, false, true, false, false, false, false, false] rfl rfl (any_of HT_.out (by kernel_rfl)) (fun _ _ _ h => h) (Or.inl ⟨by rfl, ?_⟩) ?_ ?_
        rotate_left
        ·intro w'
         go_simp
         with_reducible rfl
        rotate_left
        ·simp only [Act.put, List.setIfInBounds_toArray, List.set_cons_zero, List.set_cons_succ, i64_w, i32_w]
         rfl
        refine take_ (i := 1) (N := some 102) (v := ?_) (a' := ?_) #[true, true, true, false, false, false, false, false] rfl rfl (take_ofW HT_.out HW_.out (by kernel_rfl)) (fun _ _ _ h => h) (Or.inl ⟨by rfl, ?_⟩) hHeld ?_ ?_
        rotate_left
        ·rintro w' ⟨s0, s1, s2, s3, s4, s5⟩
         go_simp
         with_reducible rfl
        rotate_left
        ·simp only [Act.put, List.setIfInBounds_toArray, List.set_cons_zero, List.set_cons_succ, i64_w, i32_w]
         rfl
        refine take_ (i := 3) (N := some 104) (v := ?_) (a' := ?_) #[true, true, true, true, false, false, false, false] rfl rfl (take_ofW HT_.out HW_.out (by kernel_rfl)) (fun _ _ _ h => h) (Or.inl ⟨by rfl, ?_⟩) hHeld ?_ ?_
        rotate_left
        ·rintro w' ⟨s0, s1, s2, s3, s4, s5⟩
         go_simp
         with_reducible rfl
        rotate_left
        ·simp only [Act.put, List.setIfInBounds_toArray, List.set_cons_zero, List.set_cons_succ, i64_w, i32_w]
         rfl
        refine join_ (σ := Nat × Nat) 2 #[true, true, true, true, true, true, false, false] (fun s_ => [(23, .pointer (some ⟨s_.1, 0, none⟩)), (24, .pointer (some ⟨s_.2, 0, none⟩))]) (fun s_ w' => (w'.cell? ⟨gb228, 0, none⟩ = some (.int .i64 t225) ∧ w'.cell? ⟨gb228, 1, none⟩ = some (.int .i64 (wrap64 (t224 + (wrap64 (t223 * t225))))) ∧ w'.cell? ⟨gb228, 2, none⟩ = some (.int .i64 1) ∧ w'.cell? ⟨gb229, 0, none⟩ = some (.int .i64 (wrap64 (t225 + t226))) ∧ w'.cell? ⟨gb229, 1, none⟩ = some (.int .i64 (wrap64 (t224 + (wrap64 (t223 * (wrap64 (t225 + t226))))))) ∧ w'.cell? ⟨gb229, 2, none⟩ = some (.int .i64 1)) ∧ (w'.heap[gb228]? = some (.cells #[.int .i64 t225, .int .i64 (wrap64 (t224 + (wrap64 (t223 * t225)))), .int .i64 1] 30 (0, 0))) ∧ (w'.heap[gb229]? = some (.cells #[.int .i64 (wrap64 (t225 + t226)), .int .i64 (wrap64 (t224 + (wrap64 (t223 * (wrap64 (t225 + t226)))))), .int .i64 1] 30 (0, 0))) ∧ (w'.heap[gb233]? = some (.cells #[.int .i64 t230, .int .i64 t231] 28 (0, 0))) ∧ (w'.heap[gb241]? = some (.cells #[.int .i64 t237, .int .i64 t238] 28 (0, 0))) ∧ (w'.heap[s_.1]? = some (.cells #[.int .i64 0, .int .i64 0] 28 (0, 0))) ∧ (w'.heap[s_.2]? = some (.cells #[.int .i64 0, .int .i64 0] 28 (0, 0))) ∧ (w.heap.size ≤ s_.1) ∧ (w.heap.size ≤ s_.1) ∧ (gb228 ≠ s_.1) ∧ (s_.1 ≠ gb228) ∧ (gb229 ≠ s_.1) ∧ (s_.1 ≠ gb229) ∧ (gb233 ≠ s_.1) ∧ (s_.1 ≠ gb233) ∧ (gb241 ≠ s_.1) ∧ (s_.1 ≠ gb241) ∧ (s_.2 ≠ s_.1) ∧ (s_.1 ≠ s_.2) ∧ (w.heap.size ≤ s_.2) ∧ (w.heap.size ≤ s_.2) ∧ (gb228 ≠ s_.2) ∧ (s_.2 ≠ gb228) ∧ (gb229 ≠ s_.2) ∧ (s_.2 ≠ gb229) ∧ (gb233 ≠ s_.2) ∧ (s_.2 ≠ gb233) ∧ (gb241 ≠ s_.2) ∧ (s_.2 ≠ gb241) ∧ (Below w.heap.size w w')) ?_ ?_
        rotate_left
        ·intro hCont
         refine two_ (i := 4) (j := 5) (Ni := some 23) (Nj := some 24) #[true, true, true, true, true, false, false, false] #[true, true, true, true, false, true, false, false] rfl rfl rfl rfl (two_of HT_.out (by kernel_rfl)) (by decide) (by decide) (fun K hK => ?_) (fun K hK => ?_)
         ·skip
          refine box_step ?hg (N := 23) ?hd (cs := #[.int .i64 0, .int .i64 0]) (t := 28) ?hr ?_; (case hd => rfl); (case hg => rfl); (case hr => first | (go_simp; done) | (go_simp; rfl))
          intro gb242 hg w173 hbox hb
          have n0_ := Aside0.mk (bkB BK228.out hb)
          have n1_ := Aside0.mk (bkB BK229.out hb)
          have n2_ := Aside0.mk (bkB BK233.out hb)
          have n3_ := Aside0.mk (bkB BK241.out hb)
          have n4_ := Aside0.mk (below_step (belS HB.out) hb)
          have n5_ := Aside0.mk (hbox)
          have n6_ := Aside0.mk (szB hg HB.out)
          have n7_ := Aside0.mk (szB hg HB.out)
          have n8_ := Aside0.mk ((bk1 hg BK228.out))
          have n9_ := Aside0.mk ((bk2 hg BK228.out))
          have n10_ := Aside0.mk ((bk1 hg BK229.out))
          have n11_ := Aside0.mk ((bk2 hg BK229.out))
          have n12_ := Aside0.mk ((bk1 hg BK233.out))
          have n13_ := Aside0.mk ((bk2 hg BK233.out))
          have n14_ := Aside0.mk ((bk1 hg BK241.out))
          have n15_ := Aside0.mk ((bk2 hg BK241.out))
          clear BK228
          clear BK229
          clear BK233
          clear BK241
          clear HB
          have BK228 := n0_
          have BK229 := n1_
          have BK233 := n2_
          have BK241 := n3_
          have HB := n4_
          have BK242 := n5_
          have GW242 := n6_
          have GE242 := n7_
          have NB228_242 := n8_
          have NB242_228 := n9_
          have NB229_242 := n10_
          have NB242_229 := n11_
          have NB233_242 := n12_
          have NB242_233 := n13_
          have NB241_242 := n14_
          have NB242_241 := n15_
          clear n0_ n1_ n2_ n3_ n4_ n5_ n6_ n7_ n8_ n9_ n10_ n11_ n12_ n13_ n14_ n15_
          clear hb hbox hg
          refine hK.out _ _ ⟨(blk_cell BK228.out 0).trans rfl, (blk_cell BK228.out 1).trans rfl, (blk_cell BK228.out 2).trans rfl, (blk_cell BK229.out 0).trans rfl, (blk_cell BK229.out 1).trans rfl, (blk_cell BK229.out 2).trans rfl⟩ (fun hHeld => ?_)
          clear hK K
          refine norm_ (a' := ?_) ?_ ?_
          rotate_left
          ·show Act.put _ (some 23) _ = _
           simp only [Act.put, List.setIfInBounds_toArray, List.set_cons_zero, List.set_cons_succ, i64_w, i32_w]
           rfl
          refine one_ (i := 5) (N := some 24) #[true, true, true, true, true, true, false, false] rfl rfl (one_of HT_.out (by kernel_rfl)) (by decide) (fun K hK => ?_)
          refine box_step ?hg (N := 24) ?hd (cs := #[.int .i64 0, .int .i64 0]) (t := 28) ?hr ?_; (case hd => rfl); (case hg => rfl); (case hr => first | (go_simp; done) | (go_simp; rfl))
          intro gb243 hg w174 hbox hb
          have n0_ := Aside0.mk (bkB BK228.out hb)
          have n1_ := Aside0.mk (bkB BK229.out hb)
          have n2_ := Aside0.mk (bkB BK233.out hb)
          have n3_ := Aside0.mk (bkB BK241.out hb)
          have n4_ := Aside0.mk (bkB BK242.out hb)
          have n5_ := Aside0.mk (below_step (belS HB.out) hb)
          have n6_ := Aside0.mk (hbox)
          have n7_ := Aside0.mk (szB hg HB.out)
          have n8_ := Aside0.mk (szB hg HB.out)
          have n9_ := Aside0.mk ((bk1 hg BK228.out))
          have n10_ := Aside0.mk ((bk2 hg BK228.out))
          have n11_ := Aside0.mk ((bk1 hg BK229.out))
          have n12_ := Aside0.mk ((bk2 hg BK229.out))
          have n13_ := Aside0.mk ((bk1 hg BK233.out))
          have n14_ := Aside0.mk ((bk2 hg BK233.out))
          have n15_ := Aside0.mk ((bk1 hg BK241.out))
          have n16_ := Aside0.mk ((bk2 hg BK241.out))
          have n17_ := Aside0.mk ((bk1 hg BK242.out))
          have n18_ := Aside0.mk ((bk2 hg BK242.out))
          clear BK228
          clear BK229
          clear BK233
          clear BK241
          clear BK242
          clear HB
          have BK228 := n0_
          have BK229 := n1_
          have BK233 := n2_
          have BK241 := n3_
          have BK242 := n4_
          have HB := n5_
          have BK243 := n6_
          have GW243 := n7_
          have GE243 := n8_
          have NB228_243 := n9_
          have NB243_228 := n10_
          have NB229_243 := n11_
          have NB243_229 := n12_
          have NB233_243 := n13_
          have NB243_233 := n14_
          have NB241_243 := n15_
          have NB243_241 := n16_
          have NB242_243 := n17_
          have NB243_242 := n18_
          clear n0_ n1_ n2_ n3_ n4_ n5_ n6_ n7_ n8_ n9_ n10_ n11_ n12_ n13_ n14_ n15_ n16_ n17_ n18_
          clear hb hbox hg
          refine hK.out _ _ ⟨(blk_cell BK228.out 0).trans rfl, (blk_cell BK228.out 1).trans rfl, (blk_cell BK228.out 2).trans rfl, (blk_cell BK229.out 0).trans rfl, (blk_cell BK229.out 1).trans rfl, (blk_cell BK229.out 2).trans rfl⟩ (fun hHeld => ?_)
          clear hK K
          refine norm_ (a' := ?_) ?_ ?_
          rotate_left
          ·show Act.put _ (some 24) _ = _
           simp only [Act.put, List.setIfInBounds_toArray, List.set_cons_zero, List.set_cons_succ, i64_w, i32_w]
           rfl
          exact norm_ (by simp only [putAll, Act.put, List.setIfInBounds_toArray, List.set_cons_zero, List.set_cons_succ]) (hCont (gb242, gb243) _ ⟨hHeld, (blkN BK228.out), (blkN BK229.out), (blkN BK233.out), (blkN BK241.out), (blkN BK242.out), (blkN BK243.out), GW242.out, GE242.out, NB228_242.out, NB242_228.out, NB229_242.out, NB242_229.out, NB233_242.out, NB242_233.out, NB241_242.out, NB242_241.out, NB243_242.out, NB242_243.out, GW243.out, GE243.out, NB228_243.out, NB243_228.out, NB229_243.out, NB243_229.out, NB233_243.out, NB243_233.out, NB241_243.out, NB243_241.out, (belS HB.out)⟩)
         ·skip
          refine box_step ?hg (N := 24) ?hd (cs := #[.int .i64 0, .int .i64 0]) (t := 28) ?hr ?_; (case hd => rfl); (case hg => rfl); (case hr => first | (go_simp; done) | (go_simp; rfl))
          intro gb243 hg w173 hbox hb
          have n0_ := Aside0.mk (bkB BK228.out hb)
          have n1_ := Aside0.mk (bkB BK229.out hb)
          have n2_ := Aside0.mk (bkB BK233.out hb)
          have n3_ := Aside0.mk (bkB BK241.out hb)
          have n4_ := Aside0.mk (below_step (belS HB.out) hb)
          have n5_ := Aside0.mk (hbox)
          have n6_ := Aside0.mk (szB hg HB.out)
          have n7_ := Aside0.mk (szB hg HB.out)
          have n8_ := Aside0.mk ((bk1 hg BK228.out))
          have n9_ := Aside0.mk ((bk2 hg BK228.out))
          have n10_ := Aside0.mk ((bk1 hg BK229.out))
          have n11_ := Aside0.mk ((bk2 hg BK229.out))
          have n12_ := Aside0.mk ((bk1 hg BK233.out))
          have n13_ := Aside0.mk ((bk2 hg BK233.out))
          have n14_ := Aside0.mk ((bk1 hg BK241.out))
          have n15_ := Aside0.mk ((bk2 hg BK241.out))
          clear BK228
          clear BK229
          clear BK233
          clear BK241
          clear HB
          have BK228 := n0_
          have BK229 := n1_
          have BK233 := n2_
          have BK241 := n3_
          have HB := n4_
          have BK243 := n5_
          have GW243 := n6_
          have GE243 := n7_
          have NB228_243 := n8_
          have NB243_228 := n9_
          have NB229_243 := n10_
          have NB243_229 := n11_
          have NB233_243 := n12_
          have NB243_233 := n13_
          have NB241_243 := n14_
          have NB243_241 := n15_
          clear n0_ n1_ n2_ n3_ n4_ n5_ n6_ n7_ n8_ n9_ n10_ n11_ n12_ n13_ n14_ n15_
          clear hb hbox hg
          refine hK.out _ _ ⟨(blk_cell BK228.out 0).trans rfl, (blk_cell BK228.out 1).trans rfl, (blk_cell BK228.out 2).trans rfl, (blk_cell BK229.out 0).trans rfl, (blk_cell BK229.out 1).trans rfl, (blk_cell BK229.out 2).trans rfl⟩ (fun hHeld => ?_)
          clear hK K
          refine norm_ (a' := ?_) ?_ ?_
          rotate_left
          ·show Act.put _ (some 24) _ = _
           simp only [Act.put, List.setIfInBounds_toArray, List.set_cons_zero, List.set_cons_succ, i64_w, i32_w]
           rfl
          refine one_ (i := 4) (N := some 23) #[true, true, true, true, true, true, false, false] rfl rfl (one_of HT_.out (by kernel_rfl)) (by decide) (fun K hK => ?_)
          refine box_step ?hg (N := 23) ?hd (cs := #[.int .i64 0, .int .i64 0]) (t := 28) ?hr ?_; (case hd => rfl); (case hg => rfl); (case hr => first | (go_simp; done) | (go_simp; rfl))
          intro gb242 hg w174 hbox hb
          have n0_ := Aside0.mk (bkB BK228.out hb)
          have n1_ := Aside0.mk (bkB BK229.out hb)
          have n2_ := Aside0.mk (bkB BK233.out hb)
          have n3_ := Aside0.mk (bkB BK241.out hb)
          have n4_ := Aside0.mk (bkB BK243.out hb)
          have n5_ := Aside0.mk (below_step (belS HB.out) hb)
          have n6_ := Aside0.mk (hbox)
          have n7_ := Aside0.mk (szB hg HB.out)
          have n8_ := Aside0.mk (szB hg HB.out)
          have n9_ := Aside0.mk ((bk1 hg BK228.out))
          have n10_ := Aside0.mk ((bk2 hg BK228.out))
          have n11_ := Aside0.mk ((bk1 hg BK229.out))
          have n12_ := Aside0.mk ((bk2 hg BK229.out))
          have n13_ := Aside0.mk ((bk1 hg BK233.out))
          have n14_ := Aside0.mk ((bk2 hg BK233.out))
          have n15_ := Aside0.mk ((bk1 hg BK241.out))
          have n16_ := Aside0.mk ((bk2 hg BK241.out))
          have n17_ := Aside0.mk ((bk1 hg BK243.out))
          have n18_ := Aside0.mk ((bk2 hg BK243.out))
          clear BK228
          clear BK229
          clear BK233
          clear BK241
          clear BK243
          clear HB
          have BK228 := n0_
          have BK229 := n1_
          have BK233 := n2_
          have BK241 := n3_
          have BK243 := n4_
          have HB := n5_
          have BK242 := n6_
          have GW242 := n7_
          have GE242 := n8_
          have NB228_242 := n9_
          have NB242_228 := n10_
          have NB229_242 := n11_
          have NB242_229 := n12_
          have NB233_242 := n13_
          have NB242_233 := n14_
          have NB241_242 := n15_
          have NB242_241 := n16_
          have NB243_242 := n17_
          have NB242_243 := n18_
          clear n0_ n1_ n2_ n3_ n4_ n5_ n6_ n7_ n8_ n9_ n10_ n11_ n12_ n13_ n14_ n15_ n16_ n17_ n18_
          clear hb hbox hg
          refine hK.out _ _ ⟨(blk_cell BK228.out 0).trans rfl, (blk_cell BK228.out 1).trans rfl, (blk_cell BK228.out 2).trans rfl, (blk_cell BK229.out 0).trans rfl, (blk_cell BK229.out 1).trans rfl, (blk_cell BK229.out 2).trans rfl⟩ (fun hHeld => ?_)
          clear hK K
          refine norm_ (a' := ?_) ?_ ?_
          rotate_left
          ·show Act.put _ (some 23) _ = _
           simp only [Act.put, List.setIfInBounds_toArray, List.set_cons_zero, List.set_cons_succ, i64_w, i32_w]
           rfl
          exact norm_ (by simp only [putAll, Act.put, List.setIfInBounds_toArray, List.set_cons_zero, List.set_cons_succ]) (hCont (gb242, gb243) _ ⟨hHeld, (blkN BK228.out), (blkN BK229.out), (blkN BK233.out), (blkN BK241.out), (blkN BK242.out), (blkN BK243.out), GW242.out, GE242.out, NB228_242.out, NB242_228.out, NB229_242.out, NB242_229.out, NB233_242.out, NB242_233.out, NB241_242.out, NB242_241.out, NB243_242.out, NB242_243.out, GW243.out, GE243.out, NB228_243.out, NB243_228.out, NB229_243.out, NB243_229.out, NB233_243.out, NB243_233.out, NB241_243.out, NB243_241.out, (belS HB.out)⟩)
        rintro ⟨gb242, gb243⟩ w175 ⟨hS_, h0_, h1_, h2_, h3_, h4_, h5_, h6_, h7_, h8_, h9_, h10_, h11_, h12_, h13_, h14_, h15_, h16_, h17_, h18_, h19_, h20_, h21_, h22_, h23_, h24_, h25_, h26_, h27_, h28_⟩
        have n0_ : Aside0 (w175.heap[gb228]? = some (.cells #[.int .i64 t225, .int .i64 (wrap64 (t224 + (wrap64 (t223 * t225)))), .int .i64 1] 30 (0, 0))) := ⟨h0_⟩
        have n1_ : Aside0 (w175.heap[gb229]? = some (.cells #[.int .i64 (wrap64 (t225 + t226)), .int .i64 (wrap64 (t224 + (wrap64 (t223 * (wrap64 (t225 + t226)))))), .int .i64 1] 30 (0, 0))) := ⟨h1_⟩
        have n2_ : Aside0 (w175.heap[gb233]? = some (.cells #[.int .i64 t230, .int .i64 t231] 28 (0, 0))) := ⟨h2_⟩
        have n3_ : Aside0 (w175.heap[gb241]? = some (.cells #[.int .i64 t237, .int .i64 t238] 28 (0, 0))) := ⟨h3_⟩
        have n4_ : Aside0 (w175.heap[gb242]? = some (.cells #[.int .i64 0, .int .i64 0] 28 (0, 0))) := ⟨h4_⟩
        have n5_ : Aside0 (w175.heap[gb243]? = some (.cells #[.int .i64 0, .int .i64 0] 28 (0, 0))) := ⟨h5_⟩
        have n6_ : Aside0 (w.heap.size ≤ gb242) := ⟨h6_⟩
        have n7_ : Aside0 (w.heap.size ≤ gb242) := ⟨h7_⟩
        have n8_ : Aside0 (gb228 ≠ gb242) := ⟨h8_⟩
        have n9_ : Aside0 (gb242 ≠ gb228) := ⟨h9_⟩
        have n10_ : Aside0 (gb229 ≠ gb242) := ⟨h10_⟩
        have n11_ : Aside0 (gb242 ≠ gb229) := ⟨h11_⟩
        have n12_ : Aside0 (gb233 ≠ gb242) := ⟨h12_⟩
        have n13_ : Aside0 (gb242 ≠ gb233) := ⟨h13_⟩
        have n14_ : Aside0 (gb241 ≠ gb242) := ⟨h14_⟩
        have n15_ : Aside0 (gb242 ≠ gb241) := ⟨h15_⟩
        have n16_ : Aside0 (gb243 ≠ gb242) := ⟨h16_⟩
        have n17_ : Aside0 (gb242 ≠ gb243) := ⟨h17_⟩
        have n18_ : Aside0 (w.heap.size ≤ gb243) := ⟨h18_⟩
        have n19_ : Aside0 (w.heap.size ≤ gb243) := ⟨h19_⟩
        have n20_ : Aside0 (gb228 ≠ gb243) := ⟨h20_⟩
        have n21_ : Aside0 (gb243 ≠ gb228) := ⟨h21_⟩
        have n22_ : Aside0 (gb229 ≠ gb243) := ⟨h22_⟩
        have n23_ : Aside0 (gb243 ≠ gb229) := ⟨h23_⟩
        have n24_ : Aside0 (gb233 ≠ gb243) := ⟨h24_⟩
        have n25_ : Aside0 (gb243 ≠ gb233) := ⟨h25_⟩
        have n26_ : Aside0 (gb241 ≠ gb243) := ⟨h26_⟩
        have n27_ : Aside0 (gb243 ≠ gb241) := ⟨h27_⟩
        have n28_ : Aside0 (Below w.heap.size w w175) := ⟨h28_⟩
        clear BK228
        clear BK229
        clear BK233
        clear BK241
        clear HB
        clear h0_ h1_ h2_ h3_ h4_ h5_ h6_ h7_ h8_ h9_ h10_ h11_ h12_ h13_ h14_ h15_ h16_ h17_ h18_ h19_ h20_ h21_ h22_ h23_ h24_ h25_ h26_ h27_ h28_
        have BK228 := n0_
        have BK229 := n1_
        have BK233 := n2_
        have BK241 := n3_
        have BK242 := n4_
        have BK243 := n5_
        have GW242 := n6_
        have GE242 := n7_
        have NB228_242 := n8_
        have NB242_228 := n9_
        have NB229_242 := n10_
        have NB242_229 := n11_
        have NB233_242 := n12_
        have NB242_233 := n13_
        have NB241_242 := n14_
        have NB242_241 := n15_
        have NB243_242 := n16_
        have NB242_243 := n17_
        have GW243 := n18_
        have GE243 := n19_
        have NB228_243 := n20_
        have NB243_228 := n21_
        have NB229_243 := n22_
        have NB243_229 := n23_
        have NB233_243 := n24_
        have NB243_233 := n25_
        have NB241_243 := n26_
        have NB243_241 := n27_
        have HB := n28_
        clear n0_ n1_ n2_ n3_ n4_ n5_ n6_ n7_ n8_ n9_ n10_ n11_ n12_ n13_ n14_ n15_ n16_ n17_ n18_ n19_ n20_ n21_ n22_ n23_ n24_ n25_ n26_ n27_ n28_
        have hHeld : w175.cell? ⟨gb228, 0, none⟩ = some (.int .i64 t225) ∧ w175.cell? ⟨gb228, 1, none⟩ = some (.int .i64 (wrap64 (t224 + (wrap64 (t223 * t225))))) ∧ w175.cell? ⟨gb228, 2, none⟩ = some (.int .i64 1) ∧ w175.cell? ⟨gb229, 0, none⟩ = some (.int .i64 (wrap64 (t225 + t226))) ∧ w175.cell? ⟨gb229, 1, none⟩ = some (.int .i64 (wrap64 (t224 + (wrap64 (t223 * (wrap64 (t225 + t226))))))) ∧ w175.cell? ⟨gb229, 2, none⟩ = some (.int .i64 1) := hS_
        refine norm_ (a' := ?_) ?_ ?_
        rotate_left
        ·simp only [putAll, Act.put, List.setIfInBounds_toArray, List.set_cons_zero, List.set_cons_succ]
         rfl
        refine one_ (i := 6) (N := none) #[true, true, true, true, true, true, true, false] rfl rfl (one_of HT_.out (by kernel_rfl)) (by decide) (fun K hK => ?_)
        have hs176 : w175.cell? ⟨gb242, 0, none⟩ = some (.int .i64 0) := (blk_cell BK242.out 0).trans rfl
        have hfs176 := blk_frozen BK242.out 0
        have hns176_0 := NB228_242.out
        have hns176_1 := NB229_242.out
        have hns176_2 := NB233_242.out
        have hns176_3 := NB241_242.out
        have hns176_5 := NB243_242.out
        have hms176_0 := NB242_228.out
        have hms176_1 := NB242_229.out
        have hms176_2 := NB242_233.out
        have hms176_3 := NB242_241.out
        have hms176_5 := NB242_243.out
        have hs177 : w175.cell? ⟨gb242, 1, none⟩ = some (.int .i64 0) := (blk_cell BK242.out 1).trans rfl
        have hfs177 := blk_frozen BK242.out 1
        have hns177_0 := NB228_242.out
        have hns177_1 := NB229_242.out
        have hns177_2 := NB233_242.out
        have hns177_3 := NB241_242.out
        have hns177_5 := NB243_242.out
        have hms177_0 := NB242_228.out
        have hms177_1 := NB242_229.out
        have hms177_2 := NB242_233.out
        have hms177_3 := NB242_241.out
        have hms177_5 := NB242_243.out
        refine skip_ (w1 := ?_) (by rfl) rfl ?_ ?_
        rotate_left
        ·go_simp
         rfl
        refine hK.out _ _ ⟨((cell_far (p := ⟨gb242, _, none⟩) NB228_242.out _).trans (((cell_far (p := ⟨gb242, _, none⟩) NB228_242.out _).trans (hHeld.1)))), ((cell_far (p := ⟨gb242, _, none⟩) NB228_242.out _).trans (((cell_far (p := ⟨gb242, _, none⟩) NB228_242.out _).trans (hHeld.2.1)))), ((cell_far (p := ⟨gb242, _, none⟩) NB228_242.out _).trans (((cell_far (p := ⟨gb242, _, none⟩) NB228_242.out _).trans (hHeld.2.2.1)))), ((cell_far (p := ⟨gb242, _, none⟩) NB229_242.out _).trans (((cell_far (p := ⟨gb242, _, none⟩) NB229_242.out _).trans (hHeld.2.2.2.1)))), ((cell_far (p := ⟨gb242, _, none⟩) NB229_242.out _).trans (((cell_far (p := ⟨gb242, _, none⟩) NB229_242.out _).trans (hHeld.2.2.2.2.1)))), ((cell_far (p := ⟨gb242, _, none⟩) NB229_242.out _).trans (((cell_far (p := ⟨gb242, _, none⟩) NB229_242.out _).trans (hHeld.2.2.2.2.2))))⟩ (fun hHeld => ?_)
        clear hK K
        refine one_ (i := 7) (N := none) #[true, true, true, true, true, true, true, true] rfl rfl (one_of HT_.out (by kernel_rfl)) (by decide) (fun K hK => ?_)
        have hs178 : w175.cell? ⟨gb243, 0, none⟩ = some (.int .i64 0) := (blk_cell BK243.out 0).trans rfl
        have hfs178 := blk_frozen BK243.out 0
        have hns178_0 := NB228_243.out
        have hns178_1 := NB229_243.out
        have hns178_2 := NB233_243.out
        have hns178_3 := NB241_243.out
        have hns178_4 := NB242_243.out
        have hms178_0 := NB243_228.out
        have hms178_1 := NB243_229.out
        have hms178_2 := NB243_233.out
        have hms178_3 := NB243_241.out
        have hms178_4 := NB243_242.out
        have hs179 : w175.cell? ⟨gb243, 1, none⟩ = some (.int .i64 0) := (blk_cell BK243.out 1).trans rfl
        have hfs179 := blk_frozen BK243.out 1
        have hns179_0 := NB228_243.out
        have hns179_1 := NB229_243.out
        have hns179_2 := NB233_243.out
        have hns179_3 := NB241_243.out
        have hns179_4 := NB242_243.out
        have hms179_0 := NB243_228.out
        have hms179_1 := NB243_229.out
        have hms179_2 := NB243_233.out
        have hms179_3 := NB243_241.out
        have hms179_4 := NB243_242.out
        refine skip_ (w1 := ?_) (by rfl) rfl ?_ ?_
        rotate_left
        ·go_simp
         rfl
        refine hK.out _ _ ⟨((cell_far (p := ⟨gb243, _, none⟩) NB228_243.out _).trans (((cell_far (p := ⟨gb243, _, none⟩) NB228_243.out _).trans (hHeld.1)))), ((cell_far (p := ⟨gb243, _, none⟩) NB228_243.out _).trans (((cell_far (p := ⟨gb243, _, none⟩) NB228_243.out _).trans (hHeld.2.1)))), ((cell_far (p := ⟨gb243, _, none⟩) NB228_243.out _).trans (((cell_far (p := ⟨gb243, _, none⟩) NB228_243.out _).trans (hHeld.2.2.1)))), ((cell_far (p := ⟨gb243, _, none⟩) NB229_243.out _).trans (((cell_far (p := ⟨gb243, _, none⟩) NB229_243.out _).trans (hHeld.2.2.2.1)))), ((cell_far (p := ⟨gb243, _, none⟩) NB229_243.out _).trans (((cell_far (p := ⟨gb243, _, none⟩) NB229_243.out _).trans (hHeld.2.2.2.2.1)))), ((cell_far (p := ⟨gb243, _, none⟩) NB229_243.out _).trans (((cell_far (p := ⟨gb243, _, none⟩) NB229_243.out _).trans (hHeld.2.2.2.2.2))))⟩ (fun hHeld => ?_)
        clear hK K
        refine done_ (done_of HT_.out (by kernel_rfl)) ?_
        have hnb180 := NB242_228.out
        have hnc180 := NB228_242.out
        have hnb181 := NB242_229.out
        have hnc181 := NB229_242.out
        have hnb182 := NB242_233.out
        have hnc182 := NB233_242.out
        have hnb183 := NB242_241.out
        have hnc183 := NB241_242.out
        have hnb184 := NB242_243.out
        have hnc184 := NB243_242.out
        have hcz185_0 : w175.cell? ⟨gb242, 0, none⟩ = some (.int .i64 0) := (blk_cell BK242.out 0).trans rfl
        have hcz185_1 : w175.cell? ⟨gb242, 1, none⟩ = some (.int .i64 0) := (blk_cell BK242.out 1).trans rfl
        have hfz185_0 := blk_frozen BK242.out 0
        have hfz185_1 := blk_frozen BK242.out 1
        have hnb186 := NB233_228.out
        have hnc186 := NB228_233.out
        have hnb187 := NB233_229.out
        have hnc187 := NB229_233.out
        have hnb188 := NB233_241.out
        have hnc188 := NB241_233.out
        have hnb189 := NB233_243.out
        have hnc189 := NB243_233.out
        have hcz190_0 : w175.cell? ⟨gb233, 0, none⟩ = some (.int .i64 t230) := (blk_cell BK233.out 0).trans rfl
        have hcz190_1 : w175.cell? ⟨gb233, 1, none⟩ = some (.int .i64 t231) := (blk_cell BK233.out 1).trans rfl
        have hfz190_0 := blk_frozen BK233.out 0
        have hfz190_1 := blk_frozen BK233.out 1
        try go_wp2_with (first | ((with_reducible refine gate_callee (f := 21) rfl ?_); refine goesL_ (some 111) rfl rfl Try.func21 (by kernel_rfl) rfl #[.agg #[.int .i64 (wrap64 (t224 + (wrap64 (t223 * t225)))), .int .i64 1], .agg #[.int .i64 t230, .int .i64 t231]] rfl argN ?_; (with_reducible refine (marigraphref1_Cmp.calls kj13 (wrap64 (t224 + (wrap64 (t223 * t225)))) 1 t230 t231 t247 _ A140.out).mono ?_); rintro e w191 ⟨rfl, hb⟩; refine ⟨_, rfl, ?_⟩; have n0_ := Aside0.mk (bkBF BK228.out hb); have n1_ := Aside0.mk (bkBF BK229.out hb); have n2_ := Aside0.mk (bkBF BK233.out hb); have n3_ := Aside0.mk (bkBF BK241.out hb); have n4_ := Aside0.mk (blk_below (g := gb242) (o := .cells #[.int .i64 (wrap64 (t224 + (wrap64 (t223 * t225)))), .int .i64 1] 28 (0, 0)) (by (with_reducible repeat (first | refine blk_drewN ?_ _ | refine blk_drew ?_ | refine blk_alloc ?_ _)); refine blk_far ?_ NB242_243.out _; (with_reducible repeat (first | refine blk_drewN ?_ _ | refine blk_drew ?_ | refine blk_alloc ?_ _)); refine blk_far ?_ NB242_243.out _; (with_reducible repeat (first | refine blk_drewN ?_ _ | refine blk_drew ?_ | refine blk_alloc ?_ _)); refine blk_put (cs := #[.int .i64 (wrap64 (t224 + (wrap64 (t223 * t225)))), .int .i64 0]) ?_ 1 _ rfl; (with_reducible repeat (first | refine blk_drewN ?_ _ | refine blk_drew ?_ | refine blk_alloc ?_ _)); refine blk_put (cs := #[.int .i64 0, .int .i64 0]) ?_ 0 _ rfl; (with_reducible repeat (first | refine blk_drewN ?_ _ | refine blk_drew ?_ | refine blk_alloc ?_ _)); exact BK242.out) hb); have n5_ := Aside0.mk (blk_below (g := gb243) (o := .cells #[.int .i64 (wrap64 (t224 + (wrap64 (t223 * (wrap64 (t225 + t226)))))), .int .i64 1] 28 (0, 0)) (by (with_reducible repeat (first | refine blk_drewN ?_ _ | refine blk_drew ?_ | refine blk_alloc ?_ _)); refine blk_put (cs := #[.int .i64 (wrap64 (t224 + (wrap64 (t223 * (wrap64 (t225 + t226)))))), .int .i64 0]) ?_ 1 _ rfl; (with_reducible repeat (first | refine blk_drewN ?_ _ | refine blk_drew ?_ | refine blk_alloc ?_ _)); refine blk_put (cs := #[.int .i64 0, .int .i64 0]) ?_ 0 _ rfl; (with_reducible repeat (first | refine blk_drewN ?_ _ | refine blk_drew ?_ | refine blk_alloc ?_ _)); refine blk_far ?_ NB243_242.out _; (with_reducible repeat (first | refine blk_drewN ?_ _ | refine blk_drew ?_ | refine blk_alloc ?_ _)); refine blk_far ?_ NB243_242.out _; (with_reducible repeat (first | refine blk_drewN ?_ _ | refine blk_drew ?_ | refine blk_alloc ?_ _)); exact BK243.out) hb); have n6_ := Aside0.mk (below_step (belS HB.out) hb); clear BK228; clear BK229; clear BK233; clear BK241; clear BK242; clear BK243; clear HB; have BK228 := n0_; have BK229 := n1_; have BK233 := n2_; have BK241 := n3_; have BK242 := n4_; have BK243 := n5_; have HB := n6_; clear n0_ n1_ n2_ n3_ n4_ n5_ n6_; (try clear hb); (try clear hb2); (try clear hk); (try clear hi); have hcz192_0 : w191.cell? ⟨gb233, 0, none⟩ = some (.int .i64 t230) := (blk_cell BK233.out 0).trans rfl; have hcz192_1 : w191.cell? ⟨gb233, 1, none⟩ = some (.int .i64 t231) := (blk_cell BK233.out 1).trans rfl; have hfz192_0 := blk_frozen BK233.out 0; have hfz192_1 := blk_frozen BK233.out 1; have hnb193 := NB243_228.out; have hnc193 := NB228_243.out; have hnb194 := NB243_229.out; have hnc194 := NB229_243.out; have hnb195 := NB243_241.out; have hnc195 := NB241_243.out; have hcz196_0 : w191.cell? ⟨gb243, 0, none⟩ = some (.int .i64 (wrap64 (t224 + (wrap64 (t223 * (wrap64 (t225 + t226))))))) := (blk_cell BK243.out 0).trans rfl; have hcz196_1 : w191.cell? ⟨gb243, 1, none⟩ = some (.int .i64 1) := (blk_cell BK243.out 1).trans rfl; have hfz196_0 := blk_frozen BK243.out 0; have hfz196_1 := blk_frozen BK243.out 1) | (go_at_call 21; (with_reducible refine (marigraphref1_Cmp.calls kj13 t230 t231 (wrap64 (t224 + (wrap64 (t223 * (wrap64 (t225 + t226)))))) 1 t248 _ A142.out).mono ?_); rintro e w197 ⟨rfl, hb⟩; have n0_ := Aside0.mk (bkB BK228.out hb); have n1_ := Aside0.mk (bkB BK229.out hb); have n2_ := Aside0.mk (bkB BK233.out hb); have n3_ := Aside0.mk (bkB BK241.out hb); have n4_ := Aside0.mk (bkB BK242.out hb); have n5_ := Aside0.mk (bkB BK243.out hb); have n6_ := Aside0.mk (below_step (belS HB.out) hb); clear BK228; clear BK229; clear BK233; clear BK241; clear BK242; clear BK243; clear HB; have BK228 := n0_; have BK229 := n1_; have BK233 := n2_; have BK241 := n3_; have BK242 := n4_; have BK243 := n5_; have HB := n6_; clear n0_ n1_ n2_ n3_ n4_ n5_ n6_; (try clear hb); (try clear hb2); (try clear hk); (try clear hi)))
        go_ret
        exact ⟨by first | rfl | (simp [errW_none, errW_some] <;> rfl) | (simp [*, errW_none, errW_some] <;> rfl), (belS HB.out)⟩
      ·rw [if_neg c141] at H
       have c141b0 : decide (t247 ≤ 0) = false := decide_eq_false c141
       clear c141
       obtain rfl := Option.some.inj H
       try go_wp2
       have n0_ := Aside0.mk (blk_drew BK228.out)
       have n1_ := Aside0.mk (blk_drew BK229.out)
       have n2_ := Aside0.mk (blk_drew BK233.out)
       have n3_ := Aside0.mk (blk_drew BK241.out)
       have n4_ := Aside0.mk (below_drew1 HB.out)
       clear BK228
       clear BK229
       clear BK233
       clear BK241
       clear HB
       have BK228 := n0_
       have BK229 := n1_
       have BK233 := n2_
       have BK241 := n3_
       have HB := n4_
       clear n0_ n1_ n2_ n3_ n4_
       refine start_ (n := 8) (S := fun w' => w'.cell? ⟨gb228, 0, none⟩ = some (.int .i64 t225) ∧ w'.cell? ⟨gb228, 1, none⟩ = some (.int .i64 (wrap64 (t224 + (wrap64 (t223 * t225))))) ∧ w'.cell? ⟨gb228, 2, none⟩ = some (.int .i64 1) ∧ w'.cell? ⟨gb229, 0, none⟩ = some (.int .i64 (wrap64 (t225 + t226))) ∧ w'.cell? ⟨gb229, 1, none⟩ = some (.int .i64 (wrap64 (t224 + (wrap64 (t223 * (wrap64 (t225 + t226))))))) ∧ w'.cell? ⟨gb229, 2, none⟩ = some (.int .i64 1)) (ds := []) #[false, false, false, false, false, false, false, false] (by kernel_rfl) rfl rfl ⟨(blk_cell BK228.out 0).trans rfl, (blk_cell BK228.out 1).trans rfl, (blk_cell BK228.out 2).trans rfl, (blk_cell BK229.out 0).trans rfl, (blk_cell BK229.out 1).trans rfl, (blk_cell BK229.out 2).trans rfl⟩ (fun hHeld => ?_); refine with_tabW marigraphlaw22_LerpLines.tab10 marigraphlaw22_LerpLines.bits10 (fun HT_ HW_ => ?_)
       generalize wc.drew = w198 at BK228 BK229 BK233 BK241 HB hHeld ⊢
       refine pure_ (i := 0) (N := some 101) (v := ?_) (a' := ?_) #[true, false, false, false, false, false, false, false] rfl rfl (any_of HT_.out (by kernel_rfl)) (fun _ _ _ h => h) (Or.inl ⟨by rfl, ?_⟩) ?_ ?_
       rotate_left
       ·intro w'
        go_simp
        with_reducible rfl
       rotate_left
       ·simp only [Act.put, List.setIfInBounds_toArray, List.set_cons_zero, List.set_cons_succ, i64_w, i32_w]
        rfl
       refine pure_ (i := 2) (N := some 103) (v := ?_) (a' := ?_) #[true, false, true, false, false, false, false, false] rfl rfl (any_of HT_.out (by kernel_rfl)) (fun _ _ _ h => h) (Or.inl ⟨by rfl, ?_⟩) ?_ ?_
       rotate_left
       ·intro w'
        go_simp
        with_reducible rfl
       rotate_left
       ·simp only [Act.put, List.setIfInBounds_toArray, List.set_cons_zero, List.set_cons_succ, i64_w, i32_w]
        rfl
       refine take_ (i := 1) (N := some 102) (v := ?_) (a' := ?_) #[true, true, true, false, false, false, false, false] rfl rfl (take_ofW HT_.out HW_.out (by kernel_rfl)) (fun _ _ _ h => h) (Or.inl ⟨by rfl, ?_⟩) hHeld ?_ ?_
       rotate_left
       ·rintro w' ⟨s0, s1, s2, s3, s4, s5⟩
        go_simp
        with_reducible rfl
       rotate_left
       ·simp only [Act.put, List.setIfInBounds_toArray, List.set_cons_zero, List.set_cons_succ, i64_w, i32_w]
        rfl
       refine take_ (i := 3) (N := some 104) (v := ?_) (a' := ?_) #[true, true, true, true, false, false, false, false] rfl rfl (take_ofW HT_.out HW_.out (by kernel_rfl)) (fun _ _ _ h => h) (Or.inl ⟨by rfl, ?_⟩) hHeld ?_ ?_
       rotate_left
       ·rintro w' ⟨s0, s1, s2, s3, s4, s5⟩
        go_simp
        with_reducible rfl
       rotate_left
       ·simp only [Act.put, List.setIfInBounds_toArray, List.set_cons_zero, List.set_cons_succ, i64_w, i32_w]
        rfl
       refine join_ (σ := Nat × Nat) 2 #[true, true, true, true, true, true, false, false] (fun s_ => [(23, .pointer (some ⟨s_.1, 0, none⟩)), (24, .pointer (some ⟨s_.2, 0, none⟩))]) (fun s_ w' => (w'.cell? ⟨gb228, 0, none⟩ = some (.int .i64 t225) ∧ w'.cell? ⟨gb228, 1, none⟩ = some (.int .i64 (wrap64 (t224 + (wrap64 (t223 * t225))))) ∧ w'.cell? ⟨gb228, 2, none⟩ = some (.int .i64 1) ∧ w'.cell? ⟨gb229, 0, none⟩ = some (.int .i64 (wrap64 (t225 + t226))) ∧ w'.cell? ⟨gb229, 1, none⟩ = some (.int .i64 (wrap64 (t224 + (wrap64 (t223 * (wrap64 (t225 + t226))))))) ∧ w'.cell? ⟨gb229, 2, none⟩ = some (.int .i64 1)) ∧ (w'.heap[gb228]? = some (.cells #[.int .i64 t225, .int .i64 (wrap64 (t224 + (wrap64 (t223 * t225)))), .int .i64 1] 30 (0, 0))) ∧ (w'.heap[gb229]? = some (.cells #[.int .i64 (wrap64 (t225 + t226)), .int .i64 (wrap64 (t224 + (wrap64 (t223 * (wrap64 (t225 + t226)))))), .int .i64 1] 30 (0, 0))) ∧ (w'.heap[gb233]? = some (.cells #[.int .i64 t230, .int .i64 t231] 28 (0, 0))) ∧ (w'.heap[gb241]? = some (.cells #[.int .i64 t237, .int .i64 t238] 28 (0, 0))) ∧ (w'.heap[s_.1]? = some (.cells #[.int .i64 0, .int .i64 0] 28 (0, 0))) ∧ (w'.heap[s_.2]? = some (.cells #[.int .i64 0, .int .i64 0] 28 (0, 0))) ∧ (w.heap.size ≤ s_.1) ∧ (w.heap.size ≤ s_.1) ∧ (gb228 ≠ s_.1) ∧ (s_.1 ≠ gb228) ∧ (gb229 ≠ s_.1) ∧ (s_.1 ≠ gb229) ∧ (gb233 ≠ s_.1) ∧ (s_.1 ≠ gb233) ∧ (gb241 ≠ s_.1) ∧ (s_.1 ≠ gb241) ∧ (s_.2 ≠ s_.1) ∧ (s_.1 ≠ s_.2) ∧ (w.heap.size ≤ s_.2) ∧ (w.heap.size ≤ s_.2) ∧ (gb228 ≠ s_.2) ∧ (s_.2 ≠ gb228) ∧ (gb229 ≠ s_.2) ∧ (s_.2 ≠ gb229) ∧ (gb233 ≠ s_.2) ∧ (s_.2 ≠ gb233) ∧ (gb241 ≠ s_.2) ∧ (s_.2 ≠ gb241) ∧ (Below w.heap.size w w')) ?_ ?_
       rotate_left
       ·intro hCont
        refine two_ (i := 4) (j := 5) (Ni := some 23) (Nj := some 24) #[true, true, true, true, true, false, false, false] #[true, true, true, true, false, true, false, false] rfl rfl rfl rfl (two_of HT_.out (by kernel_rfl)) (by decide) (by decide) (fun K hK => ?_) (fun K hK => ?_)
        ·skip
         refine box_step ?hg (N := 23) ?hd (cs := #[.int .i64 0, .int .i64 0]) (t := 28) ?hr ?_; (case hd => rfl); (case hg => rfl); (case hr => first | (go_simp; done) | (go_simp; rfl))
         intro gb242 hg w199 hbox hb
         have n0_ := Aside0.mk (bkB BK228.out hb)
         have n1_ := Aside0.mk (bkB BK229.out hb)
         have n2_ := Aside0.mk (bkB BK233.out hb)
         have n3_ := Aside0.mk (bkB BK241.out hb)
         have n4_ := Aside0.mk (below_step (belS HB.out) hb)
         have n5_ := Aside0.mk (hbox)
         have n6_ := Aside0.mk (szB hg HB.out)
         have n7_ := Aside0.mk (szB hg HB.out)
         have n8_ := Aside0.mk ((bk1 hg BK228.out))
         have n9_ := Aside0.mk ((bk2 hg BK228.out))
         have n10_ := Aside0.mk ((bk1 hg BK229.out))
         have n11_ := Aside0.mk ((bk2 hg BK229.out))
         have n12_ := Aside0.mk ((bk1 hg BK233.out))
         have n13_ := Aside0.mk ((bk2 hg BK233.out))
         have n14_ := Aside0.mk ((bk1 hg BK241.out))
         have n15_ := Aside0.mk ((bk2 hg BK241.out))
         clear BK228
         clear BK229
         clear BK233
         clear BK241
         clear HB
         have BK228 := n0_
         have BK229 := n1_
         have BK233 := n2_
         have BK241 := n3_
         have HB := n4_
         have BK242 := n5_
         have GW242 := n6_
         have GE242 := n7_
         have NB228_242 := n8_
         have NB242_228 := n9_
         have NB229_242 := n10_
         have NB242_229 := n11_
         have NB233_242 := n12_
         have NB242_233 := n13_
         have NB241_242 := n14_
         have NB242_241 := n15_
         clear n0_ n1_ n2_ n3_ n4_ n5_ n6_ n7_ n8_ n9_ n10_ n11_ n12_ n13_ n14_ n15_
         clear hb hbox hg
         refine hK.out _ _ ⟨(blk_cell BK228.out 0).trans rfl, (blk_cell BK228.out 1).trans rfl, (blk_cell BK228.out 2).trans rfl, (blk_cell BK229.out 0).trans rfl, (blk_cell BK229.out 1).trans rfl, (blk_cell BK229.out 2).trans rfl⟩ (fun hHeld => ?_)
         clear hK K
         refine norm_ (a' := ?_) ?_ ?_
         rotate_left
         ·show Act.put _ (some 23) _ = _
          simp only [Act.put, List.setIfInBounds_toArray, List.set_cons_zero, List.set_cons_succ, i64_w, i32_w]
          rfl
         refine one_ (i := 5) (N := some 24) #[true, true, true, true, true, true, false, false] rfl rfl (one_of HT_.out (by kernel_rfl)) (by decide) (fun K hK => ?_)
         refine box_step ?hg (N := 24) ?hd (cs := #[.int .i64 0, .int .i64 0]) (t := 28) ?hr ?_; (case hd => rfl); (case hg => rfl); (case hr => first | (go_simp; done) | (go_simp; rfl))
         intro gb243 hg w200 hbox hb
         have n0_ := Aside0.mk (bkB BK228.out hb)
         have n1_ := Aside0.mk (bkB BK229.out hb)
         have n2_ := Aside0.mk (bkB BK233.out hb)
         have n3_ := Aside0.mk (bkB BK241.out hb)
         have n4_ := Aside0.mk (bkB BK242.out hb)
         have n5_ := Aside0.mk (below_step (belS HB.out) hb)
         have n6_ := Aside0.mk (hbox)
         have n7_ := Aside0.mk (szB hg HB.out)
         have n8_ := Aside0.mk (szB hg HB.out)
         have n9_ := Aside0.mk ((bk1 hg BK228.out))
         have n10_ := Aside0.mk ((bk2 hg BK228.out))
         have n11_ := Aside0.mk ((bk1 hg BK229.out))
         have n12_ := Aside0.mk ((bk2 hg BK229.out))
         have n13_ := Aside0.mk ((bk1 hg BK233.out))
         have n14_ := Aside0.mk ((bk2 hg BK233.out))
         have n15_ := Aside0.mk ((bk1 hg BK241.out))
         have n16_ := Aside0.mk ((bk2 hg BK241.out))
         have n17_ := Aside0.mk ((bk1 hg BK242.out))
         have n18_ := Aside0.mk ((bk2 hg BK242.out))
         clear BK228
         clear BK229
         clear BK233
         clear BK241
         clear BK242
         clear HB
         have BK228 := n0_
         have BK229 := n1_
         have BK233 := n2_
         have BK241 := n3_
         have BK242 := n4_
         have HB := n5_
         have BK243 := n6_
         have GW243 := n7_
         have GE243 := n8_
         have NB228_243 := n9_
         have NB243_228 := n10_
         have NB229_243 := n11_
         have NB243_229 := n12_
         have NB233_243 := n13_
         have NB243_233 := n14_
         have NB241_243 := n15_
         have NB243_241 := n16_
         have NB242_243 := n17_
         have NB243_242 := n18_
         clear n0_ n1_ n2_ n3_ n4_ n5_ n6_ n7_ n8_ n9_ n10_ n11_ n12_ n13_ n14_ n15_ n16_ n17_ n18_
         clear hb hbox hg
         refine hK.out _ _ ⟨(blk_cell BK228.out 0).trans rfl, (blk_cell BK228.out 1).trans rfl, (blk_cell BK228.out 2).trans rfl, (blk_cell BK229.out 0).trans rfl, (blk_cell BK229.out 1).trans rfl, (blk_cell BK229.out 2).trans rfl⟩ (fun hHeld => ?_)
         clear hK K
         refine norm_ (a' := ?_) ?_ ?_
         rotate_left
         ·show Act.put _ (some 24) _ = _
          simp only [Act.put, List.setIfInBounds_toArray, List.set_cons_zero, List.set_cons_succ, i64_w, i32_w]
          rfl
         exact norm_ (by simp only [putAll, Act.put, List.setIfInBounds_toArray, List.set_cons_zero, List.set_cons_succ]) (hCont (gb242, gb243) _ ⟨hHeld, (blkN BK228.out), (blkN BK229.out), (blkN BK233.out), (blkN BK241.out), (blkN BK242.out), (blkN BK243.out), GW242.out, GE242.out, NB228_242.out, NB242_228.out, NB229_242.out, NB242_229.out, NB233_242.out, NB242_233.out, NB241_242.out, NB242_241.out, NB243_242.out, NB242_243.out, GW243.out, GE243.out, NB228_243.out, NB243_228.out, NB229_243.out, NB243_229.out, NB233_243.out, NB243_233.out, NB241_243.out, NB243_241.out, (belS HB.out)⟩)
        ·skip
         refine box_step ?hg (N := 24) ?hd (cs := #[.int .i64 0, .int .i64 0]) (t := 28) ?hr ?_; (case hd => rfl); (case hg => rfl); (case hr => first | (go_simp; done) | (go_simp; rfl))
         intro gb243 hg w199 hbox hb
         have n0_ := Aside0.mk (bkB BK228.out hb)
         have n1_ := Aside0.mk (bkB BK229.out hb)
         have n2_ := Aside0.mk (bkB BK233.out hb)
         have n3_ := Aside0.mk (bkB BK241.out hb)
         have n4_ := Aside0.mk (below_step (belS HB.out) hb)
         have n5_ := Aside0.mk (hbox)
         have n6_ := Aside0.mk (szB hg HB.out)
         have n7_ := Aside0.mk (szB hg HB.out)
         have n8_ := Aside0.mk ((bk1 hg BK228.out))
         have n9_ := Aside0.mk ((bk2 hg BK228.out))
         have n10_ := Aside0.mk ((bk1 hg BK229.out))
         have n11_ := Aside0.mk ((bk2 hg BK229.out))
         have n12_ := Aside0.mk ((bk1 hg BK233.out))
         have n13_ := Aside0.mk ((bk2 hg BK233.out))
         have n14_ := Aside0.mk ((bk1 hg BK241.out))
         have n15_ := Aside0.mk ((bk2 hg BK241.out))
         clear BK228
         clear BK229
         clear BK233
         clear BK241
         clear HB
         have BK228 := n0_
         have BK229 := n1_
         have BK233 := n2_
         have BK241 := n3_
         have HB := n4_
         have BK243 := n5_
         have GW243 := n6_
         have GE243 := n7_
         have NB228_243 := n8_
         have NB243_228 := n9_
         have NB229_243 := n10_
         have NB243_229 := n11_
         have NB233_243 := n12_
         have NB243_233 := n13_
         have NB241_243 := n14_
         have NB243_241 := n15_
         clear n0_ n1_ n2_ n3_ n4_ n5_ n6_ n7_ n8_ n9_ n10_ n11_ n12_ n13_ n14_ n15_
         clear hb hbox hg
         refine hK.out _ _ ⟨(blk_cell BK228.out 0).trans rfl, (blk_cell BK228.out 1).trans rfl, (blk_cell BK228.out 2).trans rfl, (blk_cell BK229.out 0).trans rfl, (blk_cell BK229.out 1).trans rfl, (blk_cell BK229.out 2).trans rfl⟩ (fun hHeld => ?_)
         clear hK K
         refine norm_ (a' := ?_) ?_ ?_
         rotate_left
         ·show Act.put _ (some 24) _ = _
          simp only [Act.put, List.setIfInBounds_toArray, List.set_cons_zero, List.set_cons_succ, i64_w, i32_w]
          rfl
         refine one_ (i := 4) (N := some 23) #[true, true, true, true, true, true, false, false] rfl rfl (one_of HT_.out (by kernel_rfl)) (by decide) (fun K hK => ?_)
         refine box_step ?hg (N := 23) ?hd (cs := #[.int .i64 0, .int .i64 0]) (t := 28) ?hr ?_; (case hd => rfl); (case hg => rfl); (case hr => first | (go_simp; done) | (go_simp; rfl))
         intro gb242 hg w200 hbox hb
         have n0_ := Aside0.mk (bkB BK228.out hb)
         have n1_ := Aside0.mk (bkB BK229.out hb)
         have n2_ := Aside0.mk (bkB BK233.out hb)
         have n3_ := Aside0.mk (bkB BK241.out hb)
         have n4_ := Aside0.mk (bkB BK243.out hb)
         have n5_ := Aside0.mk (below_step (belS HB.out) hb)
         have n6_ := Aside0.mk (hbox)
         have n7_ := Aside0.mk (szB hg HB.out)
         have n8_ := Aside0.mk (szB hg HB.out)
         have n9_ := Aside0.mk ((bk1 hg BK228.out))
         have n10_ := Aside0.mk ((bk2 hg BK228.out))
         have n11_ := Aside0.mk ((bk1 hg BK229.out))
         have n12_ := Aside0.mk ((bk2 hg BK229.out))
         have n13_ := Aside0.mk ((bk1 hg BK233.out))
         have n14_ := Aside0.mk ((bk2 hg BK233.out))
         have n15_ := Aside0.mk ((bk1 hg BK241.out))
         have n16_ := Aside0.mk ((bk2 hg BK241.out))
         have n17_ := Aside0.mk ((bk1 hg BK243.out))
         have n18_ := Aside0.mk ((bk2 hg BK243.out))
         clear BK228
         clear BK229
         clear BK233
         clear BK241
         clear BK243
         clear HB
         have BK228 := n0_
         have BK229 := n1_
         have BK233 := n2_
         have BK241 := n3_
         have BK243 := n4_
         have HB := n5_
         have BK242 := n6_
         have GW242 := n7_
         have GE242 := n8_
         have NB228_242 := n9_
         have NB242_228 := n10_
         have NB229_242 := n11_
         have NB242_229 := n12_
         have NB233_242 := n13_
         have NB242_233 := n14_
         have NB241_242 := n15_
         have NB242_241 := n16_
         have NB243_242 := n17_
         have NB242_243 := n18_
         clear n0_ n1_ n2_ n3_ n4_ n5_ n6_ n7_ n8_ n9_ n10_ n11_ n12_ n13_ n14_ n15_ n16_ n17_ n18_
         clear hb hbox hg
         refine hK.out _ _ ⟨(blk_cell BK228.out 0).trans rfl, (blk_cell BK228.out 1).trans rfl, (blk_cell BK228.out 2).trans rfl, (blk_cell BK229.out 0).trans rfl, (blk_cell BK229.out 1).trans rfl, (blk_cell BK229.out 2).trans rfl⟩ (fun hHeld => ?_)
         clear hK K
         refine norm_ (a' := ?_) ?_ ?_
         rotate_left
         ·show Act.put _ (some 23) _ = _
          simp only [Act.put, List.setIfInBounds_toArray, List.set_cons_zero, List.set_cons_succ, i64_w, i32_w]
          rfl
         exact norm_ (by simp only [putAll, Act.put, List.setIfInBounds_toArray, List.set_cons_zero, List.set_cons_succ]) (hCont (gb242, gb243) _ ⟨hHeld, (blkN BK228.out), (blkN BK229.out), (blkN BK233.out), (blkN BK241.out), (blkN BK242.out), (blkN BK243.out), GW242.out, GE242.out, NB228_242.out, NB242_228.out, NB229_242.out, NB242_229.out, NB233_242.out, NB242_233.out, NB241_242.out, NB242_241.out, NB243_242.out, NB242_243.out, GW243.out, GE243.out, NB228_243.out, NB243_228.out, NB229_243.out, NB243_229.out, NB233_243.out, NB243_233.out, NB241_243.out, NB243_241.out, (belS HB.out)⟩)
       rintro ⟨gb242, gb243⟩ w201 ⟨hS_, h0_, h1_, h2_, h3_, h4_, h5_, h6_, h7_, h8_, h9_, h10_, h11_, h12_, h13_, h14_, h15_, h16_, h17_, h18_, h19_, h20_, h21_, h22_, h23_, h24_, h25_, h26_, h27_, h28_⟩
       have n0_ : Aside0 (w201.heap[gb228]? = some (.cells #[.int .i64 t225, .int .i64 (wrap64 (t224 + (wrap64 (t223 * t225)))), .int .i64 1] 30 (0, 0))) := ⟨h0_⟩
       have n1_ : Aside0 (w201.heap[gb229]? = some (.cells #[.int .i64 (wrap64 (t225 + t226)), .int .i64 (wrap64 (t224 + (wrap64 (t223 * (wrap64 (t225 + t226)))))), .int .i64 1] 30 (0, 0))) := ⟨h1_⟩
       have n2_ : Aside0 (w201.heap[gb233]? = some (.cells #[.int .i64 t230, .int .i64 t231] 28 (0, 0))) := ⟨h2_⟩
       have n3_ : Aside0 (w201.heap[gb241]? = some (.cells #[.int .i64 t237, .int .i64 t238] 28 (0, 0))) := ⟨h3_⟩
       have n4_ : Aside0 (w201.heap[gb242]? = some (.cells #[.int .i64 0, .int .i64 0] 28 (0, 0))) := ⟨h4_⟩
       have n5_ : Aside0 (w201.heap[gb243]? = some (.cells #[.int .i64 0, .int .i64 0] 28 (0, 0))) := ⟨h5_⟩
       have n6_ : Aside0 (w.heap.size ≤ gb242) := ⟨h6_⟩
       have n7_ : Aside0 (w.heap.size ≤ gb242) := ⟨h7_⟩
       have n8_ : Aside0 (gb228 ≠ gb242) := ⟨h8_⟩
       have n9_ : Aside0 (gb242 ≠ gb228) := ⟨h9_⟩
       have n10_ : Aside0 (gb229 ≠ gb242) := ⟨h10_⟩
       have n11_ : Aside0 (gb242 ≠ gb229) := ⟨h11_⟩
       have n12_ : Aside0 (gb233 ≠ gb242) := ⟨h12_⟩
       have n13_ : Aside0 (gb242 ≠ gb233) := ⟨h13_⟩
       have n14_ : Aside0 (gb241 ≠ gb242) := ⟨h14_⟩
       have n15_ : Aside0 (gb242 ≠ gb241) := ⟨h15_⟩
       have n16_ : Aside0 (gb243 ≠ gb242) := ⟨h16_⟩
       have n17_ : Aside0 (gb242 ≠ gb243) := ⟨h17_⟩
       have n18_ : Aside0 (w.heap.size ≤ gb243) := ⟨h18_⟩
       have n19_ : Aside0 (w.heap.size ≤ gb243) := ⟨h19_⟩
       have n20_ : Aside0 (gb228 ≠ gb243) := ⟨h20_⟩
       have n21_ : Aside0 (gb243 ≠ gb228) := ⟨h21_⟩
       have n22_ : Aside0 (gb229 ≠ gb243) := ⟨h22_⟩
       have n23_ : Aside0 (gb243 ≠ gb229) := ⟨h23_⟩
       have n24_ : Aside0 (gb233 ≠ gb243) := ⟨h24_⟩
       have n25_ : Aside0 (gb243 ≠ gb233) := ⟨h25_⟩
       have n26_ : Aside0 (gb241 ≠ gb243) := ⟨h26_⟩
       have n27_ : Aside0 (gb243 ≠ gb241) := ⟨h27_⟩
       have n28_ : Aside0 (Below w.heap.size w w201) := ⟨h28_⟩
       clear BK228
       clear BK229
       clear BK233
       clear BK241
       clear HB
       clear h0_ h1_ h2_ h3_ h4_ h5_ h6_ h7_ h8_ h9_ h10_ h11_ h12_ h13_ h14_ h15_ h16_ h17_ h18_ h19_ h20_ h21_ h22_ h23_ h24_ h25_ h26_ h27_ h28_
       have BK228 := n0_
       have BK229 := n1_
       have BK233 := n2_
       have BK241 := n3_
       have BK242 := n4_
       have BK243 := n5_
       have GW242 := n6_
       have GE242 := n7_
       have NB228_242 := n8_
       have NB242_228 := n9_
       have NB229_242 := n10_
       have NB242_229 := n11_
       have NB233_242 := n12_
       have NB242_233 := n13_
       have NB241_242 := n14_
       have NB242_241 := n15_
       have NB243_242 := n16_
       have NB242_243 := n17_
       have GW243 := n18_
       have GE243 := n19_
       have NB228_243 := n20_
       have NB243_228 := n21_
       have NB229_243 := n22_
       have NB243_229 := n23_
       have NB233_243 := n24_
       have NB243_233 := n25_
       have NB241_243 := n26_
       have NB243_241 := n27_
       have HB := n28_
       clear n0_ n1_ n2_ n3_ n4_ n5_ n6_ n7_ n8_ n9_ n10_ n11_ n12_ n13_ n14_ n15_ n16_ n17_ n18_ n19_ n20_ n21_ n22_ n23_ n24_ n25_ n26_ n27_ n28_
       have hHeld : w201.cell? ⟨gb228, 0, none⟩ = some (.int .i64 t225) ∧ w201.cell? ⟨gb228, 1, none⟩ = some (.int .i64 (wrap64 (t224 + (wrap64 (t223 * t225))))) ∧ w201.cell? ⟨gb228, 2, none⟩ = some (.int .i64 1) ∧ w201.cell? ⟨gb229, 0, none⟩ = some (.int .i64 (wrap64 (t225 + t226))) ∧ w201.cell? ⟨gb229, 1, none⟩ = some (.int .i64 (wrap64 (t224 + (wrap64 (t223 * (wrap64 (t225 + t226))))))) ∧ w201.cell? ⟨gb229, 2, none⟩ = some (.int .i64 1) := hS_
       refine norm_ (a' := ?_) ?_ ?_
       rotate_left
       ·simp only [putAll, Act.put, List.setIfInBounds_toArray, List.set_cons_zero, List.set_cons_succ]
        rfl
       refine one_ (i := 6) (N := none) #[true, true, true, true, true, true, true, false] rfl rfl (one_of HT_.out (by kernel_rfl)) (by decide) (fun K hK => ?_)
       have hs202 : w201.cell? ⟨gb242, 0, none⟩ = some (.int .i64 0) := (blk_cell BK242.out 0).trans rfl
       have hfs202 := blk_frozen BK242.out 0
       have hns202_0 := NB228_242.out
       have hns202_1 := NB229_242.out
       have hns202_2 := NB233_242.out
       have hns202_3 := NB241_242.out
       have hns202_5 := NB243_242.out
       have hms202_0 := NB242_228.out
       have hms202_1 := NB242_229.out
       have hms202_2 := NB242_233.out
       have hms202_3 := NB242_241.out
       have hms202_5 := NB242_243.out
       have hs203 : w201.cell? ⟨gb242, 1, none⟩ = some (.int .i64 0) := (blk_cell BK242.out 1).trans rfl
       have hfs203 := blk_frozen BK242.out 1
       have hns203_0 := NB228_242.out
       have hns203_1 := NB229_242.out
       have hns203_2 := NB233_242.out
       have hns203_3 := NB241_242.out
       have hns203_5 := NB243_242.out
       have hms203_0 := NB242_228.out
       have hms203_1 := NB242_229.out
       have hms203_2 := NB242_233.out
       have hms203_3 := NB242_241.out
       have hms203_5 := NB242_243.out
       refine skip_ (w1 := ?_) (by rfl) rfl ?_ ?_
       rotate_left
       ·go_simp
        rfl
       refine hK.out _ _ ⟨((cell_far (p := ⟨gb242, _, none⟩) NB228_242.out _).trans (((cell_far (p := ⟨gb242, _, none⟩) NB228_242.out _).trans (hHeld.1)))), ((cell_far (p := ⟨gb242, _, none⟩) NB228_242.out _).trans (((cell_far (p := ⟨gb242, _, none⟩) NB228_242.out _).trans (hHeld.2.1)))), ((cell_far (p := ⟨gb242, _, none⟩) NB228_242.out _).trans (((cell_far (p := ⟨gb242, _, none⟩) NB228_242.out _).trans (hHeld.2.2.1)))), ((cell_far (p := ⟨gb242, _, none⟩) NB229_242.out _).trans (((cell_far (p := ⟨gb242, _, none⟩) NB229_242.out _).trans (hHeld.2.2.2.1)))), ((cell_far (p := ⟨gb242, _, none⟩) NB229_242.out _).trans (((cell_far (p := ⟨gb242, _, none⟩) NB229_242.out _).trans (hHeld.2.2.2.2.1)))), ((cell_far (p := ⟨gb242, _, none⟩) NB229_242.out _).trans (((cell_far (p := ⟨gb242, _, none⟩) NB229_242.out _).trans (hHeld.2.2.2.2.2))))⟩ (fun hHeld => ?_)
       clear hK K
       refine one_ (i := 7) (N := none) #[true, true, true, true, true, true, true, true] rfl rfl (one_of HT_.out (by kernel_rfl)) (by decide) (fun K hK => ?_)
       have hs204 : w201.cell? ⟨gb243, 0, none⟩ = some (.int .i64 0) := (blk_cell BK243.out 0).trans rfl
       have hfs204 := blk_frozen BK243.out 0
       have hns204_0 := NB228_243.out
       have hns204_1 := NB229_243.out
       have hns204_2 := NB233_243.out
       have hns204_3 := NB241_243.out
       have hns204_4 := NB242_243.out
       have hms204_0 := NB243_228.out
       have hms204_1 := NB243_229.out
       have hms204_2 := NB243_233.out
       have hms204_3 := NB243_241.out
       have hms204_4 := NB243_242.out
       have hs205 : w201.cell? ⟨gb243, 1, none⟩ = some (.int .i64 0) := (blk_cell BK243.out 1).trans rfl
       have hfs205 := blk_frozen BK243.out 1
       have hns205_0 := NB228_243.out
       have hns205_1 := NB229_243.out
       have hns205_2 := NB233_243.out
       have hns205_3 := NB241_243.out
       have hns205_4 := NB242_243.out
       have hms205_0 := NB243_228.out
       have hms205_1 := NB243_229.out
       have hms205_2 := NB243_233.out
       have hms205_3 := NB243_241.out
       have hms205_4 := NB243_242.out
       refine skip_ (w1 := ?_) (by rfl) rfl ?_ ?_
       rotate_left
       ·go_simp
        rfl
       refine hK.out _ _ ⟨((cell_far (p := ⟨gb243, _, none⟩) NB228_243.out _).trans (((cell_far (p := ⟨gb243, _, none⟩) NB228_243.out _).trans (hHeld.1)))), ((cell_far (p := ⟨gb243, _, none⟩) NB228_243.out _).trans (((cell_far (p := ⟨gb243, _, none⟩) NB228_243.out _).trans (hHeld.2.1)))), ((cell_far (p := ⟨gb243, _, none⟩) NB228_243.out _).trans (((cell_far (p := ⟨gb243, _, none⟩) NB228_243.out _).trans (hHeld.2.2.1)))), ((cell_far (p := ⟨gb243, _, none⟩) NB229_243.out _).trans (((cell_far (p := ⟨gb243, _, none⟩) NB229_243.out _).trans (hHeld.2.2.2.1)))), ((cell_far (p := ⟨gb243, _, none⟩) NB229_243.out _).trans (((cell_far (p := ⟨gb243, _, none⟩) NB229_243.out _).trans (hHeld.2.2.2.2.1)))), ((cell_far (p := ⟨gb243, _, none⟩) NB229_243.out _).trans (((cell_far (p := ⟨gb243, _, none⟩) NB229_243.out _).trans (hHeld.2.2.2.2.2))))⟩ (fun hHeld => ?_)
       clear hK K
       refine done_ (done_of HT_.out (by kernel_rfl)) ?_
       have hnb206 := NB242_228.out
       have hnc206 := NB228_242.out
       have hnb207 := NB242_229.out
       have hnc207 := NB229_242.out
       have hnb208 := NB242_233.out
       have hnc208 := NB233_242.out
       have hnb209 := NB242_241.out
       have hnc209 := NB241_242.out
       have hnb210 := NB242_243.out
       have hnc210 := NB243_242.out
       have hcz211_0 : w201.cell? ⟨gb242, 0, none⟩ = some (.int .i64 0) := (blk_cell BK242.out 0).trans rfl
       have hcz211_1 : w201.cell? ⟨gb242, 1, none⟩ = some (.int .i64 0) := (blk_cell BK242.out 1).trans rfl
       have hfz211_0 := blk_frozen BK242.out 0
       have hfz211_1 := blk_frozen BK242.out 1
       have hnb212 := NB233_228.out
       have hnc212 := NB228_233.out
       have hnb213 := NB233_229.out
       have hnc213 := NB229_233.out
       have hnb214 := NB233_241.out
       have hnc214 := NB241_233.out
       have hnb215 := NB233_243.out
       have hnc215 := NB243_233.out
       have hcz216_0 : w201.cell? ⟨gb233, 0, none⟩ = some (.int .i64 t230) := (blk_cell BK233.out 0).trans rfl
       have hcz216_1 : w201.cell? ⟨gb233, 1, none⟩ = some (.int .i64 t231) := (blk_cell BK233.out 1).trans rfl
       have hfz216_0 := blk_frozen BK233.out 0
       have hfz216_1 := blk_frozen BK233.out 1
       try go_wp2_with (first | ((with_reducible refine gate_callee (f := 21) rfl ?_); refine goesL_ (some 111) rfl rfl Try.func21 (by kernel_rfl) rfl #[.agg #[.int .i64 (wrap64 (t224 + (wrap64 (t223 * t225)))), .int .i64 1], .agg #[.int .i64 t230, .int .i64 t231]] rfl argN ?_; (with_reducible refine (marigraphref1_Cmp.calls kj13 (wrap64 (t224 + (wrap64 (t223 * t225)))) 1 t230 t231 t247 _ A140.out).mono ?_); rintro e w217 ⟨rfl, hb⟩; refine ⟨_, rfl, ?_⟩; have n0_ := Aside0.mk (bkBF BK228.out hb); have n1_ := Aside0.mk (bkBF BK229.out hb); have n2_ := Aside0.mk (bkBF BK233.out hb); have n3_ := Aside0.mk (bkBF BK241.out hb); have n4_ := Aside0.mk (blk_below (g := gb242) (o := .cells #[.int .i64 (wrap64 (t224 + (wrap64 (t223 * t225)))), .int .i64 1] 28 (0, 0)) (by (with_reducible repeat (first | refine blk_drewN ?_ _ | refine blk_drew ?_ | refine blk_alloc ?_ _)); refine blk_far ?_ NB242_243.out _; (with_reducible repeat (first | refine blk_drewN ?_ _ | refine blk_drew ?_ | refine blk_alloc ?_ _)); refine blk_far ?_ NB242_243.out _; (with_reducible repeat (first | refine blk_drewN ?_ _ | refine blk_drew ?_ | refine blk_alloc ?_ _)); refine blk_put (cs := #[.int .i64 (wrap64 (t224 + (wrap64 (t223 * t225)))), .int .i64 0]) ?_ 1 _ rfl; (with_reducible repeat (first | refine blk_drewN ?_ _ | refine blk_drew ?_ | refine blk_alloc ?_ _)); refine blk_put (cs := #[.int .i64 0, .int .i64 0]) ?_ 0 _ rfl; (with_reducible repeat (first | refine blk_drewN ?_ _ | refine blk_drew ?_ | refine blk_alloc ?_ _)); exact BK242.out) hb); have n5_ := Aside0.mk (blk_below (g := gb243) (o := .cells #[.int .i64 (wrap64 (t224 + (wrap64 (t223 * (wrap64 (t225 + t226)))))), .int .i64 1] 28 (0, 0)) (by (with_reducible repeat (first | refine blk_drewN ?_ _ | refine blk_drew ?_ | refine blk_alloc ?_ _)); refine blk_put (cs := #[.int .i64 (wrap64 (t224 + (wrap64 (t223 * (wrap64 (t225 + t226)))))), .int .i64 0]) ?_ 1 _ rfl; (with_reducible repeat (first | refine blk_drewN ?_ _ | refine blk_drew ?_ | refine blk_alloc ?_ _)); refine blk_put (cs := #[.int .i64 0, .int .i64 0]) ?_ 0 _ rfl; (with_reducible repeat (first | refine blk_drewN ?_ _ | refine blk_drew ?_ | refine blk_alloc ?_ _)); refine blk_far ?_ NB243_242.out _; (with_reducible repeat (first | refine blk_drewN ?_ _ | refine blk_drew ?_ | refine blk_alloc ?_ _)); refine blk_far ?_ NB243_242.out _; (with_reducible repeat (first | refine blk_drewN ?_ _ | refine blk_drew ?_ | refine blk_alloc ?_ _)); exact BK243.out) hb); have n6_ := Aside0.mk (below_step (belS HB.out) hb); clear BK228; clear BK229; clear BK233; clear BK241; clear BK242; clear BK243; clear HB; have BK228 := n0_; have BK229 := n1_; have BK233 := n2_; have BK241 := n3_; have BK242 := n4_; have BK243 := n5_; have HB := n6_; clear n0_ n1_ n2_ n3_ n4_ n5_ n6_; (try clear hb); (try clear hb2); (try clear hk); (try clear hi)))
       go_ret
       exact ⟨by first | rfl | (simp [errW_none, errW_some] <;> rfl) | (simp [*, errW_none, errW_some] <;> rfl), (belS HB.out)⟩

/-- THE ONE PURE STATEMENT of marigraphlaw22_LerpLines: yours. -/
def marigraphlaw22_LerpLines.Pure : Prop := ∀ (a0 : Int) (a1 : Int) (a2 : Int) (a3 : Int) (a4 : Int), (Lit.int .i64 a0).wf = true → (Lit.int .i64 a1).wf = true → (Lit.int .i64 a2).wf = true → (Lit.int .i64 a3).wf = true → (Lit.int .i64 a4).wf = true → ∃ k, marigraphlaw22_LerpLines.f k a0 a1 a2 a3 a4 = some true
theorem marigraphlaw22_LerpLines.walk (P : marigraphlaw22_LerpLines.Pure) (a0 : Int) (a1 : Int) (a2 : Int) (a3 : Int) (a4 : Int) (w : World) (w0 : (Lit.int .i64 a0).wf = true) (w1 : (Lit.int .i64 a1).wf = true) (w2 : (Lit.int .i64 a2).wf = true) (w3 : (Lit.int .i64 a3).wf = true) (w4 : (Lit.int .i64 a4).wf = true) :
  Calls Try.prog 5 #[.int .i64 a0, .int .i64 a1, .int .i64 a2, .int .i64 a3, .int .i64 a4] w fun e w' => e = .returned (.bool true) ∧ Below w.heap.size w w' := by
 obtain ⟨k, h⟩ := P a0 a1 a2 a3 a4 w0 w1 w2 w3 w4
 refine (marigraphlaw22_LerpLines.calls k a0 a1 a2 a3 a4 true w h).mono ?_
 rintro e w' ⟨rfl, hd⟩
 exact ⟨rfl, hd⟩

end Go.Proofs.Ytdnialldicdnoaa.PLerpLines

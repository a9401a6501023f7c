/- The walk of the Go functions that a law reaches, told as plain functions; a program of this session has written it. No condition beyond the statement's own. -/
import Derived.Test.YtdnialldicdnoaaPRateSumsx0
import Derived.Test.YtdnialldicdnoaaPRateSumsx1
import Derived.Test.YtdnialldicdnoaaPRateSumsx3
import Derived.Test.YtdnialldicdnoaaPRateSumsx8
import Derived.Test.YtdnialldicdnoaaPRateSumsx9
namespace Go.Proofs.Ytdnialldicdnoaa.PRateSums
open Go.RowKit Go.Proofs.YtdnialldicdnoaaW.PrintWords Go.Proofs.YtdnialldicdnoaaW.PrintLast Go.Proofs.YtdnialldicdnoaaW.PrintMore
attribute [local go_sem] max2_int min2_int max_two min_two max_three min_three max_four min_four   -- for this text's walks alone
set_option linter.unusedVariables false
set_option linter.unusedSimpArgs false

attribute [local go_sem high] eqA28
/-! ### marigraphlaw24_RateSums: function 8 -/
mutual
def marigraphlaw24_RateSums.j1 : Nat → Int → List (S30) → Option (Bool)
 | 0, _, _ => none
 | k + 1, x7, x9 => (rate_Do.f k x9 false 0).bind fun bt245 => (if bt245.2 = 0 then (marigraphlaw24_RateSums.j2 k x7 x9 bt245.1 ((bt245.1.length : Int) != (mx 0 (wrap64 ((x9.length : Int) - 1))))) else (marigraphlaw24_RateSums.j2 k x7 x9 bt245.1 true))
def marigraphlaw24_RateSums.j2 : Nat → Int → List (S30) → List (S30) → Bool → Option (Bool)
 | 0, _, _, _, _ => none
 | k + 1, x7, x9, x12, x62 => if x62 = true then (some false) else (marigraphlaw24_RateSums.l1 k x7 x9 x12 0)
def marigraphlaw24_RateSums.l1 : Nat → Int → List (S30) → List (S30) → Int → Option (Bool)
 | 0, _, _, _, _ => none
 | k + 1, x7, x9, x12, x14 => if x14 < (x12.length : Int) then (if 0 ≤ x14 then (if 0 ≤ (wrap64 (x14 + 1)) then (if (wrap64 (x14 + 1)) < (x9.length : Int) then (if ((rd_T30 x12 x14).f0) = ((rd_T30 x9 (wrap64 (x14 + 1))).f0) then (if (!(((rd_T30 x12 x14).f1.f0) == x7) || (!(((rd_T30 x12 x14).f1.f1) == 1))) = true then (some false) else (marigraphlaw24_RateSums.l1 k x7 x9 x12 (wrap64 (x14 + 1)))) else (some false)) else (none)) else (none)) else (none)) else ((marigraphref1_Right.f k 0 1).bind fun t252 => (if t252 = true then ((marigraphlaw24_known.f k).bind fun t253 => (some t253)) else (some false)))
def marigraphlaw24_RateSums.l0 : Nat → List Int → Int → Int → List (S30) → Int → Int → Option (Bool)
 | 0, _, _, _, _, _, _ => none
 | k + 1, x0, x7, x8, x9, x10, x11 => if x11 < (x0.length : Int) then (if x11 < 20 then (if x9.length < 5864062014805 then (if 0 ≤ x11 then ((marigraphbook_Within.f k (rd x0 x11) 1 50).bind fun t244 => (marigraphlaw24_RateSums.l0 k x0 x7 x8 (x9 ++ [(⟨x10, (⟨wrap64 (x8 + (wrap64 (x7 * x10))), 1⟩ : S28)⟩ : S30)]) (wrap64 (x10 + t244)) (wrap64 (x11 + 1)))) else (none)) else (none)) else (marigraphlaw24_RateSums.j1 k x7 x9)) else (marigraphlaw24_RateSums.j1 k x7 x9)
end
def marigraphlaw24_RateSums.f (k : Nat) (l0 : List Int) (a1 : Int) (a2 : Int) : Option (Bool) := (marigraphbook_Within.f k a1 (-50) 50).bind fun t238 => ((marigraphbook_Within.f k a2 (-1000) 1000).bind fun t239 => (marigraphlaw24_RateSums.l0 k l0 t238 t239 ([] : List (S30)) 0 0))
theorem marigraphlaw24_RateSums.mono_l : ∀ k, (∀ y0 y1, LeO (marigraphlaw24_RateSums.j1 k y0 y1) (marigraphlaw24_RateSums.j1 (k + 1) y0 y1)) ∧ (∀ y0 y1 y2 y3, LeO (marigraphlaw24_RateSums.j2 k y0 y1 y2 y3) (marigraphlaw24_RateSums.j2 (k + 1) y0 y1 y2 y3)) ∧ (∀ y0 y1 y2 y3, LeO (marigraphlaw24_RateSums.l1 k y0 y1 y2 y3) (marigraphlaw24_RateSums.l1 (k + 1) y0 y1 y2 y3)) ∧ (∀ y0 y1 y2 y3 y4 y5, LeO (marigraphlaw24_RateSums.l0 k y0 y1 y2 y3 y4 y5) (marigraphlaw24_RateSums.l0 (k + 1) y0 y1 y2 y3 y4 y5))
 | 0 => ⟨fun _ _ r h => by simp [marigraphlaw24_RateSums.j1] at h, fun _ _ _ _ r h => by simp [marigraphlaw24_RateSums.j2] at h, fun _ _ _ _ r h => by simp [marigraphlaw24_RateSums.l1] at h, fun _ _ _ _ _ _ r h => by simp [marigraphlaw24_RateSums.l0] at h⟩
 | k + 1 => by
  obtain ⟨ih0, ih1, ih2, ih3⟩ := marigraphlaw24_RateSums.mono_l k
  refine ⟨?_, ?_, ?_, ?_⟩
  ·intro y0 y1
   unfold marigraphlaw24_RateSums.j1
   repeat' first
   | (with_reducible exact ih0 _ _)
   | (with_reducible exact ih1 _ _ _ _)
   | (with_reducible exact ih2 _ _ _ _)
   | (with_reducible exact ih3 _ _ _ _ _ _)
   | (with_reducible exact marigraphbook_Within.mono _ _ _ _)
   | (with_reducible exact marigraphlaw24_known.mono _)
   | (with_reducible exact marigraphref1_Right.mono _ _ _)
   | (with_reducible exact rate_Do.mono _ _ _ _)
   | (with_reducible exact LeO.refl _)
   | (with_reducible exact LeO.none _)
   | (with_reducible refine LeO.ite ?_ ?_)
   | (with_reducible refine LeO.bind ?_ (fun _ => ?_))
   | exact ih0 _ _
   | exact ih1 _ _ _ _
   | exact ih2 _ _ _ _
   | exact ih3 _ _ _ _ _ _
   | exact marigraphbook_Within.mono _ _ _ _
   | exact marigraphlaw24_known.mono _
   | exact marigraphref1_Right.mono _ _ _
   | exact rate_Do.mono _ _ _ _
   | exact LeO.none _
   | refine LeO.ite ?_ ?_
   | refine LeO.bind ?_ (fun _ => ?_)
  ·intro y0 y1 y2 y3
   unfold marigraphlaw24_RateSums.j2
   repeat' first
   | (with_reducible exact ih0 _ _)
   | (with_reducible exact ih1 _ _ _ _)
   | (with_reducible exact ih2 _ _ _ _)
   | (with_reducible exact ih3 _ _ _ _ _ _)
   | (with_reducible exact marigraphbook_Within.mono _ _ _ _)
   | (with_reducible exact marigraphlaw24_known.mono _)
   | (with_reducible exact marigraphref1_Right.mono _ _ _)
   | (with_reducible exact rate_Do.mono _ _ _ _)
   | (with_reducible exact LeO.refl _)
   | (with_reducible exact LeO.none _)
   | (with_reducible refine LeO.ite ?_ ?_)
   | (with_reducible refine LeO.bind ?_ (fun _ => ?_))
   | exact ih0 _ _
   | exact ih1 _ _ _ _
   | exact ih2 _ _ _ _
   | exact ih3 _ _ _ _ _ _
   | exact marigraphbook_Within.mono _ _ _ _
   | exact marigraphlaw24_known.mono _
   | exact marigraphref1_Right.mono _ _ _
   | exact rate_Do.mono _ _ _ _
   | exact LeO.none _
   | refine LeO.ite ?_ ?_
   | refine LeO.bind ?_ (fun _ => ?_)
  ·intro y0 y1 y2 y3
   unfold marigraphlaw24_RateSums.l1
   repeat' first
   | (with_reducible exact ih0 _ _)
   | (with_reducible exact ih1 _ _ _ _)
   | (with_reducible exact ih2 _ _ _ _)
   | (with_reducible exact ih3 _ _ _ _ _ _)
   | (with_reducible exact marigraphbook_Within.mono _ _ _ _)
   | (with_reducible exact marigraphlaw24_known.mono _)
   | (with_reducible exact marigraphref1_Right.mono _ _ _)
   | (with_reducible exact rate_Do.mono _ _ _ _)
   | (with_reducible exact LeO.refl _)
   | (with_reducible exact LeO.none _)
   | (with_reducible refine LeO.ite ?_ ?_)
   | (with_reducible refine LeO.bind ?_ (fun _ => ?_))
   | exact ih0 _ _
   | exact ih1 _ _ _ _
   | exact ih2 _ _ _ _
   | exact ih3 _ _ _ _ _ _
   | exact marigraphbook_Within.mono _ _ _ _
   | exact marigraphlaw24_known.mono _
   | exact marigraphref1_Right.mono _ _ _
   | exact rate_Do.mono _ _ _ _
   | exact LeO.none _
   | refine LeO.ite ?_ ?_
   | refine LeO.bind ?_ (fun _ => ?_)
  ·intro y0 y1 y2 y3 y4 y5
   unfold marigraphlaw24_RateSums.l0
   repeat' first
   | (with_reducible exact ih0 _ _)
   | (with_reducible exact ih1 _ _ _ _)
   | (with_reducible exact ih2 _ _ _ _)
   | (with_reducible exact ih3 _ _ _ _ _ _)
   | (with_reducible exact marigraphbook_Within.mono _ _ _ _)
   | (with_reducible exact marigraphlaw24_known.mono _)
   | (with_reducible exact marigraphref1_Right.mono _ _ _)
   | (with_reducible exact rate_Do.mono _ _ _ _)
   | (with_reducible exact LeO.refl _)
   | (with_reducible exact LeO.none _)
   | (with_reducible refine LeO.ite ?_ ?_)
   | (with_reducible refine LeO.bind ?_ (fun _ => ?_))
   | exact ih0 _ _
   | exact ih1 _ _ _ _
   | exact ih2 _ _ _ _
   | exact ih3 _ _ _ _ _ _
   | exact marigraphbook_Within.mono _ _ _ _
   | exact marigraphlaw24_known.mono _
   | exact marigraphref1_Right.mono _ _ _
   | exact rate_Do.mono _ _ _ _
   | exact LeO.none _
   | refine LeO.ite ?_ ?_
   | refine LeO.bind ?_ (fun _ => ?_)
theorem marigraphlaw24_RateSums.mono : ∀ a0 a1 a2 k, LeO (marigraphlaw24_RateSums.f k a0 a1 a2) (marigraphlaw24_RateSums.f (k + 1) a0 a1 a2) := by
 intro a0 a1 a2 k
 obtain ⟨ih0, ih1, ih2, ih3⟩ := marigraphlaw24_RateSums.mono_l k
 unfold marigraphlaw24_RateSums.f
 repeat' first
   | (with_reducible exact ih0 _ _)
   | (with_reducible exact ih1 _ _ _ _)
   | (with_reducible exact ih2 _ _ _ _)
   | (with_reducible exact ih3 _ _ _ _ _ _)
   | (with_reducible exact marigraphbook_Within.mono _ _ _ _)
   | (with_reducible exact marigraphlaw24_known.mono _)
   | (with_reducible exact marigraphref1_Right.mono _ _ _)
   | (with_reducible exact rate_Do.mono _ _ _ _)
   | (with_reducible exact LeO.refl _)
   | (with_reducible exact LeO.none _)
   | (with_reducible refine LeO.ite ?_ ?_)
   | (with_reducible refine LeO.bind ?_ (fun _ => ?_))
   | exact ih0 _ _
   | exact ih1 _ _ _ _
   | exact ih2 _ _ _ _
   | exact ih3 _ _ _ _ _ _
   | exact marigraphbook_Within.mono _ _ _ _
   | exact marigraphlaw24_known.mono _
   | exact marigraphref1_Right.mono _ _ _
   | exact rate_Do.mono _ _ _ _
   | exact LeO.none _
   | refine LeO.ite ?_ ?_
   | refine LeO.bind ?_ (fun _ => ?_)
set_option maxHeartbeats 8000000 in
set_option maxRecDepth 100000 in
theorem marigraphlaw24_RateSums.calls (k : Nat) (A0 : Option Addr) (c0 : Nat) (l0 : List Int) (a1 : Int) (a2 : Int) (r : Bool) (w : World) (hr0 : Kd.C (Kd.int .i64) w A0 l0.length l0) (hc0 : l0.length ≤ c0) (h : marigraphlaw24_RateSums.f k l0 a1 a2 = some r) :
  Calls Try.prog 8 #[.slice A0 l0.length c0, .int .i64 a1, .int .i64 a2] w fun e w' => e = .returned (.bool r) ∧ Below w.heap.size w w' := by
 have hu28 := Try.underlying28
 have hu30 := Try.underlying30
 have HR0 := Aside0.mk hr0
 have HC0 := Aside0.mk hc0
 clear hr0 hc0
 have HB := Aside0.mk (Below.refl w.heap.size w)
 have H : ((marigraphbook_Within.f k a1 (-50) 50).bind fun t238 => ((marigraphbook_Within.f k a2 (-1000) 1000).bind fun t239 => (marigraphlaw24_RateSums.l0 k l0 t238 t239 ([] : List (S30)) 0 0))) = some r := h
 clear h
 replace H := Option.bind_eq_some_iff.mp H
 obtain ⟨t238, A40, H⟩ := H
 replace H : ((marigraphbook_Within.f k a2 (-1000) 1000).bind fun t239 => (marigraphlaw24_RateSums.l0 k l0 t238 t239 ([] : List (S30)) 0 0)) = some r := H
 have A4 := Aside0.mk A40
 clear A40
 replace H := Option.bind_eq_some_iff.mp H
 obtain ⟨t239, A50, H⟩ := H
 replace H : (marigraphlaw24_RateSums.l0 k l0 t238 t239 ([] : List (S30)) 0 0) = some r := H
 have A5 := Aside0.mk A50
 clear A50
 have HC6 := Aside0.mk H
 clear H
 go_enter Try.func8, Try.ntmps8
 go_upto_block 0 with (first | (go_at_call 18; (with_reducible refine (marigraphbook_Within.calls k a1 (-50) 50 t238 _ A4.out).mono ?_); rintro e w' ⟨rfl, ⟨nd, rfl⟩⟩; (try first | exact ⟨rfl, _, World.drewN_drewN _ _ _⟩ | exact ⟨rfl, _, Eq.trans (World.drewN_drewN _ _ _) (congrArg (World.drewN _) (Nat.add_assoc _ _ _))⟩)) | (go_at_call 18; (with_reducible refine (marigraphbook_Within.calls k a2 (-1000) 1000 t239 _ A5.out).mono ?_); rintro e w' ⟨rfl, ⟨nd, rfl⟩⟩; (try first | exact ⟨rfl, _, World.drewN_drewN _ _ _⟩ | exact ⟨rfl, _, Eq.trans (World.drewN_drewN _ _ _) (congrArg (World.drewN _) (Nat.add_assoc _ _ _))⟩)))
 repeat (go_quiet (first | (go_at_call 18; (with_reducible refine (marigraphbook_Within.calls k a1 (-50) 50 t238 _ A4.out).mono ?_); rintro e w' ⟨rfl, ⟨nd, rfl⟩⟩; (try first | exact ⟨rfl, _, World.drewN_drewN _ _ _⟩ | exact ⟨rfl, _, Eq.trans (World.drewN_drewN _ _ _) (congrArg (World.drewN _) (Nat.add_assoc _ _ _))⟩)) | (go_at_call 18; (with_reducible refine (marigraphbook_Within.calls k a2 (-1000) 1000 t239 _ A5.out).mono ?_); rintro e w' ⟨rfl, ⟨nd, rfl⟩⟩; (try first | exact ⟨rfl, _, World.drewN_drewN _ _ _⟩ | exact ⟨rfl, _, Eq.trans (World.drewN_drewN _ _ _) (congrArg (World.drewN _) (Nat.add_assoc _ _ _))⟩))); go_upto_block 0 with (first | (go_at_call 18; (with_reducible refine (marigraphbook_Within.calls k a1 (-50) 50 t238 _ A4.out).mono ?_); rintro e w' ⟨rfl, ⟨nd, rfl⟩⟩; (try first | exact ⟨rfl, _, World.drewN_drewN _ _ _⟩ | exact ⟨rfl, _, Eq.trans (World.drewN_drewN _ _ _) (congrArg (World.drewN _) (Nat.add_assoc _ _ _))⟩)) | (go_at_call 18; (with_reducible refine (marigraphbook_Within.calls k a2 (-1000) 1000 t239 _ A5.out).mono ?_); rintro e w' ⟨rfl, ⟨nd, rfl⟩⟩; (try first | exact ⟨rfl, _, World.drewN_drewN _ _ _⟩ | exact ⟨rfl, _, Eq.trans (World.drewN_drewN _ _ _) (congrArg (World.drewN _) (Nat.add_assoc _ _ _))⟩))))
 (try simp only [Act.put, List.setIfInBounds_toArray, List.set_cons_zero, List.set_cons_succ])
 go_cut [9] (fun v9 wc => ∃ (kq : Nat) (x9_5 : List (S30)), Aside0 (marigraphlaw24_RateSums.j1 kq t238 x9_5 = some r) ∧ Aside0 (kq ≤ k) ∧ Aside0 (Kd.R k30 30 wc w.heap.size (fun _ => True) v9 x9_5) ∧ Aside0 (Below w.heap.size w wc))
 case first =>
  have H := HC6.out
  clear HC6
  have H' := Aside0.mk H
  clear H
  go_wp2
  repeat (go_quiet (fail); try go_wp2)
  go_loopg [9, 10, 11] k (fun kq v9 v10 v11 w' => ∃ (x9_1 : List (S30)) (x10_1 : Int) (x11_1 : Int), v10 = .int .i64 x10_1 ∧ v11 = .int .i64 x11_1 ∧ Aside0 (marigraphlaw24_RateSums.l0 kq l0 t238 t239 x9_1 x10_1 x11_1 = some r) ∧ Aside0 (kq ≤ k) ∧ Aside0 (Kd.R k30 30 w' w.heap.size (fun _ => True) v9 x9_1) ∧ Aside0 (Below w.heap.size w w'))
  case atStart => exact ⟨(([] : List (S30))), (0), (0), (by first | rfl | (simp; done) | (simp [*]; done)), (by first | rfl | (simp; done) | (simp [*]; done)), H', ⟨Nat.le_refl _⟩, ⟨by first | exact Kd.R_nil _ _ _ _ _ | exact Kd.N_nil _ _ _ _ _ | exact Kd.V_nil _ _ _ _ _ | exact Kd.Q_nil _ _ _ _ _ | exact Kd.S_nil _ _ _ _ _⟩, ⟨(belN HB.out)⟩⟩
  case round =>
   clear H'
   try clear p2
   obtain ⟨x9_1, x10_1, x11_1, rfl, rfl, HA, HK1, HO_9, HB⟩ := hrel
   cases gk with
   | zero => exact absurd HA.out (by simp [marigraphlaw24_RateSums.l0])
   | succ k1 =>
    have H := HA.out
    clear HA
    simp only [marigraphlaw24_RateSums.l0] at H
    by_cases c7 : x11_1 < (l0.length : Int)
    ·rw [if_pos c7] at H
     have c7b0 : decide (x11_1 < (l0.length : Int)) = true := decide_eq_true c7
     clear c7
     (first | rw [c7b0] | (simp only [i64_w, i32_w]; rw [c7b0]) | skip)
     by_cases c8 : x11_1 < 20
     ·rw [if_pos c8] at H
      have c8b0 : decide (x11_1 < 20) = true := decide_eq_true c8
      clear c8
      by_cases c9 : x9_1.length < 5864062014805
      ·rw [if_pos c9] at H
       have LMc9 := Aside0.mk c9
       clear c9
       obtain ⟨y240, hy240⟩ : ∃ y_ : List (S30), y_ = (x9_1 ++ [(⟨x10_1, (⟨wrap64 (t239 + (wrap64 (t238 * x10_1))), 1⟩ : S28)⟩ : S30)]) := ⟨_, rfl⟩
       replace H : (if 0 ≤ x11_1 then ((marigraphbook_Within.f k1 (rd l0 x11_1) 1 50).bind fun t244 => (marigraphlaw24_RateSums.l0 k1 l0 t238 t239 y240 (wrap64 (x10_1 + t244)) (wrap64 (x11_1 + 1)))) else (none)) = some r := by first | (rw [hy240]; with_reducible exact H) | (have H2_ := (Option.bind_some _ _).symm.trans H; rw [hy240]; with_reducible exact H2_) | (have H2_ := (Option.bind_some _ _).symm.trans H; with_reducible exact H2_) | with_reducible exact H | (rw [hy240]; exact H) | exact H
       have Ny240 := Aside0.mk hy240
       clear hy240
       by_cases c10 : 0 ≤ x11_1
       ·rw [if_pos c10] at H
        have c10b0 : decide (0 ≤ x11_1) = true := decide_eq_true c10
        clear c10
        replace H := Option.bind_eq_some_iff.mp H
        obtain ⟨t244, A110, H⟩ := H
        replace H : (marigraphlaw24_RateSums.l0 k1 l0 t238 t239 y240 (wrap64 (x10_1 + t244)) (wrap64 (x11_1 + 1))) = some r := H
        have A11 := Aside0.mk A110
        clear A110
        have H' := Aside0.mk H
        clear H
        go_wp2_with (first | ((with_reducible refine gate_builtin (b := .append) (xs := #[.tmp 29, .tmp 38]) rfl ?_); (try (refine gate_guard (by rfl) ?_; dsimp only)); at_builtin; refine Kd.R_append k30 (w0 := w) w.heap.size rfl (.tmp 29) (.tmp 38) 22 30 (.agg #[(.int .i64 0), (.int .i64 0), (.int .i64 0)]) 24 rfl Try.underlying22 info30 rfl (by decide) (by omega) u9 x9_1 (⟨x10_1, (⟨wrap64 (t239 + (wrap64 (t238 * x10_1))), 1⟩ : S28)⟩ : S30) [.int .i64 x10_1, .int .i64 (wrap64 (t239 + (wrap64 (t238 * x10_1)))), .int .i64 1] (fun _ => True) (fun _ => False) rfl rfl ?aP (fun _ hk => hk.elim) ?aF ?aO ?aB ?aS ?aL ?_; (case aP => exact k30_mkM _ _ _ (⟨x10_1, (⟨wrap64 (t239 + (wrap64 (t238 * x10_1))), 1⟩ : S28)⟩ : S30)); (case aB => exact (belN HB.out)); (case aF => exact (fun _ _ => trivial)); (case aO => exact (rowN HO_9.out)); (case aS => exact (below_size (belN HB.out))); (case aL => have := LMc9.out; omega); intro v241 w12 ho hb hg hat; rw [← Ny240.out] at ho; have n0_ := Aside0.mk (hb); have n1_ := Aside0.mk (ho); clear HB; clear HO_9; have HB := n0_; have HO242 := n1_; clear n0_ n1_; clear ho hb hg hat; have p243 : 0 ≤ (x11_1 : Int) := of_decide_eq_true (by first | (with_reducible assumption) | assumption); have q243 : x11_1 < (l0.length : Int) := of_decide_eq_true (by first | (with_reducible assumption) | assumption); obtain ⟨ad243, e243, hx243_0⟩ := Kd.at_int HR0.out x11_1 p243 q243; cases e243; replace hx243_0 := cellB HB.out hx243_0; replace p243 := eq_true p243; replace q243 := eq_true q243) | (go_at_call 18; (with_reducible refine (marigraphbook_Within.calls k1 (rd l0 x11_1) 1 50 t244 _ A11.out).mono ?_); rintro e w' ⟨rfl, ⟨nd, rfl⟩⟩; (try first | exact ⟨rfl, _, World.drewN_drewN _ _ _⟩ | exact ⟨rfl, _, Eq.trans (World.drewN_drewN _ _ _) (congrArg (World.drewN _) (Nat.add_assoc _ _ _))⟩)))
        repeat (go_quiet (first | ((with_reducible refine gate_builtin (b := .append) (xs := #[.tmp 29, .tmp 38]) rfl ?_); (try (refine gate_guard (by rfl) ?_; dsimp only)); at_builtin; refine Kd.R_append k30 (w0 := w) w.heap.size rfl (.tmp 29) (.tmp 38) 22 30 (.agg #[(.int .i64 0), (.int .i64 0), (.int .i64 0)]) 24 rfl Try.underlying22 info30 rfl (by decide) (by omega) u9 x9_1 (⟨x10_1, (⟨wrap64 (t239 + (wrap64 (t238 * x10_1))), 1⟩ : S28)⟩ : S30) [.int .i64 x10_1, .int .i64 (wrap64 (t239 + (wrap64 (t238 * x10_1)))), .int .i64 1] (fun _ => True) (fun _ => False) rfl rfl ?aP (fun _ hk => hk.elim) ?aF ?aO ?aB ?aS ?aL ?_; (case aP => exact k30_mkM _ _ _ (⟨x10_1, (⟨wrap64 (t239 + (wrap64 (t238 * x10_1))), 1⟩ : S28)⟩ : S30)); (case aB => exact (belN HB.out)); (case aF => exact (fun _ _ => trivial)); (case aO => exact (rowN HO_9.out)); (case aS => exact (below_size (belN HB.out))); (case aL => have := LMc9.out; omega); intro v241 w12 ho hb hg hat; rw [← Ny240.out] at ho; have n0_ := Aside0.mk (hb); have n1_ := Aside0.mk (ho); clear HB; clear HO_9; have HB := n0_; have HO242 := n1_; clear n0_ n1_; clear ho hb hg hat; have p243 : 0 ≤ (x11_1 : Int) := of_decide_eq_true (by first | (with_reducible assumption) | assumption); have q243 : x11_1 < (l0.length : Int) := of_decide_eq_true (by first | (with_reducible assumption) | assumption); obtain ⟨ad243, e243, hx243_0⟩ := Kd.at_int HR0.out x11_1 p243 q243; cases e243; replace hx243_0 := cellB HB.out hx243_0; replace p243 := eq_true p243; replace q243 := eq_true q243) | (go_at_call 18; (with_reducible refine (marigraphbook_Within.calls k1 (rd l0 x11_1) 1 50 t244 _ A11.out).mono ?_); rintro e w' ⟨rfl, ⟨nd, rfl⟩⟩; (try first | exact ⟨rfl, _, World.drewN_drewN _ _ _⟩ | exact ⟨rfl, _, Eq.trans (World.drewN_drewN _ _ _) (congrArg (World.drewN _) (Nat.add_assoc _ _ _))⟩))); try go_wp2_with (first | ((with_reducible refine gate_builtin (b := .append) (xs := #[.tmp 29, .tmp 38]) rfl ?_); (try (refine gate_guard (by rfl) ?_; dsimp only)); at_builtin; refine Kd.R_append k30 (w0 := w) w.heap.size rfl (.tmp 29) (.tmp 38) 22 30 (.agg #[(.int .i64 0), (.int .i64 0), (.int .i64 0)]) 24 rfl Try.underlying22 info30 rfl (by decide) (by omega) u9 x9_1 (⟨x10_1, (⟨wrap64 (t239 + (wrap64 (t238 * x10_1))), 1⟩ : S28)⟩ : S30) [.int .i64 x10_1, .int .i64 (wrap64 (t239 + (wrap64 (t238 * x10_1)))), .int .i64 1] (fun _ => True) (fun _ => False) rfl rfl ?aP (fun _ hk => hk.elim) ?aF ?aO ?aB ?aS ?aL ?_; (case aP => exact k30_mkM _ _ _ (⟨x10_1, (⟨wrap64 (t239 + (wrap64 (t238 * x10_1))), 1⟩ : S28)⟩ : S30)); (case aB => exact (belN HB.out)); (case aF => exact (fun _ _ => trivial)); (case aO => exact (rowN HO_9.out)); (case aS => exact (below_size (belN HB.out))); (case aL => have := LMc9.out; omega); intro v241 w12 ho hb hg hat; rw [← Ny240.out] at ho; have n0_ := Aside0.mk (hb); have n1_ := Aside0.mk (ho); clear HB; clear HO_9; have HB := n0_; have HO242 := n1_; clear n0_ n1_; clear ho hb hg hat; have p243 : 0 ≤ (x11_1 : Int) := of_decide_eq_true (by first | (with_reducible assumption) | assumption); have q243 : x11_1 < (l0.length : Int) := of_decide_eq_true (by first | (with_reducible assumption) | assumption); obtain ⟨ad243, e243, hx243_0⟩ := Kd.at_int HR0.out x11_1 p243 q243; cases e243; replace hx243_0 := cellB HB.out hx243_0; replace p243 := eq_true p243; replace q243 := eq_true q243) | (go_at_call 18; (with_reducible refine (marigraphbook_Within.calls k1 (rd l0 x11_1) 1 50 t244 _ A11.out).mono ?_); rintro e w' ⟨rfl, ⟨nd, rfl⟩⟩; (try first | exact ⟨rfl, _, World.drewN_drewN _ _ _⟩ | exact ⟨rfl, _, Eq.trans (World.drewN_drewN _ _ _) (congrArg (World.drewN _) (Nat.add_assoc _ _ _))⟩))))
        go_roundg k1
        case measure => have := HK1.out; omega
        case rel => exact ⟨(y240), (wrap64 (x10_1 + t244)), (wrap64 (x11_1 + 1)), (by first | rfl | (simp; done) | (simp [*]; done)), (by first | rfl | (simp; done) | (simp [*]; done)), H', ⟨by have := HK1.out; omega⟩, ⟨(rowN HO242.out)⟩, ⟨(belN HB.out)⟩⟩
       ·rw [if_neg c10] at H
        exact absurd H (by simp)
      ·rw [if_neg c9] at H
       exact absurd H (by simp)
     ·rw [if_neg c8] at H
      have c8b0 : decide (x11_1 < 20) = false := decide_eq_false c8
      clear c8
      have H' := Aside0.mk H
      clear H
      go_wp2
      repeat (go_quiet (fail); try go_wp2)
      go_meet
      case rel => exact ⟨_, (x9_1), H', ⟨by have := HK1.out; first | omega | exact Nat.le_refl _⟩, ⟨(rowN HO_9.out)⟩, ⟨(belN HB.out)⟩⟩
    ·rw [if_neg c7] at H
     have c7b0 : decide (x11_1 < (l0.length : Int)) = false := decide_eq_false c7
     clear c7
     (first | rw [c7b0] | (simp only [i64_w, i32_w]; rw [c7b0]) | skip)
     have H' := Aside0.mk H
     clear H
     go_wp2
     repeat (go_quiet (fail); try go_wp2)
     go_meet
     case rel => exact ⟨_, (x9_1), H', ⟨by have := HK1.out; first | omega | exact Nat.le_refl _⟩, ⟨(rowN HO_9.out)⟩, ⟨(belN HB.out)⟩⟩
 case rest =>
  clear HC6
  try clear c1
  try clear p2
  try clear q2
  try clear hx2
  try clear p6
  try clear c7
  try clear c7b0
  try clear c8
  try clear c8b0
  try clear c9
  try clear c10
  try clear c10b0
  try clear hx243_0
  try clear p2
  try clear p243
  try clear q243
  obtain ⟨kq, x9_5, HA, HJ5, HO_9, HB⟩ := hcut
  cases kq with
  | zero => exact absurd HA.out (by simp [marigraphlaw24_RateSums.j1])
  | succ kj5 =>
   have H := HA.out
   clear HA
   simp only [marigraphlaw24_RateSums.j1] at H
   replace H := Option.bind_eq_some_iff.mp H
   obtain ⟨⟨t245, t246⟩, A130, H⟩ := H
   replace H : (if t246 = 0 then (marigraphlaw24_RateSums.j2 kj5 t238 x9_5 t245 ((t245.length : Int) != (mx 0 (wrap64 ((x9_5.length : Int) - 1))))) else (marigraphlaw24_RateSums.j2 kj5 t238 x9_5 t245 true)) = some r := H
   have A13 := Aside0.mk A130
   clear A130
   have HC14 := Aside0.mk H
   clear H
   obtain ⟨Ao15, co15, eo15⟩ := Kd.R_slice HO_9.out
   subst eo15
   go_upto_region 10 with (first | (go_at_call 24; (with_reducible refine (rate_Do.calls kj5 _ _ x9_5 false 0 t245 t246 _ ?side1 ?side2 A13.out).mono ?_); (case side1 => repeat (first | exact (Kd.R_reads' HO_9.out).2.2 | (with_reducible refine Kd.C_alloc ?_ _) | (with_reducible refine Kd.C_drewN ?_ _) | (with_reducible refine Kd.C_drew ?_))); (case side2 => exact (Kd.R_reads' HO_9.out).2.1); rintro e w16 ⟨v247, rfl, ho0, hb⟩; have n0_ := Aside0.mk (Kd.R_elder' (rowN HO_9.out) (Kd.R_base ho0) hb); have n1_ := Aside0.mk (Kd.R_lower (Kd.R_new' ho0 (Kd.R_lt (rowN HO_9.out))) (below_size (belN HB.out))); have n2_ := Aside0.mk (below_step (belN HB.out) hb); clear HO_9; clear HB; have HO_9 := n0_; have HO248 := n1_; have HB := n2_; clear n0_ n1_ n2_; (try clear hb); (try clear hb2); (try clear hk); (try clear hi); (try clear ho0)))
   repeat (go_quiet (first | (go_at_call 24; (with_reducible refine (rate_Do.calls kj5 _ _ x9_5 false 0 t245 t246 _ ?side1 ?side2 A13.out).mono ?_); (case side1 => repeat (first | exact (Kd.R_reads' HO_9.out).2.2 | (with_reducible refine Kd.C_alloc ?_ _) | (with_reducible refine Kd.C_drewN ?_ _) | (with_reducible refine Kd.C_drew ?_))); (case side2 => exact (Kd.R_reads' HO_9.out).2.1); rintro e w16 ⟨v247, rfl, ho0, hb⟩; have n0_ := Aside0.mk (Kd.R_elder' (rowN HO_9.out) (Kd.R_base ho0) hb); have n1_ := Aside0.mk (Kd.R_lower (Kd.R_new' ho0 (Kd.R_lt (rowN HO_9.out))) (below_size (belN HB.out))); have n2_ := Aside0.mk (below_step (belN HB.out) hb); clear HO_9; clear HB; have HO_9 := n0_; have HO248 := n1_; have HB := n2_; clear n0_ n1_ n2_; (try clear hb); (try clear hb2); (try clear hk); (try clear hi); (try clear ho0))); go_upto_region 10 with (first | (go_at_call 24; (with_reducible refine (rate_Do.calls kj5 _ _ x9_5 false 0 t245 t246 _ ?side1 ?side2 A13.out).mono ?_); (case side1 => repeat (first | exact (Kd.R_reads' HO_9.out).2.2 | (with_reducible refine Kd.C_alloc ?_ _) | (with_reducible refine Kd.C_drewN ?_ _) | (with_reducible refine Kd.C_drew ?_))); (case side2 => exact (Kd.R_reads' HO_9.out).2.1); rintro e w16 ⟨v247, rfl, ho0, hb⟩; have n0_ := Aside0.mk (Kd.R_elder' (rowN HO_9.out) (Kd.R_base ho0) hb); have n1_ := Aside0.mk (Kd.R_lower (Kd.R_new' ho0 (Kd.R_lt (rowN HO_9.out))) (below_size (belN HB.out))); have n2_ := Aside0.mk (below_step (belN HB.out) hb); clear HO_9; clear HB; have HO_9 := n0_; have HO248 := n1_; have HB := n2_; clear n0_ n1_ n2_; (try clear hb); (try clear hb2); (try clear hk); (try clear hi); (try clear ho0))))
   (try simp only [Act.put, List.setIfInBounds_toArray, List.set_cons_zero, List.set_cons_succ])
   go_cut [62] (fun v62 wc => ∃ (kq : Nat) (x62_13 : Bool), v62 = .bool x62_13 ∧ Aside0 (marigraphlaw24_RateSums.j2 kq t238 x9_5 t245 x62_13 = some r) ∧ Aside0 (kq ≤ kj5) ∧ Aside0 (Kd.R k30 30 wc w.heap.size (fun k_ => some k_ ≠ (v247 : Value).ownBlock) (.slice Ao15 x9_5.length co15) x9_5) ∧ Aside0 (Kd.R k30 30 wc w.heap.size (fun k_ => some k_ ≠ ((.slice Ao15 x9_5.length co15) : Value).ownBlock) v247 t245) ∧ Aside0 (Below w.heap.size w wc))
   case first =>
    have H := HC14.out
    clear HC14
    by_cases c17 : t246 = 0
    ·rw [if_pos c17] at H
     have c17b0 : (t246 == 0) = true := beq_iff_eq.mpr c17
     have c17b1 : (t246 != 0) = false := bne_eq_false_iff_eq.mpr c17
     clear c17
     (first | rw [c17b0] | (simp only [i64_w, i32_w]; rw [c17b0]) | skip)
     obtain ⟨ji18, hji18⟩ : ∃ j_ : Int, (mx 0 (wrap64 ((x9_5.length : Int) - 1))) = j_ := ⟨_, rfl⟩
     replace H : (marigraphlaw24_RateSums.j2 kj5 t238 x9_5 t245 ((t245.length : Int) != (ji18))) = some r := by first | (rw [hji18] at H; exact H) | (simp only [hji18] at H ⊢; exact H)
     have hji18_ : (if 0 < (wrap64 ((x9_5.length : Int) - 1)) then (wrap64 ((x9_5.length : Int) - 1)) else 0) = ji18 := hji18
     have H' := Aside0.mk H
     clear H
     obtain ⟨Ao19, co19, eo19⟩ := Kd.R_slice HO248.out
     subst eo19
     go_wp2
     repeat (go_quiet (fail); try go_wp2)
     go_meet
     case rel => exact ⟨_, (((t245.length : Int) != (ji18))), (by first | rfl | (simp; done) | (simp only [← hji18] <;> (first | rfl | simp)) | (simp [*]; done)), H', ⟨by have := HJ5.out; first | omega | exact Nat.le_refl _⟩, ⟨by (with_reducible repeat (first | apply Kd.R_alloc | apply Kd.R_drewN | apply Kd.R_drew)); exact Kd.R_mono HO_9.out (fun _ hk => hk.2)⟩, ⟨by (with_reducible repeat (first | apply Kd.R_alloc | apply Kd.R_drewN | apply Kd.R_drew)); exact Kd.R_mono HO248.out (fun _ hk => hk.2)⟩, ⟨(belN HB.out)⟩⟩
    ·rw [if_neg c17] at H
     have c17b0 : (t246 == 0) = false := beq_eq_false_iff_ne.mpr c17
     have c17b1 : (t246 != 0) = true := bne_iff_ne.mpr c17
     (first | rw [c17b0] | (simp only [i64_w, i32_w]; rw [c17b0]) | skip)
     have H' := Aside0.mk H
     clear H
     go_wp2
     repeat (go_quiet (fail); try go_wp2)
     go_meet
     case rel => exact ⟨_, (true), (by first | rfl | (simp; done) | (simp [*]; done)), H', ⟨by have := HJ5.out; first | omega | exact Nat.le_refl _⟩, ⟨by (with_reducible repeat (first | apply Kd.R_alloc | apply Kd.R_drewN | apply Kd.R_drew)); exact Kd.R_mono HO_9.out (fun _ hk => hk.2)⟩, ⟨by (with_reducible repeat (first | apply Kd.R_alloc | apply Kd.R_drewN | apply Kd.R_drew)); exact Kd.R_mono HO248.out (fun _ hk => hk.2)⟩, ⟨(belN HB.out)⟩⟩
   case rest =>
    clear HC14
    try clear c1
    try clear p2
    try clear q2
    try clear hx2
    try clear p6
    try clear c7
    try clear c7b0
    try clear c8
    try clear c8b0
    try clear c9
    try clear c10
    try clear c10b0
    try clear c17
    try clear c17b0
    try clear c17b1
    try clear hx243_0
    try clear p2
    try clear p243
    try clear p6
    try clear q2
    try clear q243
    obtain ⟨kq, x62_13, rfl, HA, HJ13, HO_9, HO_12, HB⟩ := hcut
    cases kq with
    | zero => exact absurd HA.out (by simp [marigraphlaw24_RateSums.j2])
    | succ kj13 =>
     have H := HA.out
     clear HA
     simp only [marigraphlaw24_RateSums.j2] at H
     by_cases c20 : x62_13 = true
     ·subst c20
      have H1 : (some false) = some r := by rw [if_pos rfl] at H; exact H
      clear H
      have H := H1
      clear H1
      obtain rfl := Option.some.inj H
      go_wp2
      repeat (go_quiet (fail); try go_wp2)
      go_ret
      exact ⟨by first | rfl | (simp [errW_none, errW_some] <;> rfl) | (simp [*, errW_none, errW_some] <;> rfl), (belN HB.out)⟩
     ·replace c20 := Bool.eq_false_iff.mpr c20
      subst c20
      have H1 : (marigraphlaw24_RateSums.l1 kj13 t238 x9_5 t245 0) = some r := by rw [if_neg (show ¬ (false = true) by decide)] at H; exact H
      clear H
      have H := H1
      clear H1
      have H' := Aside0.mk H
      clear H
      go_wp2
      repeat (go_quiet (fail); try go_wp2)
      go_loopg [14] kj13 (fun kq v14 w' => ∃ (x14_3 : Int), v14 = .int .i64 x14_3 ∧ Aside0 (marigraphlaw24_RateSums.l1 kq t238 x9_5 t245 x14_3 = some r) ∧ Aside0 (kq ≤ kj13) ∧ Aside0 (Kd.R k30 30 w' w.heap.size (fun k_ => some k_ ≠ (v247 : Value).ownBlock) (.slice Ao15 x9_5.length co15) x9_5) ∧ Aside0 (Kd.R k30 30 w' w.heap.size (fun k_ => some k_ ≠ ((.slice Ao15 x9_5.length co15) : Value).ownBlock) v247 t245) ∧ Aside0 (Below w.heap.size w w'))
      case atStart => exact ⟨(0), (by first | rfl | (simp; done) | (simp [*]; done)), H', ⟨Nat.le_refl _⟩, ⟨(rowN HO_9.out)⟩, ⟨(rowN HO_12.out)⟩, ⟨(belN HB.out)⟩⟩
      case round =>
       clear H'
       try clear c1
       try clear c2
       try clear p2
       try clear q2
       try clear hx2
       try clear p6
       try clear c7
       try clear c7b0
       try clear c8
       try clear c8b0
       try clear c9
       try clear c10
       try clear c10b0
       try clear c17
       try clear c17b0
       try clear c17b1
       try clear c20
       try clear hx243_0
       try clear p2
       try clear p243
       try clear p6
       try clear q2
       try clear q243
       obtain ⟨x14_3, rfl, HA, HK3, HO_9, HO_12, HB⟩ := hrel
       cases gk with
       | zero => exact absurd HA.out (by simp [marigraphlaw24_RateSums.l1])
       | succ k3 =>
        have H := HA.out
        clear HA
        simp only [marigraphlaw24_RateSums.l1] at H
        by_cases c21 : x14_3 < (t245.length : Int)
        ·rw [if_pos c21] at H
         have c21b0 : decide (x14_3 < (t245.length : Int)) = true := decide_eq_true c21
         clear c21
         by_cases c22 : 0 ≤ x14_3
         ·rw [if_pos c22] at H
          have c22b0 : decide (0 ≤ x14_3) = true := decide_eq_true c22
          clear c22
          obtain ⟨ji23, hji23⟩ : ∃ j_ : Int, (wrap64 (x14_3 + 1)) = j_ := ⟨_, rfl⟩
          replace H : (if 0 ≤ (ji23) then (if (ji23) < (x9_5.length : Int) then (if ((rd_T30 t245 x14_3).f0) = ((rd_T30 x9_5 (ji23)).f0) then (if (!(((rd_T30 t245 x14_3).f1.f0) == t238) || (!(((rd_T30 t245 x14_3).f1.f1) == 1))) = true then (some false) else (marigraphlaw24_RateSums.l1 k3 t238 x9_5 t245 ji23)) else (some false)) else (none)) else (none)) = some r := by first | (rw [hji23] at H; exact H) | (simp only [hji23] at H ⊢; exact H)
          have hji23w : (IntKind.i64.wrap (x14_3 + 1)) = ji23 := (i64_w _).trans hji23
          by_cases c24 : 0 ≤ (ji23)
          ·rw [if_pos c24] at H
           have c24b0 : decide (0 ≤ (ji23)) = true := decide_eq_true c24
           clear c24
           by_cases c25 : (ji23) < (x9_5.length : Int)
           ·rw [if_pos c25] at H
            have c25b0 : decide ((ji23) < (x9_5.length : Int)) = true := decide_eq_true c25
            clear c25
            by_cases c26 : ((rd_T30 t245 x14_3).f0) = ((rd_T30 x9_5 (ji23)).f0)
            ·rw [if_pos c26] at H
             have c26b0 : (((rd_T30 t245 x14_3).f0) == ((rd_T30 x9_5 (ji23)).f0)) = true := beq_iff_eq.mpr c26
             have c26b1 : (((rd_T30 t245 x14_3).f0) != ((rd_T30 x9_5 (ji23)).f0)) = false := bne_eq_false_iff_eq.mpr c26
             clear c26
             by_cases c27 : (!(((rd_T30 t245 x14_3).f1.f0) == t238) || (!(((rd_T30 t245 x14_3).f1.f1) == 1))) = true
             ·rw [if_pos c27] at H
              have c27b0 : (!(((rd_T30 t245 x14_3).f1.f0) == t238) || (!(((rd_T30 t245 x14_3).f1.f1) == 1))) = true := c27
              clear c27
              obtain rfl := Option.some.inj H
              obtain ⟨Ao28, co28, eo28⟩ := Kd.R_slice HO_12.out
              subst eo28
              have p249 : 0 ≤ (x14_3 : Int) := of_decide_eq_true (by first | (with_reducible assumption) | assumption)
              have q249 : x14_3 < (t245.length : Int) := of_decide_eq_true (by first | (with_reducible assumption) | assumption)
              obtain ⟨ad249, e249, hx249_0, hx249_1, hx249_2⟩ := at_T30 (Kd.R_reads' HO_12.out).2.2 x14_3 p249 q249
              cases e249
              replace p249 := eq_true p249
              replace q249 := eq_true q249
              have p250 : 0 ≤ ((ji23) : Int) := of_decide_eq_true (by first | (with_reducible assumption) | assumption)
              have q250 : (ji23) < (x9_5.length : Int) := of_decide_eq_true (by first | (with_reducible assumption) | assumption)
              obtain ⟨ad250, e250, hx250_0, hx250_1, hx250_2⟩ := at_T30 (Kd.R_reads' HO_9.out).2.2 (ji23) p250 q250
              cases e250
              replace p250 := eq_true p250
              replace q250 := eq_true q250
              have p251 : 0 ≤ (x14_3 : Int) := of_decide_eq_true (by first | (with_reducible assumption) | assumption)
              have q251 : x14_3 < (t245.length : Int) := of_decide_eq_true (by first | (with_reducible assumption) | assumption)
              obtain ⟨ad251, e251, hx251_0, hx251_1, hx251_2⟩ := at_T30 (Kd.R_reads' HO_12.out).2.2 x14_3 p251 q251
              obtain rfl : ad249 = ad251 := (by injection e251)
              replace p251 := eq_true p251
              replace q251 := eq_true q251
              go_wp2
              repeat (go_quiet (fail); try go_wp2)
              go_ret
              exact ⟨by first | rfl | (simp [errW_none, errW_some] <;> rfl) | (simp only [← hji23]; first | rfl | (simp [errW_none, errW_some] <;> rfl)) | (simp [*, errW_none, errW_some] <;> rfl), (belN HB.out)⟩
             ·rw [if_neg c27] at H
              have c27b0 : (!(((rd_T30 t245 x14_3).f1.f0) == t238) || (!(((rd_T30 t245 x14_3).f1.f1) == 1))) = false := by simpa using c27
              clear c27
              have H' := Aside0.mk H
              clear H
              obtain ⟨Ao29, co29, eo29⟩ := Kd.R_slice HO_12.out
              subst eo29
              have p249 : 0 ≤ (x14_3 : Int) := of_decide_eq_true (by first | (with_reducible assumption) | assumption)
              have q249 : x14_3 < (t245.length : Int) := of_decide_eq_true (by first | (with_reducible assumption) | assumption)
              obtain ⟨ad249, e249, hx249_0, hx249_1, hx249_2⟩ := at_T30 (Kd.R_reads' HO_12.out).2.2 x14_3 p249 q249
              cases e249
              replace p249 := eq_true p249
              replace q249 := eq_true q249
              have p250 : 0 ≤ ((ji23) : Int) := of_decide_eq_true (by first | (with_reducible assumption) | assumption)
              have q250 : (ji23) < (x9_5.length : Int) := of_decide_eq_true (by first | (with_reducible assumption) | assumption)
              obtain ⟨ad250, e250, hx250_0, hx250_1, hx250_2⟩ := at_T30 (Kd.R_reads' HO_9.out).2.2 (ji23) p250 q250
              cases e250
              replace p250 := eq_true p250
              replace q250 := eq_true q250
              have p251 : 0 ≤ (x14_3 : Int) := of_decide_eq_true (by first | (with_reducible assumption) | assumption)
              have q251 : x14_3 < (t245.length : Int) := of_decide_eq_true (by first | (with_reducible assumption) | assumption)
              obtain ⟨ad251, e251, hx251_0, hx251_1, hx251_2⟩ := at_T30 (Kd.R_reads' HO_12.out).2.2 x14_3 p251 q251
              obtain rfl : ad249 = ad251 := (by injection e251)
              replace p251 := eq_true p251
              replace q251 := eq_true q251
              go_wp2
              repeat (go_quiet (fail); try go_wp2)
              go_roundg k3
              case measure => have := HJ5.out; have := HJ13.out; have := HK3.out; omega
              case rel => exact ⟨(ji23), (by first | rfl | (simp; done) | (simp only [← hji23] <;> (first | rfl | simp)) | (simp [*]; done)), H', ⟨by have := HJ5.out; have := HJ13.out; have := HK3.out; omega⟩, ⟨(rowN HO_9.out)⟩, ⟨(rowN HO_12.out)⟩, ⟨(belN HB.out)⟩⟩
            ·rw [if_neg c26] at H
             have c26b0 : (((rd_T30 t245 x14_3).f0) == ((rd_T30 x9_5 (ji23)).f0)) = false := beq_eq_false_iff_ne.mpr c26
             have c26b1 : (((rd_T30 t245 x14_3).f0) != ((rd_T30 x9_5 (ji23)).f0)) = true := bne_iff_ne.mpr c26
             obtain rfl := Option.some.inj H
             obtain ⟨Ao30, co30, eo30⟩ := Kd.R_slice HO_12.out
             subst eo30
             have p249 : 0 ≤ (x14_3 : Int) := of_decide_eq_true (by first | (with_reducible assumption) | assumption)
             have q249 : x14_3 < (t245.length : Int) := of_decide_eq_true (by first | (with_reducible assumption) | assumption)
             obtain ⟨ad249, e249, hx249_0, hx249_1, hx249_2⟩ := at_T30 (Kd.R_reads' HO_12.out).2.2 x14_3 p249 q249
             cases e249
             replace p249 := eq_true p249
             replace q249 := eq_true q249
             have p250 : 0 ≤ ((ji23) : Int) := of_decide_eq_true (by first | (with_reducible assumption) | assumption)
             have q250 : (ji23) < (x9_5.length : Int) := of_decide_eq_true (by first | (with_reducible assumption) | assumption)
             obtain ⟨ad250, e250, hx250_0, hx250_1, hx250_2⟩ := at_T30 (Kd.R_reads' HO_9.out).2.2 (ji23) p250 q250
             cases e250
             replace p250 := eq_true p250
             replace q250 := eq_true q250
             go_wp2
             repeat (go_quiet (fail); try go_wp2)
             go_ret
             exact ⟨by first | rfl | (simp [errW_none, errW_some] <;> rfl) | (simp only [← hji23]; first | rfl | (simp [errW_none, errW_some] <;> rfl)) | (simp [*, errW_none, errW_some] <;> rfl), (belN HB.out)⟩
           ·rw [if_neg c25] at H
            exact absurd H (by simp)
          ·rw [if_neg c24] at H
           exact absurd H (by simp)
         ·rw [if_neg c22] at H
          exact absurd H (by simp)
        ·rw [if_neg c21] at H
         have c21b0 : decide (x14_3 < (t245.length : Int)) = false := decide_eq_false c21
         clear c21
         replace H := Option.bind_eq_some_iff.mp H
         obtain ⟨t252, A310, H⟩ := H
         replace H : (if t252 = true then ((marigraphlaw24_known.f k3).bind fun t253 => (some t253)) else (some false)) = some r := H
         have A31 := Aside0.mk A310
         clear A310
         by_cases c32 : t252 = true
         ·subst c32
          have H1 : ((marigraphlaw24_known.f k3).bind fun t253 => (some t253)) = some r := by rw [if_pos rfl] at H; exact H
          clear H
          have H := H1
          clear H1
          replace H := Option.bind_eq_some_iff.mp H
          obtain ⟨t253, A330, H⟩ := H
          replace H : (some t253) = some r := H
          have A33 := Aside0.mk A330
          clear A330
          obtain rfl := Option.some.inj H
          obtain ⟨Ao34, co34, eo34⟩ := Kd.R_slice HO_12.out
          subst eo34
          go_wp2_with (first | (go_at_call 25; (with_reducible refine (marigraphref1_Right.calls k3 0 1 true _ A31.out).mono ?_); rintro e w35 ⟨rfl, hb⟩; have n0_ := Aside0.mk (Kd.R_below (rowN HO_9.out) hb); have n1_ := Aside0.mk (Kd.R_below (rowN HO_12.out) hb); have n2_ := Aside0.mk (below_step (belN HB.out) hb); clear HO_9; clear HO_12; clear HB; have HO_9 := n0_; have HO_12 := n1_; have HB := n2_; clear n0_ n1_ n2_; (try clear hb); (try clear hb2); (try clear hk); (try clear hi)) | (go_at_call 23; (with_reducible refine (marigraphlaw24_known.calls k3  t253 _ A33.out).mono ?_); rintro e w36 ⟨rfl, hb⟩; have n0_ := Aside0.mk (Kd.R_below (rowN HO_9.out) hb); have n1_ := Aside0.mk (Kd.R_below (rowN HO_12.out) hb); have n2_ := Aside0.mk (below_step (belN HB.out) hb); clear HO_9; clear HO_12; clear HB; have HO_9 := n0_; have HO_12 := n1_; have HB := n2_; clear n0_ n1_ n2_; (try clear hb); (try clear hb2); (try clear hk); (try clear hi)))
          repeat (go_quiet (first | (go_at_call 25; (with_reducible refine (marigraphref1_Right.calls k3 0 1 true _ A31.out).mono ?_); rintro e w35 ⟨rfl, hb⟩; have n0_ := Aside0.mk (Kd.R_below (rowN HO_9.out) hb); have n1_ := Aside0.mk (Kd.R_below (rowN HO_12.out) hb); have n2_ := Aside0.mk (below_step (belN HB.out) hb); clear HO_9; clear HO_12; clear HB; have HO_9 := n0_; have HO_12 := n1_; have HB := n2_; clear n0_ n1_ n2_; (try clear hb); (try clear hb2); (try clear hk); (try clear hi)) | (go_at_call 23; (with_reducible refine (marigraphlaw24_known.calls k3  t253 _ A33.out).mono ?_); rintro e w36 ⟨rfl, hb⟩; have n0_ := Aside0.mk (Kd.R_below (rowN HO_9.out) hb); have n1_ := Aside0.mk (Kd.R_below (rowN HO_12.out) hb); have n2_ := Aside0.mk (below_step (belN HB.out) hb); clear HO_9; clear HO_12; clear HB; have HO_9 := n0_; have HO_12 := n1_; have HB := n2_; clear n0_ n1_ n2_; (try clear hb); (try clear hb2); (try clear hk); (try clear hi))); try go_wp2_with (first | (go_at_call 25; (with_reducible refine (marigraphref1_Right.calls k3 0 1 true _ A31.out).mono ?_); rintro e w35 ⟨rfl, hb⟩; have n0_ := Aside0.mk (Kd.R_below (rowN HO_9.out) hb); have n1_ := Aside0.mk (Kd.R_below (rowN HO_12.out) hb); have n2_ := Aside0.mk (below_step (belN HB.out) hb); clear HO_9; clear HO_12; clear HB; have HO_9 := n0_; have HO_12 := n1_; have HB := n2_; clear n0_ n1_ n2_; (try clear hb); (try clear hb2); (try clear hk); (try clear hi)) | (go_at_call 23; (with_reducible refine (marigraphlaw24_known.calls k3  t253 _ A33.out).mono ?_); rintro e w36 ⟨rfl, hb⟩; have n0_ := Aside0.mk (Kd.R_below (rowN HO_9.out) hb); have n1_ := Aside0.mk (Kd.R_below (rowN HO_12.out) hb); have n2_ := Aside0.mk (below_step (belN HB.out) hb); clear HO_9; clear HO_12; clear HB; have HO_9 := n0_; have HO_12 := n1_; have HB := n2_; clear n0_ n1_ n2_; (try clear hb); (try clear hb2); (try clear hk); (try clear hi))))
          go_ret
          exact ⟨by first | rfl | (simp [errW_none, errW_some] <;> rfl) | (simp [*, errW_none, errW_some] <;> rfl), (belN HB.out)⟩
         ·replace c32 := Bool.eq_false_iff.mpr c32
          subst c32
          have H1 : (some false) = some r := by rw [if_neg (show ¬ (false = true) by decide)] at H; exact H
          clear H
          have H := H1
          clear H1
          obtain rfl := Option.some.inj H
          obtain ⟨Ao37, co37, eo37⟩ := Kd.R_slice HO_12.out
          subst eo37
          go_wp2_with (first | (go_at_call 25; (with_reducible refine (marigraphref1_Right.calls k3 0 1 false _ A31.out).mono ?_); rintro e w38 ⟨rfl, hb⟩; have n0_ := Aside0.mk (Kd.R_below (rowN HO_9.out) hb); have n1_ := Aside0.mk (Kd.R_below (rowN HO_12.out) hb); have n2_ := Aside0.mk (below_step (belN HB.out) hb); clear HO_9; clear HO_12; clear HB; have HO_9 := n0_; have HO_12 := n1_; have HB := n2_; clear n0_ n1_ n2_; (try clear hb); (try clear hb2); (try clear hk); (try clear hi)))
          repeat (go_quiet (first | (go_at_call 25; (with_reducible refine (marigraphref1_Right.calls k3 0 1 false _ A31.out).mono ?_); rintro e w38 ⟨rfl, hb⟩; have n0_ := Aside0.mk (Kd.R_below (rowN HO_9.out) hb); have n1_ := Aside0.mk (Kd.R_below (rowN HO_12.out) hb); have n2_ := Aside0.mk (below_step (belN HB.out) hb); clear HO_9; clear HO_12; clear HB; have HO_9 := n0_; have HO_12 := n1_; have HB := n2_; clear n0_ n1_ n2_; (try clear hb); (try clear hb2); (try clear hk); (try clear hi))); try go_wp2_with (first | (go_at_call 25; (with_reducible refine (marigraphref1_Right.calls k3 0 1 false _ A31.out).mono ?_); rintro e w38 ⟨rfl, hb⟩; have n0_ := Aside0.mk (Kd.R_below (rowN HO_9.out) hb); have n1_ := Aside0.mk (Kd.R_below (rowN HO_12.out) hb); have n2_ := Aside0.mk (below_step (belN HB.out) hb); clear HO_9; clear HO_12; clear HB; have HO_9 := n0_; have HO_12 := n1_; have HB := n2_; clear n0_ n1_ n2_; (try clear hb); (try clear hb2); (try clear hk); (try clear hi))))
          go_ret
          exact ⟨by first | rfl | (simp [errW_none, errW_some] <;> rfl) | (simp [*, errW_none, errW_some] <;> rfl), (belN HB.out)⟩

/-- THE ONE PURE STATEMENT of marigraphlaw24_RateSums: yours. -/
def marigraphlaw24_RateSums.Pure : Prop := ∀ (l0 : List Int) (a1 : Int) (a2 : Int), l0.length ≤ maxLen → l0.length * 8 ≤ 140737488351232 → (∀ x ∈ l0, (Lit.int .i64 x).wf = true) → (Lit.int .i64 a1).wf = true → (Lit.int .i64 a2).wf = true → ∃ k, marigraphlaw24_RateSums.f k l0 a1 a2 = some true
theorem marigraphlaw24_RateSums.walk (P : marigraphlaw24_RateSums.Pure) (a0 : Option Addr) (len0 cap0 : Nat) (z0 : List Int) (a1 : Int) (a2 : Int) (w : World) (w0 : (a0 = none ∧ len0 = 0 ∧ cap0 = 0 ∧ z0 = []) ∨ ∃ x, a0 = some x ∧ len0 ≤ cap0 ∧ cap0 ≤ maxLen ∧ z0.length = cap0 ∧ (∀ i, i < z0.length → w.cell? (x.add i) = some (.int .i64 (z0.getD i 0))) ∧ ∀ n ∈ z0, (Lit.int .i64 n).wf = true) (y0 : len0 * 8 ≤ 140737488351232) (w1 : (Lit.int .i64 a1).wf = true) (w2 : (Lit.int .i64 a2).wf = true) :
  Calls Try.prog 8 #[.slice a0 len0 cap0, .int .i64 a1, .int .i64 a2] w fun e w' => e = .returned (.bool true) ∧ Below w.heap.size w w' := by
 obtain ⟨l0, rfl, hr0, hm0, hw0, hc0⟩ := ReadsInt.ofRowC w0
 obtain ⟨k, h⟩ := P l0 a1 a2 hm0 y0 hw0 w1 w2
 refine (marigraphlaw24_RateSums.calls k _ _ l0 a1 a2 true w (Kd.C_of_reads (d := (0 : Int)) (h1 := fun _ => rfl) hr0) hc0 h).mono ?_
 rintro e w' ⟨rfl, hd⟩
 exact ⟨rfl, hd⟩

end Go.Proofs.Ytdnialldicdnoaa.PRateSums

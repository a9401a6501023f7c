/- The walk of the Go functions that a law reaches, told as plain functions; a program of this session has written it. No condition beyond the statement's own. -/
import Derived.Test.YtdnialldicdnoaaPLerpLinesx0
import Derived.Test.YtdnialldicdnoaaPLerpLinesx1
import Derived.Test.YtdnialldicdnoaaPLerpLinesx2
import Derived.Test.YtdnialldicdnoaaPLerpLinesx4
import Derived.Test.YtdnialldicdnoaaPLerpLinesx5
namespace Go.Proofs.Ytdnialldicdnoaa.PLerpLines
open Go.RowKit Go.Proofs.YtdnialldicdnoaaW.PrintWords Go.Proofs.YtdnialldicdnoaaW.PrintLast Go.Proofs.YtdnialldicdnoaaW.PrintMore
attribute [local go_sem] max2_int min2_int max_two min_two max_three min_three max_four min_four   -- for this text's walks alone
set_option linter.unusedVariables false
set_option linter.unusedSimpArgs false

attribute [local go_sem high] eqA28
/-! ### lerp_place: function 43 -/
def lerp_place.l0 : Nat → List (S30) → Int → Int → Int → Option (Int)
  | 0, _, _, _, _ => none
  | k + 1, x0, x1, x5, x6 => if x5 < x6 then (if 0 ≤ (wrap64 (Int.tdiv (wrap64 (x5 + x6)) 2)) then (if (wrap64 (Int.tdiv (wrap64 (x5 + x6)) 2)) < (x0.length : Int) then (if ((rd_T30 x0 (wrap64 (Int.tdiv (wrap64 (x5 + x6)) 2))).f0) < x1 then (lerp_place.l0 k x0 x1 (wrap64 ((wrap64 (Int.tdiv (wrap64 (x5 + x6)) 2)) + 1)) x6) else (lerp_place.l0 k x0 x1 x5 (wrap64 (Int.tdiv (wrap64 (x5 + x6)) 2)))) else (none)) else (none)) else (some x5)
def lerp_place.f (k : Nat) (l0 : List (S30)) (a1 : Int) : Option (Int) := lerp_place.l0 k l0 a1 0 (l0.length : Int)
theorem lerp_place.mono_l : ∀ k, (∀ y0 y1 y2 y3, LeO (lerp_place.l0 k y0 y1 y2 y3) (lerp_place.l0 (k + 1) y0 y1 y2 y3))
  | 0 => fun _ _ _ _ r h => by simp [lerp_place.l0] at h
  | k + 1 => by
    have ih0 := lerp_place.mono_l k
    · intro y0 y1 y2 y3
      unfold lerp_place.l0
      repeat' first
      | (with_reducible exact ih0 _ _ _ _)
      | (with_reducible exact LeO.refl _)
      | (with_reducible exact LeO.none _)
      | (with_reducible refine LeO.ite ?_ ?_)
      | (with_reducible refine LeO.bind ?_ (fun _ => ?_))
      | exact ih0 _ _ _ _
      | exact LeO.none _
      | refine LeO.ite ?_ ?_
      | refine LeO.bind ?_ (fun _ => ?_)
theorem lerp_place.mono : ∀ a0 a1 k, LeO (lerp_place.f k a0 a1) (lerp_place.f (k + 1) a0 a1) := by
  intro a0 a1 k
  have ih0 := lerp_place.mono_l k
  unfold lerp_place.f
  repeat' first
      | (with_reducible exact ih0 _ _ _ _)
      | (with_reducible exact LeO.refl _)
      | (with_reducible exact LeO.none _)
      | (with_reducible refine LeO.ite ?_ ?_)
      | (with_reducible refine LeO.bind ?_ (fun _ => ?_))
      | exact ih0 _ _ _ _
      | exact LeO.none _
      | refine LeO.ite ?_ ?_
      | refine LeO.bind ?_ (fun _ => ?_)
set_option maxHeartbeats 8000000 in
set_option maxRecDepth 100000 in
theorem lerp_place.calls (k : Nat) (A0 : Option Addr) (c0 : Nat) (l0 : List (S30)) (a1 : Int) (r : Int) (w : World) (hr0 : Kd.C k30 w A0 l0.length l0) (hc0 : l0.length ≤ c0) (h : lerp_place.f k l0 a1 = some r) :
    Calls Try.prog 43 #[.slice A0 l0.length c0, .int .i64 a1] w fun e w' => e = .returned (.int .i64 r) ∧ Drawn0 w w' := by
  have HR0 := Aside0.mk hr0
  have HC0 := Aside0.mk hc0
  clear hr0 hc0
  have H : (lerp_place.l0 k l0 a1 0 (l0.length : Int)) = some r := h
  clear h
  have H' := Aside0.mk H
  clear H
  go_enter Try.func43, Try.ntmps43
  go_wp2
  go_loopg [5, 6] k (fun kq v5 v6 w' => ∃ (x5_1 : Int) (x6_1 : Int), v5 = .int .i64 x5_1 ∧ v6 = .int .i64 x6_1 ∧ Aside0 (lerp_place.l0 kq l0 a1 x5_1 x6_1 = some r) ∧ Aside0 (kq ≤ k) ∧ Drawn0 w w')
  case atStart => exact ⟨(0), ((l0.length : Int)), (by first | rfl | (simp; done) | (simp [*]; done)), (by first | rfl | (simp; done) | (simp [*]; done)), H', ⟨Nat.le_refl _⟩, by repeat (first | exact Drawn0.refl _ | apply Drawn0.step)⟩
  case round =>
    clear H'
    try clear p2
    obtain ⟨x5_1, x6_1, rfl, rfl, HA, HK1, ⟨m1, rfl⟩⟩ := hrel
    cases gk with
    | zero => exact absurd HA.out (by simp [lerp_place.l0])
    | succ k1 =>
      have H := HA.out
      clear HA
      simp only [lerp_place.l0] at H
      by_cases c3 : x5_1 < x6_1
      · rw [if_pos c3] at H
        have c3b0 : decide (x5_1 < x6_1) = true := decide_eq_true c3
        clear c3
        obtain ⟨ji4, hji4⟩ : ∃ j_ : Int, (wrap64 (Int.tdiv (wrap64 (x5_1 + x6_1)) 2)) = j_ := ⟨_, rfl⟩
        replace H : (if 0 ≤ (ji4) then (if (ji4) < (l0.length : Int) then (if ((rd_T30 l0 (ji4)).f0) < a1 then (lerp_place.l0 k1 l0 a1 (wrap64 ((ji4) + 1)) x6_1) else (lerp_place.l0 k1 l0 a1 x5_1 ji4)) else (none)) else (none)) = some r := by first | (rw [hji4] at H; exact H) | (simp only [hji4] at H ⊢; exact H)
        have hji4w : (IntKind.i64.wrap (Int.tdiv (wrap64 (x5_1 + x6_1)) 2)) = ji4 := (i64_w _).trans hji4
        by_cases c5 : 0 ≤ (ji4)
        · rw [if_pos c5] at H
          have c5b0 : decide (0 ≤ (ji4)) = true := decide_eq_true c5
          clear c5
          by_cases c6 : (ji4) < (l0.length : Int)
          · rw [if_pos c6] at H
            have c6b0 : decide ((ji4) < (l0.length : Int)) = true := decide_eq_true c6
            clear c6
            by_cases c7 : ((rd_T30 l0 (ji4)).f0) < a1
            · rw [if_pos c7] at H
              have c7b0 : decide (((rd_T30 l0 (ji4)).f0) < a1) = true := decide_eq_true c7
              clear c7
              have H' := Aside0.mk H
              clear H
              have p191 : 0 ≤ ((ji4) : Int) := of_decide_eq_true (by first | (with_reducible assumption) | assumption)
              have q191 : (ji4) < (l0.length : Int) := of_decide_eq_true (by first | (with_reducible assumption) | assumption)
              obtain ⟨ad191, e191, hx191_0, hx191_1, hx191_2⟩ := at_T30 HR0.out (ji4) p191 q191
              cases e191
              replace p191 := eq_true p191
              replace q191 := eq_true q191
              go_wp2
              go_roundg k1
              case measure => have := HK1.out; omega
              case rel => exact ⟨(wrap64 ((ji4) + 1)), (x6_1), (by first | rfl | (simp; done) | (simp only [← hji4] <;> (first | rfl | simp)) | (simp [*]; done)), (by first | rfl | (simp; done) | (simp [*]; done)), H', ⟨by have := HK1.out; omega⟩, by repeat (first | exact Drawn0.refl _ | apply Drawn0.step)⟩
            · rw [if_neg c7] at H
              have c7b0 : decide (((rd_T30 l0 (ji4)).f0) < a1) = false := decide_eq_false c7
              clear c7
              have H' := Aside0.mk H
              clear H
              have p191 : 0 ≤ ((ji4) : Int) := of_decide_eq_true (by first | (with_reducible assumption) | assumption)
              have q191 : (ji4) < (l0.length : Int) := of_decide_eq_true (by first | (with_reducible assumption) | assumption)
              obtain ⟨ad191, e191, hx191_0, hx191_1, hx191_2⟩ := at_T30 HR0.out (ji4) p191 q191
              cases e191
              replace p191 := eq_true p191
              replace q191 := eq_true q191
              go_wp2
              go_roundg k1
              case measure => have := HK1.out; omega
              case rel => exact ⟨(x5_1), (ji4), (by first | rfl | (simp; done) | (simp [*]; done)), (by first | rfl | (simp; done) | (simp only [← hji4] <;> (first | rfl | simp)) | (simp [*]; done)), H', ⟨by have := HK1.out; omega⟩, by repeat (first | exact Drawn0.refl _ | apply Drawn0.step)⟩
          · rw [if_neg c6] at H
            exact absurd H (by simp)
        · rw [if_neg c5] at H
          exact absurd H (by simp)
      · rw [if_neg c3] at H
        have c3b0 : decide (x5_1 < x6_1) = false := decide_eq_false c3
        clear c3
        obtain rfl := Option.some.inj H
        go_wp2
        go_ret
        exact ⟨by first | rfl | (simp; done) | (simp [*]; done), by repeat (first | exact Drawn0.refl _ | apply Drawn0.step)⟩

/-! ### lerp_At: function 20 -/
def lerp_At.j0 : Nat → List (S30) → Int → Int → Bool → Option (Int × Int × Bool × Int)
 | 0, _, _, _, _ => none
 | k + 1, x0, x1, x7, x17 => if x17 = true then (if 0 ≤ x7 then (if x7 < (x0.length : Int) then (some ((rd_T30 x0 x7).f1.f0, (rd_T30 x0 x7).f1.f1, true, 0)) else (none)) else (none)) else (if x7 = 0 then (some (0, 0, false, 0)) else (if x7 = (x0.length : Int) then (some (0, 0, false, 0)) else (if 0 ≤ (wrap64 (x7 - 1)) then (if (wrap64 (x7 - 1)) < (x0.length : Int) then (if 0 ≤ x7 then (if x7 < (x0.length : Int) then ((lerp_Between.f k ((rd_T30 x0 (wrap64 (x7 - 1))).f0) ((rd_T30 x0 (wrap64 (x7 - 1))).f1.f0) ((rd_T30 x0 (wrap64 (x7 - 1))).f1.f1) ((rd_T30 x0 x7).f0) ((rd_T30 x0 x7).f1.f0) ((rd_T30 x0 x7).f1.f1) x1).bind fun bt199 => (some (bt199.1, bt199.2.1, (bt199.2.2 == 0), bt199.2.2))) else (none)) else (none)) else (none)) else (none))))
def lerp_At.f (k : Nat) (l0 : List (S30)) (a1 : Int) : Option (Int × Int × Bool × Int) := (down_Right.f k l0).bind fun t193 => (if t193 = true then ((lerp_place.f k l0 a1).bind fun t194 => (if t194 < (l0.length : Int) then (if 0 ≤ t194 then (lerp_At.j0 k l0 a1 t194 (((rd_T30 l0 t194).f0) == a1)) else (none)) else (lerp_At.j0 k l0 a1 t194 false))) else (some (0, 0, false, 1)))
theorem lerp_At.mono_l : ∀ k, (∀ y0 y1 y2 y3, LeO (lerp_At.j0 k y0 y1 y2 y3) (lerp_At.j0 (k + 1) y0 y1 y2 y3))
 | 0 => fun _ _ _ _ r h => by simp [lerp_At.j0] at h
 | k + 1 => by
  have ih0 := lerp_At.mono_l k
  ·intro y0 y1 y2 y3
   unfold lerp_At.j0
   repeat' first
   | (with_reducible exact ih0 _ _ _ _)
   | (with_reducible exact down_Right.mono _ _)
   | (with_reducible exact lerp_Between.mono _ _ _ _ _ _ _ _)
   | (with_reducible exact lerp_place.mono _ _ _)
   | (with_reducible exact LeO.refl _)
   | (with_reducible exact LeO.none _)
   | (with_reducible refine LeO.ite ?_ ?_)
   | (with_reducible refine LeO.bind ?_ (fun _ => ?_))
   | exact ih0 _ _ _ _
   | exact down_Right.mono _ _
   | exact lerp_Between.mono _ _ _ _ _ _ _ _
   | exact lerp_place.mono _ _ _
   | exact LeO.none _
   | refine LeO.ite ?_ ?_
   | refine LeO.bind ?_ (fun _ => ?_)
theorem lerp_At.mono : ∀ a0 a1 k, LeO (lerp_At.f k a0 a1) (lerp_At.f (k + 1) a0 a1) := by
 intro a0 a1 k
 have ih0 := lerp_At.mono_l k
 unfold lerp_At.f
 repeat' first
   | (with_reducible exact ih0 _ _ _ _)
   | (with_reducible exact down_Right.mono _ _)
   | (with_reducible exact lerp_Between.mono _ _ _ _ _ _ _ _)
   | (with_reducible exact lerp_place.mono _ _ _)
   | (with_reducible exact LeO.refl _)
   | (with_reducible exact LeO.none _)
   | (with_reducible refine LeO.ite ?_ ?_)
   | (with_reducible refine LeO.bind ?_ (fun _ => ?_))
   | exact ih0 _ _ _ _
   | exact down_Right.mono _ _
   | exact lerp_Between.mono _ _ _ _ _ _ _ _
   | exact lerp_place.mono _ _ _
   | exact LeO.none _
   | refine LeO.ite ?_ ?_
   | refine LeO.bind ?_ (fun _ => ?_)
def lerp_At.T8 : Bool × List (List Nat × List Nat) := (true, [([], []), ([], []), ([1], [1]), ([0, 2], [0, 2]), ([3], [3]), ([], []), ([], []), ([5, 6], [5, 6]), ([7], [7]), ([], []), ([4, 8, 9], [4, 8, 9]), ([10], [10]), ([11], [11]), ([11], [11]), ([], []), ([14, 12, 10, 0, 1, 2, 3, 4, 5, 6, 7, 8, 9, 10, 11, 12, 14], [12, 14]), ([13, 15, 0, 1, 2, 3, 4, 5, 6, 7, 8, 9, 10, 11, 12, 13, 14, 15], [13])])
def lerp_At.B8 : List Nat := [0, 0, 2, 7, 15, 0, 0, 96, 224, 0, 1023, 2047, 4095, 4095, 0, 24575, 65535]
theorem lerp_At.tab8 : rtab .any (opsOf Try.f20 8) = lerp_At.T8 := by kernel_rfl
theorem lerp_At.bits8 : waitsOk lerp_At.T8.2 lerp_At.B8 = true := by kernel_rfl
set_option maxHeartbeats 8000000 in
set_option maxRecDepth 100000 in
theorem lerp_At.calls (k : Nat) (A0 : Option Addr) (c0 : Nat) (l0 : List (S30)) (a1 : Int) (r1 : Int) (r2 : Int) (r3 : Bool) (r4 : Int) (w : World) (hr0 : Kd.C k30 w A0 l0.length l0) (hc0 : l0.length ≤ c0) (h : lerp_At.f k l0 a1 = some (r1, r2, r3, r4)) :
  Calls Try.prog 20 #[.slice A0 l0.length c0, .int .i64 a1] w fun e w' => e = .returned (.tuple #[.agg #[.int .i64 r1, .int .i64 r2], .bool r3, .int .i64 r4]) ∧ Below w.heap.size w w' := by
 have hu28 := Try.underlying28
 have hu30 := Try.underlying30
 have HR0 := Aside0.mk hr0
 have HC0 := Aside0.mk hc0
 clear hr0 hc0
 have HB := Aside0.mk (Below.refl w.heap.size w)
 have H : ((down_Right.f k l0).bind fun t193 => (if t193 = true then ((lerp_place.f k l0 a1).bind fun t194 => (if t194 < (l0.length : Int) then (if 0 ≤ t194 then (lerp_At.j0 k l0 a1 t194 (((rd_T30 l0 t194).f0) == a1)) else (none)) else (lerp_At.j0 k l0 a1 t194 false))) else (some (0, 0, false, 1)))) = some (r1, r2, r3, r4) := h
 clear h
 replace H := Option.bind_eq_some_iff.mp H
 obtain ⟨t193, A30, H⟩ := H
 replace H : (if t193 = true then ((lerp_place.f k l0 a1).bind fun t194 => (if t194 < (l0.length : Int) then (if 0 ≤ t194 then (lerp_At.j0 k l0 a1 t194 (((rd_T30 l0 t194).f0) == a1)) else (none)) else (lerp_At.j0 k l0 a1 t194 false))) else (some (0, 0, false, 1))) = some (r1, r2, r3, r4) := H
 have A3 := Aside0.mk A30
 clear A30
 by_cases c4 : t193 = true
 ·subst c4
  have H1 : ((lerp_place.f k l0 a1).bind fun t194 => (if t194 < (l0.length : Int) then (if 0 ≤ t194 then (lerp_At.j0 k l0 a1 t194 (((rd_T30 l0 t194).f0) == a1)) else (none)) else (lerp_At.j0 k l0 a1 t194 false))) = some (r1, r2, r3, r4) := by rw [if_pos rfl] at H; exact H
  clear H
  have H := H1
  clear H1
  replace H := Option.bind_eq_some_iff.mp H
  obtain ⟨t194, A50, H⟩ := H
  replace H : (if t194 < (l0.length : Int) then (if 0 ≤ t194 then (lerp_At.j0 k l0 a1 t194 (((rd_T30 l0 t194).f0) == a1)) else (none)) else (lerp_At.j0 k l0 a1 t194 false)) = some (r1, r2, r3, r4) := H
  have A5 := Aside0.mk A50
  clear A50
  have HC6 := Aside0.mk H
  clear H
  go_enter Try.func20, Try.ntmps20
  go_upto_region 4 with (first | ((with_reducible refine gate_dst (N := 4) rfl ?_); (try (refine gate_guard (by rfl) ?_; dsimp only)); refine box_event ?hg (N := 4) ?hd (cs := #[.int .i64 0, .int .i64 0]) (t := 28) ?hr ?_; (case hd => rfl); (case hg => rfl); (case hr => first | (go_simp; done) | (go_simp; rfl)); intro gb192 hg w7 hbox hb; have n0_ := Aside0.mk (below_step (belN HB.out) hb); have n1_ := Aside0.mk (hbox); have n2_ := Aside0.mk (szB hg HB.out); have n3_ := Aside0.mk (szB hg HB.out); clear HB; have HB := n0_; have BK192 := n1_; have GW192 := n2_; have GE192 := n3_; clear n0_ n1_ n2_ n3_; clear hb hbox hg) | ((with_reducible refine gate_callee (f := 42) rfl ?_); refine goesL_ (some 11) rfl rfl Try.func42 (by kernel_rfl) rfl #[.slice A0 l0.length c0] rfl argN ?_; (with_reducible refine (down_Right.calls k _ _ l0 true _ ?side1 ?side2 A3.out).mono ?_); (case side1 => repeat (first | exact (Kd.C_below HR0.out HB.out) | (with_reducible refine Kd.C_alloc ?_ _) | (with_reducible refine Kd.C_drewN ?_ _) | (with_reducible refine Kd.C_drew ?_))); (case side2 => exact HC0.out); rintro e w8 ⟨rfl, hb⟩; refine ⟨_, rfl, ?_⟩; have n0_ := Aside0.mk (bkB BK192.out hb); have n1_ := Aside0.mk (below_step (belS HB.out) hb); clear BK192; clear HB; have BK192 := n0_; have HB := n1_; clear n0_ n1_; (try clear hb); (try clear hb2); (try clear hk); (try clear hi)) | ((with_reducible refine gate_callee (f := 43) rfl ?_); refine goesL_ (some 16) rfl rfl Try.func43 (by kernel_rfl) rfl #[.slice A0 l0.length c0, .int .i64 a1] rfl argN ?_; (with_reducible refine (lerp_place.calls k _ _ l0 a1 t194 _ ?side1 ?side2 A5.out).mono ?_); (case side1 => repeat (first | exact (Kd.C_below HR0.out HB.out) | (with_reducible refine Kd.C_alloc ?_ _) | (with_reducible refine Kd.C_drewN ?_ _) | (with_reducible refine Kd.C_drew ?_))); (case side2 => exact HC0.out); rintro e w' ⟨rfl, ⟨nd, rfl⟩⟩; refine ⟨_, rfl, ?_⟩))
  (try simp only [Act.put, List.setIfInBounds_toArray, List.set_cons_zero, List.set_cons_succ])
  go_cut [17] (fun v17 wc => ∃ (kq : Nat) (x17_5 : Bool), v17 = .bool x17_5 ∧ Aside0 (lerp_At.j0 kq l0 a1 t194 x17_5 = some (r1, r2, r3, r4)) ∧ Aside0 (kq ≤ k) ∧ Aside0 (wc.heap[gb192]? = some (.cells #[.int .i64 0, .int .i64 0] 28 (0, 0))) ∧ Aside0 (Below w.heap.size w wc))
  case first =>
   have H := HC6.out
   clear HC6
   by_cases c9 : t194 < (l0.length : Int)
   ·rw [if_pos c9] at H
    have c9b0 : decide (t194 < (l0.length : Int)) = true := decide_eq_true c9
    clear c9
    (first | rw [c9b0] | (simp only [i64_w, i32_w]; rw [c9b0]) | skip)
    by_cases c10 : 0 ≤ t194
    ·rw [if_pos c10] at H
     have c10b0 : decide (0 ≤ t194) = true := decide_eq_true c10
     clear c10
     have H' := Aside0.mk H
     clear H
     have p195 : 0 ≤ (t194 : Int) := of_decide_eq_true (by first | (with_reducible assumption) | assumption)
     have q195 : t194 < (l0.length : Int) := of_decide_eq_true (by first | (with_reducible assumption) | assumption)
     obtain ⟨ad195, e195, hx195_0, hx195_1, hx195_2⟩ := at_T30 HR0.out t194 p195 q195
     cases e195
     replace hx195_0 := cellB HB.out hx195_0
     replace hx195_1 := cellB HB.out hx195_1
     replace hx195_2 := cellB HB.out hx195_2
     replace p195 := eq_true p195
     replace q195 := eq_true q195
     go_wp2
     go_meet
     case rel => exact ⟨_, ((((rd_T30 l0 t194).f0) == a1)), (by first | rfl | (simp; done) | (simp [*]; done)), H', ⟨by first | omega | exact Nat.le_refl _⟩, ⟨blkN BK192.out⟩, ⟨(belS HB.out)⟩⟩
    ·rw [if_neg c10] at H
     exact absurd H (by simp)
   ·rw [if_neg c9] at H
    have c9b0 : decide (t194 < (l0.length : Int)) = false := decide_eq_false c9
    clear c9
    (first | rw [c9b0] | (simp only [i64_w, i32_w]; rw [c9b0]) | skip)
    have H' := Aside0.mk H
    clear H
    go_wp2
    go_meet
    case rel => exact ⟨_, (false), (by first | rfl | (simp; done) | (simp [*]; done)), H', ⟨by first | omega | exact Nat.le_refl _⟩, ⟨blkN BK192.out⟩, ⟨(belS HB.out)⟩⟩
  case rest =>
   clear HC6
   try clear c1
   try clear p1
   try clear q1
   try clear hx1
   try clear c2
   try clear p2
   try clear c4
   try clear c9
   try clear c9b0
   try clear c10
   try clear c10b0
   try clear hx195_0
   try clear hx195_1
   try clear hx195_2
   try clear p195
   try clear q195
   obtain ⟨kq, x17_5, rfl, HA, HJ5, BK192, HB⟩ := hcut
   cases kq with
   | zero => exact absurd HA.out (by simp [lerp_At.j0])
   | succ kj5 =>
    have H := HA.out
    clear HA
    simp only [lerp_At.j0] at H
    by_cases c11 : x17_5 = true
    ·subst c11
     have H1 : (if 0 ≤ t194 then (if t194 < (l0.length : Int) then (some ((rd_T30 l0 t194).f1.f0, (rd_T30 l0 t194).f1.f1, true, 0)) else (none)) else (none)) = some (r1, r2, r3, r4) := by rw [if_pos rfl] at H; exact H
     clear H
     have H := H1
     clear H1
     by_cases c12 : 0 ≤ t194
     ·rw [if_pos c12] at H
      have c12b0 : decide (0 ≤ t194) = true := decide_eq_true c12
      clear c12
      by_cases c13 : t194 < (l0.length : Int)
      ·rw [if_pos c13] at H
       have c13b0 : decide (t194 < (l0.length : Int)) = true := decide_eq_true c13
       clear c13
       simp only [Option.some.injEq, Prod.mk.injEq] at H
       obtain ⟨rfl, rfl, rfl, rfl⟩ := H
       have p196 : 0 ≤ (t194 : Int) := of_decide_eq_true (by first | (with_reducible assumption) | assumption)
       have q196 : t194 < (l0.length : Int) := of_decide_eq_true (by first | (with_reducible assumption) | assumption)
       obtain ⟨ad196, e196, hx196_0, hx196_1, hx196_2⟩ := at_T30 HR0.out t194 p196 q196
       cases e196
       replace hx196_0 := cellB HB.out hx196_0
       replace hx196_1 := cellB HB.out hx196_1
       replace hx196_2 := cellB HB.out hx196_2
       replace p196 := eq_true p196
       replace q196 := eq_true q196
       have hcz14_0 : wc.cell? ⟨gb192, 0, none⟩ = some (.int .i64 0) := (blk_cell BK192.out 0).trans rfl
       have hcz14_1 : wc.cell? ⟨gb192, 1, none⟩ = some (.int .i64 0) := (blk_cell BK192.out 1).trans rfl
       have hfz14_0 := blk_frozen BK192.out 0
       have hfz14_1 := blk_frozen BK192.out 1
       go_wp2
       refine bodyPost_ret (results_ctt rfl _ _ gb192 28 #[.int .i64 ((rd_T30 l0 t194).f1.f0), .int .i64 ((rd_T30 l0 t194).f1.f1)] (0, 0) _ rfl (by (with_reducible repeat (first | refine blk_drewN ?_ _ | refine blk_drew ?_ | refine blk_alloc ?_ _)); refine blk_put (cs := #[.int .i64 ((rd_T30 l0 t194).f1.f0), .int .i64 0]) ?_ 1 _ rfl; (with_reducible repeat (first | refine blk_drewN ?_ _ | refine blk_drew ?_ | refine blk_alloc ?_ _)); refine blk_put (cs := #[.int .i64 0, .int .i64 0]) ?_ 0 _ rfl; (with_reducible repeat (first | refine blk_drewN ?_ _ | refine blk_drew ?_ | refine blk_alloc ?_ _)); exact BK192.out) Try.underlying28 rfl (by kernel_rfl)) rfl ?_
       exact ⟨by first | rfl | (simp [errW_none, errW_some] <;> rfl) | (simp [*, errW_none, errW_some] <;> rfl), (belS HB.out)⟩
      ·rw [if_neg c13] at H
       exact absurd H (by simp)
     ·rw [if_neg c12] at H
      exact absurd H (by simp)
    ·replace c11 := Bool.eq_false_iff.mpr c11
     subst c11
     have H1 : (if t194 = 0 then (some (0, 0, false, 0)) else (if t194 = (l0.length : Int) then (some (0, 0, false, 0)) else (if 0 ≤ (wrap64 (t194 - 1)) then (if (wrap64 (t194 - 1)) < (l0.length : Int) then (if 0 ≤ t194 then (if t194 < (l0.length : Int) then ((lerp_Between.f kj5 ((rd_T30 l0 (wrap64 (t194 - 1))).f0) ((rd_T30 l0 (wrap64 (t194 - 1))).f1.f0) ((rd_T30 l0 (wrap64 (t194 - 1))).f1.f1) ((rd_T30 l0 t194).f0) ((rd_T30 l0 t194).f1.f0) ((rd_T30 l0 t194).f1.f1) a1).bind fun bt199 => (some (bt199.1, bt199.2.1, (bt199.2.2 == 0), bt199.2.2))) else (none)) else (none)) else (none)) else (none)))) = some (r1, r2, r3, r4) := by rw [if_neg (show ¬ (false = true) by decide)] at H; exact H
     clear H
     have H := H1
     clear H1
     by_cases c15 : t194 = 0
     ·rw [if_pos c15] at H
      have c15b0 : (t194 == 0) = true := beq_iff_eq.mpr c15
      have c15b1 : (t194 != 0) = false := bne_eq_false_iff_eq.mpr c15
      clear c15
      simp only [Option.some.injEq, Prod.mk.injEq] at H
      obtain ⟨rfl, rfl, rfl, rfl⟩ := H
      have hcz16_0 : wc.cell? ⟨gb192, 0, none⟩ = some (.int .i64 0) := (blk_cell BK192.out 0).trans rfl
      have hcz16_1 : wc.cell? ⟨gb192, 1, none⟩ = some (.int .i64 0) := (blk_cell BK192.out 1).trans rfl
      have hfz16_0 := blk_frozen BK192.out 0
      have hfz16_1 := blk_frozen BK192.out 1
      go_wp2
      refine bodyPost_ret (results_ctt rfl _ _ gb192 28 #[.int .i64 0, .int .i64 0] (0, 0) _ rfl (by (with_reducible repeat (first | refine blk_drewN ?_ _ | refine blk_drew ?_ | refine blk_alloc ?_ _)); refine blk_put (cs := #[.int .i64 0, .int .i64 0]) ?_ 1 _ rfl; (with_reducible repeat (first | refine blk_drewN ?_ _ | refine blk_drew ?_ | refine blk_alloc ?_ _)); refine blk_put (cs := #[.int .i64 0, .int .i64 0]) ?_ 0 _ rfl; (with_reducible repeat (first | refine blk_drewN ?_ _ | refine blk_drew ?_ | refine blk_alloc ?_ _)); exact BK192.out) Try.underlying28 rfl (by kernel_rfl)) rfl ?_
      exact ⟨by first | rfl | (simp [errW_none, errW_some] <;> rfl) | (simp [*, errW_none, errW_some] <;> rfl), (belS HB.out)⟩
     ·rw [if_neg c15] at H
      have c15b0 : (t194 == 0) = false := beq_eq_false_iff_ne.mpr c15
      have c15b1 : (t194 != 0) = true := bne_iff_ne.mpr c15
      by_cases c17 : t194 = (l0.length : Int)
      ·rw [if_pos c17] at H
       have c17b0 : (t194 == (l0.length : Int)) = true := beq_iff_eq.mpr c17
       have c17b1 : (t194 != (l0.length : Int)) = false := bne_eq_false_iff_eq.mpr c17
       clear c17
       simp only [Option.some.injEq, Prod.mk.injEq] at H
       obtain ⟨rfl, rfl, rfl, rfl⟩ := H
       have hcz18_0 : wc.cell? ⟨gb192, 0, none⟩ = some (.int .i64 0) := (blk_cell BK192.out 0).trans rfl
       have hcz18_1 : wc.cell? ⟨gb192, 1, none⟩ = some (.int .i64 0) := (blk_cell BK192.out 1).trans rfl
       have hfz18_0 := blk_frozen BK192.out 0
       have hfz18_1 := blk_frozen BK192.out 1
       go_wp2
       refine bodyPost_ret (results_ctt rfl _ _ gb192 28 #[.int .i64 0, .int .i64 0] (0, 0) _ rfl (by (with_reducible repeat (first | refine blk_drewN ?_ _ | refine blk_drew ?_ | refine blk_alloc ?_ _)); refine blk_put (cs := #[.int .i64 0, .int .i64 0]) ?_ 1 _ rfl; (with_reducible repeat (first | refine blk_drewN ?_ _ | refine blk_drew ?_ | refine blk_alloc ?_ _)); refine blk_put (cs := #[.int .i64 0, .int .i64 0]) ?_ 0 _ rfl; (with_reducible repeat (first | refine blk_drewN ?_ _ | refine blk_drew ?_ | refine blk_alloc ?_ _)); exact BK192.out) Try.underlying28 rfl (by kernel_rfl)) rfl ?_
       exact ⟨by first | rfl | (simp [errW_none, errW_some] <;> rfl) | (simp [*, errW_none, errW_some] <;> rfl), (belS HB.out)⟩
      ·rw [if_neg c17] at H
       have c17b0 : (t194 == (l0.length : Int)) = false := beq_eq_false_iff_ne.mpr c17
       have c17b1 : (t194 != (l0.length : Int)) = true := bne_iff_ne.mpr c17
       obtain ⟨ji19, hji19⟩ : ∃ j_ : Int, (wrap64 (t194 - 1)) = j_ := ⟨_, rfl⟩
       replace H : (if 0 ≤ (ji19) then (if (ji19) < (l0.length : Int) then (if 0 ≤ t194 then (if t194 < (l0.length : Int) then ((lerp_Between.f kj5 ((rd_T30 l0 (ji19)).f0) ((rd_T30 l0 (ji19)).f1.f0) ((rd_T30 l0 (ji19)).f1.f1) ((rd_T30 l0 t194).f0) ((rd_T30 l0 t194).f1.f0) ((rd_T30 l0 t194).f1.f1) a1).bind fun bt199 => (some (bt199.1, bt199.2.1, (bt199.2.2 == 0), bt199.2.2))) else (none)) else (none)) else (none)) else (none)) = some (r1, r2, r3, r4) := by first | (rw [hji19] at H; exact H) | (simp only [hji19] at H ⊢; exact H)
       have hji19w : (IntKind.i64.wrap (t194 - 1)) = ji19 := (i64_w _).trans hji19
       by_cases c20 : 0 ≤ (ji19)
       ·rw [if_pos c20] at H
        have c20b0 : decide (0 ≤ (ji19)) = true := decide_eq_true c20
        clear c20
        by_cases c21 : (ji19) < (l0.length : Int)
        ·rw [if_pos c21] at H
         have c21b0 : decide ((ji19) < (l0.length : Int)) = true := decide_eq_true c21
         clear c21
         by_cases c22 : 0 ≤ t194
         ·rw [if_pos c22] at H
          have c22b0 : decide (0 ≤ t194) = true := decide_eq_true c22
          clear c22
          by_cases c23 : t194 < (l0.length : Int)
          ·rw [if_pos c23] at H
           have c23b0 : decide (t194 < (l0.length : Int)) = true := decide_eq_true c23
           clear c23
           replace H := Option.bind_eq_some_iff.mp H
           obtain ⟨⟨t199, t200, t201⟩, A240, H⟩ := H
           replace H : (some (t199, t200, (t201 == 0), t201)) = some (r1, r2, r3, r4) := H
           have A24 := Aside0.mk A240
           clear A240
           simp only [Option.some.injEq, Prod.mk.injEq] at H
           obtain ⟨rfl, rfl, rfl, rfl⟩ := H
           try go_wp2
           have n0_ := Aside0.mk (blk_drew BK192.out)
           have n1_ := Aside0.mk (below_drew1 HB.out)
           clear BK192
           clear HB
           have BK192 := n0_
           have HB := n1_
           clear n0_ n1_
           have p197 : 0 ≤ ((ji19) : Int) := of_decide_eq_true (by first | (with_reducible assumption) | assumption)
           have q197 : (ji19) < (l0.length : Int) := of_decide_eq_true (by first | (with_reducible assumption) | assumption)
           obtain ⟨ad197, e197, hx197_0, hx197_1, hx197_2⟩ := at_T30 HR0.out (ji19) p197 q197
           have hw197_2 := hx197_2
           have hw197_1 := hx197_1
           have hw197_0 := hx197_0
           cases e197
           replace hx197_0 := cellB HB.out hx197_0
           replace hx197_1 := cellB HB.out hx197_1
           replace hx197_2 := cellB HB.out hx197_2
           replace p197 := eq_true p197
           replace q197 := eq_true q197
           have p198 : 0 ≤ (t194 : Int) := of_decide_eq_true (by first | (with_reducible assumption) | assumption)
           have q198 : t194 < (l0.length : Int) := of_decide_eq_true (by first | (with_reducible assumption) | assumption)
           obtain ⟨ad198, e198, hx198_0, hx198_1, hx198_2⟩ := at_T30 HR0.out t194 p198 q198
           have hw198_2 := hx198_2
           have hw198_1 := hx198_1
           have hw198_0 := hx198_0
           obtain rfl : ad197 = ad198 := (by injection e198)
           replace hx198_0 := cellB HB.out hx198_0
           replace hx198_1 := cellB HB.out hx198_1
           replace hx198_2 := cellB HB.out hx198_2
           replace p198 := eq_true p198
           replace q198 := eq_true q198
           refine start_ (n := 17) (S := fun w' => w'.cell? (ad197.add (((ji19)).toNat * 3)) = some (.int .i64 ((rd_T30 l0 (ji19)).f0)) ∧ w'.cell? ⟨(ad197.add (((ji19)).toNat * 3)).block, (ad197.add (((ji19)).toNat * 3)).off + 1, none⟩ = some (.int .i64 ((rd_T30 l0 (ji19)).f1.f0)) ∧ w'.cell? ⟨(ad197.add (((ji19)).toNat * 3)).block, (ad197.add (((ji19)).toNat * 3)).off + 2, none⟩ = some (.int .i64 ((rd_T30 l0 (ji19)).f1.f1)) ∧ w'.cell? (ad197.add ((t194).toNat * 3)) = some (.int .i64 ((rd_T30 l0 t194).f0)) ∧ w'.cell? ⟨(ad197.add ((t194).toNat * 3)).block, (ad197.add ((t194).toNat * 3)).off + 1, none⟩ = some (.int .i64 ((rd_T30 l0 t194).f1.f0)) ∧ w'.cell? ⟨(ad197.add ((t194).toNat * 3)).block, (ad197.add ((t194).toNat * 3)).off + 2, none⟩ = some (.int .i64 ((rd_T30 l0 t194).f1.f1))) (ds := []) #[false, false, false, false, false, false, false, false, false, false, false, false, false, false, false, false, false] (by kernel_rfl) rfl rfl ⟨(cellB HB.out hw197_0), (cellB HB.out hw197_1), (cellB HB.out hw197_2), (cellB HB.out hw198_0), (cellB HB.out hw198_1), (cellB HB.out hw198_2)⟩ (fun hHeld => ?_); refine with_tabW lerp_At.tab8 lerp_At.bits8 (fun HT_ HW_ => ?_)
           generalize wc.drew = w25 at BK192 HB hx197_0 hx197_1 hx197_2 hx198_0 hx198_1 hx198_2 hHeld ⊢
           refine pure_ (i := 0) (N := some 47) (v := ?_) (a' := ?_) #[true, false, false, false, false, false, false, false, false, false, false, false, false, false, false, false, false] rfl rfl (any_of HT_.out (by kernel_rfl)) (fun _ _ _ h => h) (Or.inl ⟨by rfl, ?_⟩) ?_ ?_
           rotate_left
           ·intro w'
            go_simp
            with_reducible rfl
           rotate_left
           ·simp only [Act.put, List.setIfInBounds_toArray, List.set_cons_zero, List.set_cons_succ, i64_w, i32_w]
            rfl
           refine pure_ (i := 1) (N := some 48) (v := ?_) (a' := ?_) #[true, true, false, false, false, false, false, false, false, false, false, false, false, false, false, false, false] rfl rfl (any_of HT_.out (by kernel_rfl)) (fun _ _ _ h => h) (Or.inl ⟨by rfl, ?_⟩) ?_ ?_
           rotate_left
           ·intro w'
            go_simp
            with_reducible rfl
           rotate_left
           ·simp only [Act.put, List.setIfInBounds_toArray, List.set_cons_zero, List.set_cons_succ, i64_w, i32_w]
            rfl
           refine pure_ (i := 2) (N := some 49) (v := ?_) (a' := ?_) #[true, true, true, false, false, false, false, false, false, false, false, false, false, false, false, false, false] rfl rfl (any_of HT_.out (by kernel_rfl)) (fun _ _ _ h => h) (Or.inl ⟨by rfl, ?_⟩) ?_ ?_
           rotate_left
           ·intro w'
            go_simp
            with_reducible rfl
           rotate_left
           ·simp only [Act.put, List.setIfInBounds_toArray, List.set_cons_zero, List.set_cons_succ, i64_w, i32_w]
            rfl
           refine pure_ (i := 3) (N := some 50) (v := ?_) (a' := ?_) #[true, true, true, true, false, false, false, false, false, false, false, false, false, false, false, false, false] rfl rfl (any_of HT_.out (by kernel_rfl)) (fun _ _ _ h => h) (Or.inl ⟨by rfl, ?_⟩) ?_ ?_
           rotate_left
           ·intro w'
            go_simp
            with_reducible rfl
           rotate_left
           ·simp only [Act.put, List.setIfInBounds_toArray, List.set_cons_zero, List.set_cons_succ, i64_w, i32_w]
            rfl
           refine pure_ (i := 5) (N := some 52) (v := ?_) (a' := ?_) #[true, true, true, true, false, true, false, false, false, false, false, false, false, false, false, false, false] rfl rfl (any_of HT_.out (by kernel_rfl)) (fun _ _ _ h => h) (Or.inl ⟨by rfl, ?_⟩) ?_ ?_
           rotate_left
           ·intro w'
            go_simp
            with_reducible rfl
           rotate_left
           ·simp only [Act.put, List.setIfInBounds_toArray, List.set_cons_zero, List.set_cons_succ, i64_w, i32_w]
            rfl
           refine pure_ (i := 6) (N := some 53) (v := ?_) (a' := ?_) #[true, true, true, true, false, true, true, false, false, false, false, false, false, false, false, false, false] rfl rfl (any_of HT_.out (by kernel_rfl)) (fun _ _ _ h => h) (Or.inl ⟨by rfl, ?_⟩) ?_ ?_
           rotate_left
           ·intro w'
            go_simp
            with_reducible rfl
           rotate_left
           ·simp only [Act.put, List.setIfInBounds_toArray, List.set_cons_zero, List.set_cons_succ, i64_w, i32_w]
            rfl
           refine pure_ (i := 7) (N := some 54) (v := ?_) (a' := ?_) #[true, true, true, true, false, true, true, true, false, false, false, false, false, false, false, false, false] rfl rfl (any_of HT_.out (by kernel_rfl)) (fun _ _ _ h => h) (Or.inl ⟨by rfl, ?_⟩) ?_ ?_
           rotate_left
           ·intro w'
            go_simp
            with_reducible rfl
           rotate_left
           ·simp only [Act.put, List.setIfInBounds_toArray, List.set_cons_zero, List.set_cons_succ, i64_w, i32_w]
            rfl
           refine pure_ (i := 9) (N := some 56) (v := ?_) (a' := ?_) #[true, true, true, true, false, true, true, true, false, true, false, false, false, false, false, false, false] rfl rfl (any_of HT_.out (by kernel_rfl)) (fun _ _ _ h => h) (Or.inl ⟨by rfl, ?_⟩) ?_ ?_
           rotate_left
           ·intro w'
            go_simp
            with_reducible rfl
           rotate_left
           ·simp only [Act.put, List.setIfInBounds_toArray, List.set_cons_zero, List.set_cons_succ, i64_w, i32_w]
            rfl
           refine take_ (i := 4) (N := some 51) (v := ?_) (a' := ?_) #[true, true, true, true, true, true, true, true, false, true, false, false, false, false, false, false, false] rfl rfl (take_ofW HT_.out HW_.out (by kernel_rfl)) (fun _ _ _ h => h) (Or.inl ⟨by rfl, ?_⟩) hHeld ?_ ?_
           rotate_left
           ·rintro w' ⟨s0, s1, s2, s3, s4, s5⟩
            go_simp
            with_reducible rfl
           rotate_left
           ·simp only [Act.put, List.setIfInBounds_toArray, List.set_cons_zero, List.set_cons_succ, i64_w, i32_w]
            rfl
           refine take_ (i := 8) (N := some 55) (v := ?_) (a' := ?_) #[true, true, true, true, true, true, true, true, true, true, false, false, false, false, false, false, false] rfl rfl (take_ofW HT_.out HW_.out (by kernel_rfl)) (fun _ _ _ h => h) (Or.inl ⟨by rfl, ?_⟩) hHeld ?_ ?_
           rotate_left
           ·rintro w' ⟨s0, s1, s2, s3, s4, s5⟩
            go_simp
            with_reducible rfl
           rotate_left
           ·simp only [Act.put, List.setIfInBounds_toArray, List.set_cons_zero, List.set_cons_succ, i64_w, i32_w]
            rfl
           refine join_ (σ := Nat) 2 #[true, true, true, true, true, true, true, true, true, true, true, true, true, true, true, false, false] (fun s_ => [(57, .tuple #[.agg #[.int .i64 t199, .int .i64 t200], .int .i64 t201]), (8, .pointer (some ⟨s_, 0, none⟩)), (46, .tuple #[.agg #[.int .i64 t199, .int .i64 t200], .int .i64 t201]), (58, .agg #[.int .i64 t199, .int .i64 t200]), (59, .int .i64 t201)]) (fun s_ w' => (w'.cell? (ad197.add (((ji19)).toNat * 3)) = some (.int .i64 ((rd_T30 l0 (ji19)).f0)) ∧ w'.cell? ⟨(ad197.add (((ji19)).toNat * 3)).block, (ad197.add (((ji19)).toNat * 3)).off + 1, none⟩ = some (.int .i64 ((rd_T30 l0 (ji19)).f1.f0)) ∧ w'.cell? ⟨(ad197.add (((ji19)).toNat * 3)).block, (ad197.add (((ji19)).toNat * 3)).off + 2, none⟩ = some (.int .i64 ((rd_T30 l0 (ji19)).f1.f1)) ∧ w'.cell? (ad197.add ((t194).toNat * 3)) = some (.int .i64 ((rd_T30 l0 t194).f0)) ∧ w'.cell? ⟨(ad197.add ((t194).toNat * 3)).block, (ad197.add ((t194).toNat * 3)).off + 1, none⟩ = some (.int .i64 ((rd_T30 l0 t194).f1.f0)) ∧ w'.cell? ⟨(ad197.add ((t194).toNat * 3)).block, (ad197.add ((t194).toNat * 3)).off + 2, none⟩ = some (.int .i64 ((rd_T30 l0 t194).f1.f1))) ∧ (w'.heap[gb192]? = some (.cells #[.int .i64 0, .int .i64 0] 28 (0, 0))) ∧ (w'.heap[s_]? = some (.cells #[.int .i64 0, .int .i64 0] 28 (0, 0))) ∧ (w.heap.size ≤ s_) ∧ (w.heap.size ≤ s_) ∧ (gb192 ≠ s_) ∧ (s_ ≠ gb192) ∧ (Below w.heap.size w w')) ?_ ?_
           rotate_left
           ·intro hCont
            refine two_ (i := 10) (j := 14) (Ni := some 57) (Nj := some 8) #[true, true, true, true, true, true, true, true, true, true, true, false, false, false, false, false, false] #[true, true, true, true, true, true, true, true, true, true, false, false, false, false, true, false, false] rfl rfl rfl rfl (two_of HT_.out (by kernel_rfl)) (by decide) (by decide) (fun K hK => ?_) (fun K hK => ?_)
            ·skip
             refine goes_ Try.func19 (by kernel_rfl) rfl #[.agg #[.int .i64 ((rd_T30 l0 (ji19)).f0), .int .i64 ((rd_T30 l0 (ji19)).f1.f0), .int .i64 ((rd_T30 l0 (ji19)).f1.f1)], .agg #[.int .i64 ((rd_T30 l0 t194).f0), .int .i64 ((rd_T30 l0 t194).f1.f0), .int .i64 ((rd_T30 l0 t194).f1.f1)], .int .i64 a1] (by rfl) rfl rfl (by (try simp only [List.map_toArray, List.map_cons, List.map_nil]); first | done | (simp only [hji19]; rfl) | rfl | (simp only [List.length_drop, List.length_take]; rfl)) ?_
             with_reducible refine (lerp_Between.calls kj5 ((rd_T30 l0 (ji19)).f0) ((rd_T30 l0 (ji19)).f1.f0) ((rd_T30 l0 (ji19)).f1.f1) ((rd_T30 l0 t194).f0) ((rd_T30 l0 t194).f1.f0) ((rd_T30 l0 t194).f1.f1) a1 t199 t200 t201 _ A24.out).mono ?_
             rintro e w26 ⟨rfl, hb⟩
             refine ⟨_, rfl, ?_⟩
             have n0_ := Aside0.mk (bkB BK192.out hb)
             have n1_ := Aside0.mk (below_step (belS HB.out) hb)
             clear BK192
             clear HB
             have BK192 := n0_
             have HB := n1_
             clear n0_ n1_
             (try clear hb)
             (try clear hb2)
             (try clear hk)
             (try clear hi)
             refine hK.out _ _ ⟨(cellB HB.out hw197_0), (cellB HB.out hw197_1), (cellB HB.out hw197_2), (cellB HB.out hw198_0), (cellB HB.out hw198_1), (cellB HB.out hw198_2)⟩ (fun hHeld => ?_)
             clear hK K
             refine norm_ (a' := ?_) ?_ ?_
             rotate_left
             ·show Act.put _ (some 57) _ = _
              simp only [Act.put, List.setIfInBounds_toArray, List.set_cons_zero, List.set_cons_succ, i64_w, i32_w]
              rfl
             refine pure_ (i := 11) (N := some 46) (v := ?_) (a' := ?_) #[true, true, true, true, true, true, true, true, true, true, true, true, false, false, false, false, false] rfl rfl (any_of HT_.out (by kernel_rfl)) (fun _ _ _ h => h) (Or.inl ⟨by rfl, ?_⟩) ?_ ?_
             rotate_left
             ·intro w'
              go_simp
              with_reducible rfl
             rotate_left
             ·simp only [Act.put, List.setIfInBounds_toArray, List.set_cons_zero, List.set_cons_succ, i64_w, i32_w]
              rfl
             refine pure_ (i := 12) (N := some 58) (v := ?_) (a' := ?_) #[true, true, true, true, true, true, true, true, true, true, true, true, true, false, false, false, false] rfl rfl (any_of HT_.out (by kernel_rfl)) (fun _ _ _ h => h) (Or.inl ⟨by rfl, ?_⟩) ?_ ?_
             rotate_left
             ·intro w'
              go_simp
              with_reducible rfl
             rotate_left
             ·simp only [Act.put, List.setIfInBounds_toArray, List.set_cons_zero, List.set_cons_succ, i64_w, i32_w]
              rfl
             refine pure_ (i := 13) (N := some 59) (v := ?_) (a' := ?_) #[true, true, true, true, true, true, true, true, true, true, true, true, true, true, false, false, false] rfl rfl (any_of HT_.out (by kernel_rfl)) (fun _ _ _ h => h) (Or.inl ⟨by rfl, ?_⟩) ?_ ?_
             rotate_left
             ·intro w'
              go_simp
              with_reducible rfl
             rotate_left
             ·simp only [Act.put, List.setIfInBounds_toArray, List.set_cons_zero, List.set_cons_succ, i64_w, i32_w]
              rfl
             refine one_ (i := 14) (N := some 8) #[true, true, true, true, true, true, true, true, true, true, true, true, true, true, true, false, false] rfl rfl (one_of HT_.out (by kernel_rfl)) (by decide) (fun K hK => ?_)
             refine box_step ?hg (N := 8) ?hd (cs := #[.int .i64 0, .int .i64 0]) (t := 28) ?hr ?_; (case hd => rfl); (case hg => rfl); (case hr => first | (go_simp; done) | (go_simp; rfl))
             intro gb202 hg w27 hbox hb
             have n0_ := Aside0.mk (bkB BK192.out hb)
             have n1_ := Aside0.mk (below_step (belS HB.out) hb)
             have n2_ := Aside0.mk (hbox)
             have n3_ := Aside0.mk (szB hg HB.out)
             have n4_ := Aside0.mk (szB hg HB.out)
             have n5_ := Aside0.mk ((bk1 hg BK192.out))
             have n6_ := Aside0.mk ((bk2 hg BK192.out))
             clear BK192
             clear HB
             have BK192 := n0_
             have HB := n1_
             have BK202 := n2_
             have GW202 := n3_
             have GE202 := n4_
             have NB192_202 := n5_
             have NB202_192 := n6_
             clear n0_ n1_ n2_ n3_ n4_ n5_ n6_
             clear hb hbox hg
             refine hK.out _ _ ⟨(cellB HB.out hw197_0), (cellB HB.out hw197_1), (cellB HB.out hw197_2), (cellB HB.out hw198_0), (cellB HB.out hw198_1), (cellB HB.out hw198_2)⟩ (fun hHeld => ?_)
             clear hK K
             refine norm_ (a' := ?_) ?_ ?_
             rotate_left
             ·show Act.put _ (some 8) _ = _
              simp only [Act.put, List.setIfInBounds_toArray, List.set_cons_zero, List.set_cons_succ, i64_w, i32_w]
              rfl
             exact norm_ (by simp only [putAll, Act.put, List.setIfInBounds_toArray, List.set_cons_zero, List.set_cons_succ]) (hCont (gb202) _ ⟨hHeld, (blkN BK192.out), (blkN BK202.out), GW202.out, GE202.out, NB192_202.out, NB202_192.out, (belS HB.out)⟩)
            ·skip
             refine box_step ?hg (N := 8) ?hd (cs := #[.int .i64 0, .int .i64 0]) (t := 28) ?hr ?_; (case hd => rfl); (case hg => rfl); (case hr => first | (go_simp; done) | (go_simp; rfl))
             intro gb202 hg w26 hbox hb
             have n0_ := Aside0.mk (bkB BK192.out hb)
             have n1_ := Aside0.mk (below_step (belS HB.out) hb)
             have n2_ := Aside0.mk (hbox)
             have n3_ := Aside0.mk (szB hg HB.out)
             have n4_ := Aside0.mk (szB hg HB.out)
             have n5_ := Aside0.mk ((bk1 hg BK192.out))
             have n6_ := Aside0.mk ((bk2 hg BK192.out))
             clear BK192
             clear HB
             have BK192 := n0_
             have HB := n1_
             have BK202 := n2_
             have GW202 := n3_
             have GE202 := n4_
             have NB192_202 := n5_
             have NB202_192 := n6_
             clear n0_ n1_ n2_ n3_ n4_ n5_ n6_
             clear hb hbox hg
             refine hK.out _ _ ⟨(cellB HB.out hw197_0), (cellB HB.out hw197_1), (cellB HB.out hw197_2), (cellB HB.out hw198_0), (cellB HB.out hw198_1), (cellB HB.out hw198_2)⟩ (fun hHeld => ?_)
             clear hK K
             refine norm_ (a' := ?_) ?_ ?_
             rotate_left
             ·show Act.put _ (some 8) _ = _
              simp only [Act.put, List.setIfInBounds_toArray, List.set_cons_zero, List.set_cons_succ, i64_w, i32_w]
              rfl
             refine one_ (i := 10) (N := some 57) #[true, true, true, true, true, true, true, true, true, true, true, false, false, false, true, false, false] rfl rfl (one_of HT_.out (by kernel_rfl)) (by decide) (fun K hK => ?_)
             refine goes_ Try.func19 (by kernel_rfl) rfl #[.agg #[.int .i64 ((rd_T30 l0 (ji19)).f0), .int .i64 ((rd_T30 l0 (ji19)).f1.f0), .int .i64 ((rd_T30 l0 (ji19)).f1.f1)], .agg #[.int .i64 ((rd_T30 l0 t194).f0), .int .i64 ((rd_T30 l0 t194).f1.f0), .int .i64 ((rd_T30 l0 t194).f1.f1)], .int .i64 a1] (by rfl) rfl rfl (by (try simp only [List.map_toArray, List.map_cons, List.map_nil]); first | done | (simp only [hji19]; rfl) | rfl | (simp only [List.length_drop, List.length_take]; rfl)) ?_
             with_reducible refine (lerp_Between.calls kj5 ((rd_T30 l0 (ji19)).f0) ((rd_T30 l0 (ji19)).f1.f0) ((rd_T30 l0 (ji19)).f1.f1) ((rd_T30 l0 t194).f0) ((rd_T30 l0 t194).f1.f0) ((rd_T30 l0 t194).f1.f1) a1 t199 t200 t201 _ A24.out).mono ?_
             rintro e w27 ⟨rfl, hb⟩
             refine ⟨_, rfl, ?_⟩
             have n0_ := Aside0.mk (bkB BK192.out hb)
             have n1_ := Aside0.mk (bkB BK202.out hb)
             have n2_ := Aside0.mk (below_step (belS HB.out) hb)
             clear BK192
             clear BK202
             clear HB
             have BK192 := n0_
             have BK202 := n1_
             have HB := n2_
             clear n0_ n1_ n2_
             (try clear hb)
             (try clear hb2)
             (try clear hk)
             (try clear hi)
             refine hK.out _ _ ⟨(cellB HB.out hw197_0), (cellB HB.out hw197_1), (cellB HB.out hw197_2), (cellB HB.out hw198_0), (cellB HB.out hw198_1), (cellB HB.out hw198_2)⟩ (fun hHeld => ?_)
             clear hK K
             refine norm_ (a' := ?_) ?_ ?_
             rotate_left
             ·show Act.put _ (some 57) _ = _
              simp only [Act.put, List.setIfInBounds_toArray, List.set_cons_zero, List.set_cons_succ, i64_w, i32_w]
              rfl
             refine pure_ (i := 11) (N := some 46) (v := ?_) (a' := ?_) #[true, true, true, true, true, true, true, true, true, true, true, true, false, false, true, false, false] rfl rfl (any_of HT_.out (by kernel_rfl)) (fun _ _ _ h => h) (Or.inl ⟨by rfl, ?_⟩) ?_ ?_
             rotate_left
             ·intro w'
              go_simp
              with_reducible rfl
             rotate_left
             ·simp only [Act.put, List.setIfInBounds_toArray, List.set_cons_zero, List.set_cons_succ, i64_w, i32_w]
              rfl
             refine pure_ (i := 12) (N := some 58) (v := ?_) (a' := ?_) #[true, true, true, true, true, true, true, true, true, true, true, true, true, false, true, false, false] rfl rfl (any_of HT_.out (by kernel_rfl)) (fun _ _ _ h => h) (Or.inl ⟨by rfl, ?_⟩) ?_ ?_
             rotate_left
             ·intro w'
              go_simp
              with_reducible rfl
             rotate_left
             ·simp only [Act.put, List.setIfInBounds_toArray, List.set_cons_zero, List.set_cons_succ, i64_w, i32_w]
              rfl
             refine pure_ (i := 13) (N := some 59) (v := ?_) (a' := ?_) #[true, true, true, true, true, true, true, true, true, true, true, true, true, true, true, false, false] rfl rfl (any_of HT_.out (by kernel_rfl)) (fun _ _ _ h => h) (Or.inl ⟨by rfl, ?_⟩) ?_ ?_
             rotate_left
             ·intro w'
              go_simp
              with_reducible rfl
             rotate_left
             ·simp only [Act.put, List.setIfInBounds_toArray, List.set_cons_zero, List.set_cons_succ, i64_w, i32_w]
              rfl
             exact norm_ (by simp only [putAll, Act.put, List.setIfInBounds_toArray, List.set_cons_zero, List.set_cons_succ]) (hCont (gb202) _ ⟨hHeld, (blkN BK192.out), (blkN BK202.out), GW202.out, GE202.out, NB192_202.out, NB202_192.out, (belS HB.out)⟩)
           rintro gb202 w28 ⟨hS_, h0_, h1_, h2_, h3_, h4_, h5_, h6_⟩
           have n0_ : Aside0 (w28.heap[gb192]? = some (.cells #[.int .i64 0, .int .i64 0] 28 (0, 0))) := ⟨h0_⟩
           have n1_ : Aside0 (w28.heap[gb202]? = some (.cells #[.int .i64 0, .int .i64 0] 28 (0, 0))) := ⟨h1_⟩
           have n2_ : Aside0 (w.heap.size ≤ gb202) := ⟨h2_⟩
           have n3_ : Aside0 (w.heap.size ≤ gb202) := ⟨h3_⟩
           have n4_ : Aside0 (gb192 ≠ gb202) := ⟨h4_⟩
           have n5_ : Aside0 (gb202 ≠ gb192) := ⟨h5_⟩
           have n6_ : Aside0 (Below w.heap.size w w28) := ⟨h6_⟩
           clear BK192
           clear HB
           clear h0_ h1_ h2_ h3_ h4_ h5_ h6_
           have BK192 := n0_
           have BK202 := n1_
           have GW202 := n2_
           have GE202 := n3_
           have NB192_202 := n4_
           have NB202_192 := n5_
           have HB := n6_
           clear n0_ n1_ n2_ n3_ n4_ n5_ n6_
           have hHeld : w28.cell? (ad197.add (((ji19)).toNat * 3)) = some (.int .i64 ((rd_T30 l0 (ji19)).f0)) ∧ w28.cell? ⟨(ad197.add (((ji19)).toNat * 3)).block, (ad197.add (((ji19)).toNat * 3)).off + 1, none⟩ = some (.int .i64 ((rd_T30 l0 (ji19)).f1.f0)) ∧ w28.cell? ⟨(ad197.add (((ji19)).toNat * 3)).block, (ad197.add (((ji19)).toNat * 3)).off + 2, none⟩ = some (.int .i64 ((rd_T30 l0 (ji19)).f1.f1)) ∧ w28.cell? (ad197.add ((t194).toNat * 3)) = some (.int .i64 ((rd_T30 l0 t194).f0)) ∧ w28.cell? ⟨(ad197.add ((t194).toNat * 3)).block, (ad197.add ((t194).toNat * 3)).off + 1, none⟩ = some (.int .i64 ((rd_T30 l0 t194).f1.f0)) ∧ w28.cell? ⟨(ad197.add ((t194).toNat * 3)).block, (ad197.add ((t194).toNat * 3)).off + 2, none⟩ = some (.int .i64 ((rd_T30 l0 t194).f1.f1)) := hS_
           refine norm_ (a' := ?_) ?_ ?_
           rotate_left
           ·simp only [putAll, Act.put, List.setIfInBounds_toArray, List.set_cons_zero, List.set_cons_succ]
            rfl
           refine one_ (i := 15) (N := none) #[true, true, true, true, true, true, true, true, true, true, true, true, true, true, true, true, false] rfl rfl (one_of HT_.out (by kernel_rfl)) (by decide) (fun K hK => ?_)
           have hs29 : w28.cell? ⟨gb202, 0, none⟩ = some (.int .i64 0) := (blk_cell BK202.out 0).trans rfl
           have hfs29 := blk_frozen BK202.out 0
           have hns29_0 := NB192_202.out
           have hms29_0 := NB202_192.out
           have hs30 : w28.cell? ⟨gb202, 1, none⟩ = some (.int .i64 0) := (blk_cell BK202.out 1).trans rfl
           have hfs30 := blk_frozen BK202.out 1
           have hns30_0 := NB192_202.out
           have hms30_0 := NB202_192.out
           refine skip_ (w1 := ?_) (by rfl) rfl ?_ ?_
           rotate_left
           ·go_simp
            rfl
           refine hK.out _ _ ⟨((cell_far (p := ⟨gb202, _, none⟩) (by first | exact cellNe hw197_0 GW202.out | (rw [add_block]; exact cellNe hw197_0 GW202.out) | (show (Addr.add _ _).block ≠ _; rw [add_block]; exact cellNe hw197_0 GW202.out) | (dsimp only; exact cellNe hw197_0 GW202.out)) _).trans (((cell_far (p := ⟨gb202, _, none⟩) (by first | exact cellNe hw197_0 GW202.out | (rw [add_block]; exact cellNe hw197_0 GW202.out) | (show (Addr.add _ _).block ≠ _; rw [add_block]; exact cellNe hw197_0 GW202.out) | (dsimp only; exact cellNe hw197_0 GW202.out)) _).trans (hHeld.1)))), ((cell_far (p := ⟨gb202, _, none⟩) (by first | exact cellNe hw197_1 GW202.out | (rw [add_block]; exact cellNe hw197_1 GW202.out) | (show (Addr.add _ _).block ≠ _; rw [add_block]; exact cellNe hw197_1 GW202.out) | (dsimp only; exact cellNe hw197_1 GW202.out)) _).trans (((cell_far (p := ⟨gb202, _, none⟩) (by first | exact cellNe hw197_1 GW202.out | (rw [add_block]; exact cellNe hw197_1 GW202.out) | (show (Addr.add _ _).block ≠ _; rw [add_block]; exact cellNe hw197_1 GW202.out) | (dsimp only; exact cellNe hw197_1 GW202.out)) _).trans (hHeld.2.1)))), ((cell_far (p := ⟨gb202, _, none⟩) (by first | exact cellNe hw197_2 GW202.out | (rw [add_block]; exact cellNe hw197_2 GW202.out) | (show (Addr.add _ _).block ≠ _; rw [add_block]; exact cellNe hw197_2 GW202.out) | (dsimp only; exact cellNe hw197_2 GW202.out)) _).trans (((cell_far (p := ⟨gb202, _, none⟩) (by first | exact cellNe hw197_2 GW202.out | (rw [add_block]; exact cellNe hw197_2 GW202.out) | (show (Addr.add _ _).block ≠ _; rw [add_block]; exact cellNe hw197_2 GW202.out) | (dsimp only; exact cellNe hw197_2 GW202.out)) _).trans (hHeld.2.2.1)))), ((cell_far (p := ⟨gb202, _, none⟩) (by first | exact cellNe hw198_0 GW202.out | (rw [add_block]; exact cellNe hw198_0 GW202.out) | (show (Addr.add _ _).block ≠ _; rw [add_block]; exact cellNe hw198_0 GW202.out) | (dsimp only; exact cellNe hw198_0 GW202.out)) _).trans (((cell_far (p := ⟨gb202, _, none⟩) (by first | exact cellNe hw198_0 GW202.out | (rw [add_block]; exact cellNe hw198_0 GW202.out) | (show (Addr.add _ _).block ≠ _; rw [add_block]; exact cellNe hw198_0 GW202.out) | (dsimp only; exact cellNe hw198_0 GW202.out)) _).trans (hHeld.2.2.2.1)))), ((cell_far (p := ⟨gb202, _, none⟩) (by first | exact cellNe hw198_1 GW202.out | (rw [add_block]; exact cellNe hw198_1 GW202.out) | (show (Addr.add _ _).block ≠ _; rw [add_block]; exact cellNe hw198_1 GW202.out) | (dsimp only; exact cellNe hw198_1 GW202.out)) _).trans (((cell_far (p := ⟨gb202, _, none⟩) (by first | exact cellNe hw198_1 GW202.out | (rw [add_block]; exact cellNe hw198_1 GW202.out) | (show (Addr.add _ _).block ≠ _; rw [add_block]; exact cellNe hw198_1 GW202.out) | (dsimp only; exact cellNe hw198_1 GW202.out)) _).trans (hHeld.2.2.2.2.1)))), ((cell_far (p := ⟨gb202, _, none⟩) (by first | exact cellNe hw198_2 GW202.out | (rw [add_block]; exact cellNe hw198_2 GW202.out) | (show (Addr.add _ _).block ≠ _; rw [add_block]; exact cellNe hw198_2 GW202.out) | (dsimp only; exact cellNe hw198_2 GW202.out)) _).trans (((cell_far (p := ⟨gb202, _, none⟩) (by first | exact cellNe hw198_2 GW202.out | (rw [add_block]; exact cellNe hw198_2 GW202.out) | (show (Addr.add _ _).block ≠ _; rw [add_block]; exact cellNe hw198_2 GW202.out) | (dsimp only; exact cellNe hw198_2 GW202.out)) _).trans (hHeld.2.2.2.2.2))))⟩ (fun hHeld => ?_)
           clear hK K
           refine pure_ (i := 16) (N := some 9) (v := ?_) (a' := ?_) #[true, true, true, true, true, true, true, true, true, true, true, true, true, true, true, true, true] rfl rfl (any_of HT_.out (by kernel_rfl)) (fun _ _ _ h => h) (Or.inl ⟨by rfl, ?_⟩) ?_ ?_
           rotate_left
           ·intro w'
            go_simp
            with_reducible rfl
           rotate_left
           ·simp only [Act.put, List.setIfInBounds_toArray, List.set_cons_zero, List.set_cons_succ, i64_w, i32_w]
            rfl
           refine done_ (done_of HT_.out (by kernel_rfl)) ?_
           have hnb31 := NB202_192.out
           have hnc31 := NB192_202.out
           have hcz32_0 : w28.cell? ⟨gb202, 0, none⟩ = some (.int .i64 0) := (blk_cell BK202.out 0).trans rfl
           have hcz32_1 : w28.cell? ⟨gb202, 1, none⟩ = some (.int .i64 0) := (blk_cell BK202.out 1).trans rfl
           have hfz32_0 := blk_frozen BK202.out 0
           have hfz32_1 := blk_frozen BK202.out 1
           have hcz33_0 : w28.cell? ⟨gb192, 0, none⟩ = some (.int .i64 0) := (blk_cell BK192.out 0).trans rfl
           have hcz33_1 : w28.cell? ⟨gb192, 1, none⟩ = some (.int .i64 0) := (blk_cell BK192.out 1).trans rfl
           have hfz33_0 := blk_frozen BK192.out 0
           have hfz33_1 := blk_frozen BK192.out 1
           try go_wp2
           refine bodyPost_ret (results_ctt rfl _ _ gb192 28 #[.int .i64 t199, .int .i64 t200] (0, 0) _ rfl (by (with_reducible repeat (first | refine blk_drewN ?_ _ | refine blk_drew ?_ | refine blk_alloc ?_ _)); refine blk_put (cs := #[.int .i64 t199, .int .i64 0]) ?_ 1 _ rfl; (with_reducible repeat (first | refine blk_drewN ?_ _ | refine blk_drew ?_ | refine blk_alloc ?_ _)); refine blk_put (cs := #[.int .i64 0, .int .i64 0]) ?_ 0 _ rfl; (with_reducible repeat (first | refine blk_drewN ?_ _ | refine blk_drew ?_ | refine blk_alloc ?_ _)); refine blk_far ?_ NB192_202.out _; (with_reducible repeat (first | refine blk_drewN ?_ _ | refine blk_drew ?_ | refine blk_alloc ?_ _)); refine blk_far ?_ NB192_202.out _; (with_reducible repeat (first | refine blk_drewN ?_ _ | refine blk_drew ?_ | refine blk_alloc ?_ _)); exact BK192.out) Try.underlying28 rfl (by kernel_rfl)) rfl ?_
           exact ⟨by first | rfl | (simp [errW_none, errW_some] <;> rfl) | (simp only [← hji19]; first | rfl | (simp [errW_none, errW_some] <;> rfl)) | (simp [*, errW_none, errW_some] <;> rfl), (belS HB.out)⟩
          ·rw [if_neg c23] at H
           exact absurd H (by simp)
         ·rw [if_neg c22] at H
          exact absurd H (by simp)
        ·rw [if_neg c21] at H
         exact absurd H (by simp)
       ·rw [if_neg c20] at H
        exact absurd H (by simp)
 ·replace c4 := Bool.eq_false_iff.mpr c4
  subst c4
  have H1 : (some (0, 0, false, 1)) = some (r1, r2, r3, r4) := by rw [if_neg (show ¬ (false = true) by decide)] at H; exact H
  clear H
  have H := H1
  clear H1
  simp only [Option.some.injEq, Prod.mk.injEq] at H
  obtain ⟨rfl, rfl, rfl, rfl⟩ := H
  go_enter Try.func20, Try.ntmps20
  go_wp2_with (first | ((with_reducible refine gate_dst (N := 4) rfl ?_); (try (refine gate_guard (by rfl) ?_; dsimp only)); refine box_event ?hg (N := 4) ?hd (cs := #[.int .i64 0, .int .i64 0]) (t := 28) ?hr ?_; (case hd => rfl); (case hg => rfl); (case hr => first | (go_simp; done) | (go_simp; rfl)); intro gb192 hg w34 hbox hb; have n0_ := Aside0.mk (below_step (belN HB.out) hb); have n1_ := Aside0.mk (hbox); have n2_ := Aside0.mk (szB hg HB.out); have n3_ := Aside0.mk (szB hg HB.out); clear HB; have HB := n0_; have BK192 := n1_; have GW192 := n2_; have GE192 := n3_; clear n0_ n1_ n2_ n3_; clear hb hbox hg) | ((with_reducible refine gate_callee (f := 42) rfl ?_); refine goesL_ (some 11) rfl rfl Try.func42 (by kernel_rfl) rfl #[.slice A0 l0.length c0] rfl argN ?_; (with_reducible refine (down_Right.calls k _ _ l0 false _ ?side1 ?side2 A3.out).mono ?_); (case side1 => repeat (first | exact (Kd.C_below HR0.out HB.out) | (with_reducible refine Kd.C_alloc ?_ _) | (with_reducible refine Kd.C_drewN ?_ _) | (with_reducible refine Kd.C_drew ?_))); (case side2 => exact HC0.out); rintro e w35 ⟨rfl, hb⟩; refine ⟨_, rfl, ?_⟩; have n0_ := Aside0.mk (bkB BK192.out hb); have n1_ := Aside0.mk (below_step (belS HB.out) hb); clear BK192; clear HB; have BK192 := n0_; have HB := n1_; clear n0_ n1_; (try clear hb); (try clear hb2); (try clear hk); (try clear hi); have hcz36_0 : w35.cell? ⟨gb192, 0, none⟩ = some (.int .i64 0) := (blk_cell BK192.out 0).trans rfl; have hcz36_1 : w35.cell? ⟨gb192, 1, none⟩ = some (.int .i64 0) := (blk_cell BK192.out 1).trans rfl; have hfz36_0 := blk_frozen BK192.out 0; have hfz36_1 := blk_frozen BK192.out 1))
  refine bodyPost_ret (results_ctt rfl _ _ gb192 28 #[.int .i64 0, .int .i64 0] (0, 0) _ rfl (by (with_reducible repeat (first | refine blk_drewN ?_ _ | refine blk_drew ?_ | refine blk_alloc ?_ _)); refine blk_put (cs := #[.int .i64 0, .int .i64 0]) ?_ 1 _ rfl; (with_reducible repeat (first | refine blk_drewN ?_ _ | refine blk_drew ?_ | refine blk_alloc ?_ _)); refine blk_put (cs := #[.int .i64 0, .int .i64 0]) ?_ 0 _ rfl; (with_reducible repeat (first | refine blk_drewN ?_ _ | refine blk_drew ?_ | refine blk_alloc ?_ _)); exact BK192.out) Try.underlying28 rfl (by kernel_rfl)) rfl ?_
  exact ⟨by first | rfl | (simp [errW_none, errW_some] <;> rfl) | (simp [*, errW_none, errW_some] <;> rfl), (belS HB.out)⟩

/-! ### marigraphlaw22_known: function 17 -/
def marigraphlaw22_known.f (k : Nat)  : Option (Bool) := (lerp_At.f k (([(⟨0, (⟨0, 1⟩ : S28)⟩ : S30), (⟨10, (⟨5, 1⟩ : S28)⟩ : S30)] : List (S30))) 4).bind fun bt206 => ((lerp_At.f k ([] : List (S30)) 4).bind fun bt211 => (if bt206.2.2.1 = true then (if bt206.2.2.2 = 0 then (if (bt206.1 == 2 && (bt206.2.1 == 1)) = true then (if bt211.2.2.1 = true then (some false) else (some (bt211.2.2.2 == 0))) else (some false)) else (some false)) else (some false)))
theorem marigraphlaw22_known.mono : ∀ k, LeO (marigraphlaw22_known.f k ) (marigraphlaw22_known.f (k + 1) ) := by
 intro  k
 unfold marigraphlaw22_known.f
 repeat' first
   | (with_reducible exact lerp_At.mono _ _ _)
   | (with_reducible exact LeO.refl _)
   | (with_reducible exact LeO.none _)
   | (with_reducible refine LeO.ite ?_ ?_)
   | (with_reducible refine LeO.bind ?_ (fun _ => ?_))
   | exact lerp_At.mono _ _ _
   | exact LeO.none _
   | refine LeO.ite ?_ ?_
   | refine LeO.bind ?_ (fun _ => ?_)
set_option maxHeartbeats 8000000 in
set_option maxRecDepth 100000 in
theorem marigraphlaw22_known.calls (k : Nat)  (r : Bool) (w : World) (h : marigraphlaw22_known.f k  = some r) :
  Calls Try.prog 17 #[] w fun e w' => e = .returned (.bool r) ∧ Below w.heap.size w w' := by
 have hu28 := Try.underlying28
 have hu30 := Try.underlying30
 have HB := Aside0.mk (Below.refl w.heap.size w)
 have H : ((lerp_At.f k (([(⟨0, (⟨0, 1⟩ : S28)⟩ : S30), (⟨10, (⟨5, 1⟩ : S28)⟩ : S30)] : List (S30))) 4).bind fun bt206 => ((lerp_At.f k ([] : List (S30)) 4).bind fun bt211 => (if bt206.2.2.1 = true then (if bt206.2.2.2 = 0 then (if (bt206.1 == 2 && (bt206.2.1 == 1)) = true then (if bt211.2.2.1 = true then (some false) else (some (bt211.2.2.2 == 0))) else (some false)) else (some false)) else (some false)))) = some r := h
 clear h
 obtain ⟨y203, hy203⟩ : ∃ y_ : List (S30), y_ = (([(⟨0, (⟨0, 1⟩ : S28)⟩ : S30), (⟨10, (⟨5, 1⟩ : S28)⟩ : S30)] : List (S30))) := ⟨_, rfl⟩
 replace H : ((lerp_At.f k y203 4).bind fun bt206 => ((lerp_At.f k ([] : List (S30)) 4).bind fun bt211 => (if bt206.2.2.1 = true then (if bt206.2.2.2 = 0 then (if (bt206.1 == 2 && (bt206.2.1 == 1)) = true then (if bt211.2.2.1 = true then (some false) else (some (bt211.2.2.2 == 0))) else (some false)) else (some false)) else (some false)))) = some r := by first | (rw [hy203]; with_reducible exact H) | (have H2_ := (Option.bind_some _ _).symm.trans H; rw [hy203]; with_reducible exact H2_) | (have H2_ := (Option.bind_some _ _).symm.trans H; with_reducible exact H2_) | with_reducible exact H | (rw [hy203]; exact H) | exact H
 have Ny203 := Aside0.mk hy203
 clear hy203
 replace H := Option.bind_eq_some_iff.mp H
 obtain ⟨⟨t206, t207, t208, t209⟩, A10, H⟩ := H
 replace H : ((lerp_At.f k ([] : List (S30)) 4).bind fun bt211 => (if t208 = true then (if t209 = 0 then (if (t206 == 2 && (t207 == 1)) = true then (if bt211.2.2.1 = true then (some false) else (some (bt211.2.2.2 == 0))) else (some false)) else (some false)) else (some false))) = some r := H
 have A1 := Aside0.mk A10
 clear A10
 replace H := Option.bind_eq_some_iff.mp H
 obtain ⟨⟨t211, t212, t213, t214⟩, A20, H⟩ := H
 replace H : (if t208 = true then (if t209 = 0 then (if (t206 == 2 && (t207 == 1)) = true then (if t213 = true then (some false) else (some (t214 == 0))) else (some false)) else (some false)) else (some false)) = some r := H
 have A2 := Aside0.mk A20
 clear A20
 by_cases c3 : t208 = true
 ·subst c3
  have H1 : (if t209 = 0 then (if (t206 == 2 && (t207 == 1)) = true then (if t213 = true then (some false) else (some (t214 == 0))) else (some false)) else (some false)) = some r := by rw [if_pos rfl] at H; exact H
  clear H
  have H := H1
  clear H1
  by_cases c4 : t209 = 0
  ·rw [if_pos c4] at H
   have c4b0 : (t209 == 0) = true := beq_iff_eq.mpr c4
   have c4b1 : (t209 != 0) = false := bne_eq_false_iff_eq.mpr c4
   clear c4
   by_cases c5 : (t206 == 2 && (t207 == 1)) = true
   ·rw [if_pos c5] at H
    have c5b0 : (t206 == 2 && (t207 == 1)) = true := c5
    (try (have c5b1 : decide (t206 = 2 && (t207 == 1)) = true := by simpa using c5))
    (try (have c5b2 : (t206 == 2 && (t207 == 1)) = true := by simpa using c5))
    clear c5
    by_cases c6 : t213 = true
    ·subst c6
     have H1 : (some false) = some r := by rw [if_pos rfl] at H; exact H
     clear H
     have H := H1
     clear H1
     obtain rfl := Option.some.inj H
     go_enter Try.func17, Try.ntmps17
     go_wp2_with (first | ((with_reducible refine gate_dst (N := 12) rfl ?_); refine Kd.R_lit k30 _ 30 ?hg (N := 12) ?hd (xs := ([(⟨0, (⟨0, 1⟩ : S28)⟩ : S30), (⟨10, (⟨5, 1⟩ : S28)⟩ : S30)] : List (S30))) (inner := [.int .i64 0, .int .i64 0, .int .i64 1, .int .i64 10, .int .i64 5, .int .i64 1]) (ok := fun _ => True) (okp := fun _ => True) ?hr ?hp (fun _ hk => hk) trivial (Below.refl _ _) (Nat.le_refl _) (by simp) ?_; (case hd => rfl); (case hg => rfl); (case hr => first | (go_simp; done) | (go_simp; rfl)); (case hp => exact (Reps.c3 (show Kd.M k30 _ _ _ (⟨0, (⟨0, 1⟩ : S28)⟩ : S30) [.int .i64 0, .int .i64 0, .int .i64 1] from (k30_mkM _ _ _ (⟨0, (⟨0, 1⟩ : S28)⟩ : S30) )) (Reps.c3 (show Kd.M k30 _ _ _ (⟨10, (⟨5, 1⟩ : S28)⟩ : S30) [.int .i64 10, .int .i64 5, .int .i64 1] from (k30_mkM _ _ _ (⟨10, (⟨5, 1⟩ : S28)⟩ : S30) )) (Reps.none _ _)))); intro v204 w7 ho8 hb hg_ hnew_; clear hg_ hnew_; (first | rw [← Ny203.out] at ho8 | (simp only [Int.reduceToNat] at ho8; rw [← Ny203.out] at ho8)); have n0_ := Aside0.mk (Kd.R_lower ho8 (below_size (belN HB.out))); have n1_ := Aside0.mk (below_step (belN HB.out) hb); clear HB; have HO205 := n0_; have HB := n1_; clear n0_ n1_; clear hb ho8; obtain ⟨Ao9, co9, eo9⟩ := Kd.R_slice HO205.out; subst eo9) | ((with_reducible refine gate_callee (f := 20) rfl ?_); refine goesL_ (some 15) rfl rfl Try.func20 (by kernel_rfl) rfl #[.slice Ao9 y203.length co9, .int .i64 4] rfl argN ?_; (with_reducible refine (lerp_At.calls k _ _ y203 4 t206 t207 true t209 _ ?side1 ?side2 A1.out).mono ?_); (case side1 => repeat (first | exact (Kd.R_reads' HO205.out).2.2 | (with_reducible refine Kd.C_alloc ?_ _) | (with_reducible refine Kd.C_drewN ?_ _) | (with_reducible refine Kd.C_drew ?_))); (case side2 => exact (Kd.R_reads' HO205.out).2.1); rintro e w10 ⟨rfl, hb⟩; refine ⟨_, rfl, ?_⟩; have n0_ := Aside0.mk (Kd.R_below (rowN HO205.out) hb); have n1_ := Aside0.mk (below_step (belN HB.out) hb); clear HO205; clear HB; have HO205 := n0_; have HB := n1_; clear n0_ n1_; (try clear hb); (try clear hb2); (try clear hk); (try clear hi)) | ((with_reducible refine gate_dst (N := 2) rfl ?_); refine box_event ?hg (N := 2) ?hd (cs := #[.int .i64 0, .int .i64 0]) (t := 28) ?hr ?_; (case hd => rfl); (case hg => rfl); (case hr => first | (go_simp; done) | (go_simp; rfl)); intro gb210 hg w11 hbox hb; have n0_ := Aside0.mk (Kd.R_below (rowN HO205.out) hb); have n1_ := Aside0.mk (below_step (belN HB.out) hb); have n2_ := Aside0.mk (hbox); have n3_ := Aside0.mk (szB hg HB.out); have n4_ := Aside0.mk (szB hg HB.out); clear HO205; clear HB; have HO205 := n0_; have HB := n1_; have BK210 := n2_; have GW210 := n3_; have GE210 := n4_; clear n0_ n1_ n2_ n3_ n4_; clear hb hbox hg; have hcz12_0 : w11.cell? ⟨gb210, 0, none⟩ = some (.int .i64 0) := (blk_cell BK210.out 0).trans rfl; have hcz12_1 : w11.cell? ⟨gb210, 1, none⟩ = some (.int .i64 0) := (blk_cell BK210.out 1).trans rfl; have hfz12_0 := blk_frozen BK210.out 0; have hfz12_1 := blk_frozen BK210.out 1) | ((with_reducible refine gate_callee (f := 20) rfl ?_); refine goesL_ (some 20) rfl rfl Try.func20 (by kernel_rfl) rfl #[.slice none 0 0, .int .i64 4] rfl argN ?_; (refine (lerp_At.calls k _ _ ([] : List (S30)) 4 t211 t212 true t214 _ ?side1 ?side2 A2.out).mono ?_); (case side1 => exact Kd.C_nil _ _); (case side2 => exact Nat.le_refl _); rintro e w13 ⟨rfl, hb⟩; refine ⟨_, rfl, ?_⟩; have n0_ := Aside0.mk (Kd.R_below (by (with_reducible repeat (first | apply Kd.R_alloc | apply Kd.R_drewN | apply Kd.R_drew)); exact (Kd.R_mono (Kd.R_far (p := ⟨gb210, 1, none⟩) (Kd.R_far (p := ⟨gb210, 0, none⟩) (Kd.R_types HO205.out BK210.out (by decide)) (fun _ hk => hk.2) (.int .i64 t206)) (fun _ hk => hk.2) (.int .i64 t207)) (fun _ h_ => h_.1))) hb); have n1_ := Aside0.mk (blk_below (g := gb210) (o := .cells #[.int .i64 t206, .int .i64 t207] 28 (0, 0)) (by (with_reducible repeat (first | refine blk_drewN ?_ _ | refine blk_drew ?_ | refine blk_alloc ?_ _)); refine blk_put (cs := #[.int .i64 t206, .int .i64 0]) ?_ 1 _ rfl; (with_reducible repeat (first | refine blk_drewN ?_ _ | refine blk_drew ?_ | refine blk_alloc ?_ _)); refine blk_put (cs := #[.int .i64 0, .int .i64 0]) ?_ 0 _ rfl; (with_reducible repeat (first | refine blk_drewN ?_ _ | refine blk_drew ?_ | refine blk_alloc ?_ _)); exact BK210.out) hb); have n2_ := Aside0.mk (below_step (belS HB.out) hb); clear HO205; clear BK210; clear HB; have HO205 := n0_; have BK210 := n1_; have HB := n2_; clear n0_ n1_ n2_; (try clear hb); (try clear hb2); (try clear hk); (try clear hi)) | ((with_reducible refine gate_dst (N := 5) rfl ?_); refine box_event ?hg (N := 5) ?hd (cs := #[.int .i64 0, .int .i64 0]) (t := 28) ?hr ?_; (case hd => rfl); (case hg => rfl); (case hr => first | (go_simp; done) | (go_simp; rfl)); intro gb215 hg w14 hbox hb; have n0_ := Aside0.mk (Kd.R_below (rowN HO205.out) hb); have n1_ := Aside0.mk (bkB BK210.out hb); have n2_ := Aside0.mk (below_step (belS HB.out) hb); have n3_ := Aside0.mk (hbox); have n4_ := Aside0.mk (szB hg HB.out); have n5_ := Aside0.mk (szB hg HB.out); have n6_ := Aside0.mk ((bk1 hg BK210.out)); have n7_ := Aside0.mk ((bk2 hg BK210.out)); clear HO205; clear BK210; clear HB; have HO205 := n0_; have BK210 := n1_; have HB := n2_; have BK215 := n3_; have GW215 := n4_; have GE215 := n5_; have NB210_215 := n6_; have NB215_210 := n7_; clear n0_ n1_ n2_ n3_ n4_ n5_ n6_ n7_; clear hb hbox hg; have hnb15 := NB215_210.out; have hnc15 := NB210_215.out; have hcz16_0 : w14.cell? ⟨gb215, 0, none⟩ = some (.int .i64 0) := (blk_cell BK215.out 0).trans rfl; have hcz16_1 : w14.cell? ⟨gb215, 1, none⟩ = some (.int .i64 0) := (blk_cell BK215.out 1).trans rfl; have hfz16_0 := blk_frozen BK215.out 0; have hfz16_1 := blk_frozen BK215.out 1; have hcz17_0 : w14.cell? ⟨gb210, 0, none⟩ = some (.int .i64 t206) := (blk_cell BK210.out 0).trans rfl; have hcz17_1 : w14.cell? ⟨gb210, 1, none⟩ = some (.int .i64 t207) := (blk_cell BK210.out 1).trans rfl; have hfz17_0 := blk_frozen BK210.out 0; have hfz17_1 := blk_frozen BK210.out 1))
     go_ret
     exact ⟨by first | rfl | (simp [errW_none, errW_some] <;> rfl) | (simp [*, errW_none, errW_some] <;> rfl), (belS HB.out)⟩
    ·replace c6 := Bool.eq_false_iff.mpr c6
     subst c6
     have H1 : (some (t214 == 0)) = some r := by rw [if_neg (show ¬ (false = true) by decide)] at H; exact H
     clear H
     have H := H1
     clear H1
     obtain rfl := Option.some.inj H
     go_enter Try.func17, Try.ntmps17
     go_wp2_with (first | ((with_reducible refine gate_dst (N := 12) rfl ?_); refine Kd.R_lit k30 _ 30 ?hg (N := 12) ?hd (xs := ([(⟨0, (⟨0, 1⟩ : S28)⟩ : S30), (⟨10, (⟨5, 1⟩ : S28)⟩ : S30)] : List (S30))) (inner := [.int .i64 0, .int .i64 0, .int .i64 1, .int .i64 10, .int .i64 5, .int .i64 1]) (ok := fun _ => True) (okp := fun _ => True) ?hr ?hp (fun _ hk => hk) trivial (Below.refl _ _) (Nat.le_refl _) (by simp) ?_; (case hd => rfl); (case hg => rfl); (case hr => first | (go_simp; done) | (go_simp; rfl)); (case hp => exact (Reps.c3 (show Kd.M k30 _ _ _ (⟨0, (⟨0, 1⟩ : S28)⟩ : S30) [.int .i64 0, .int .i64 0, .int .i64 1] from (k30_mkM _ _ _ (⟨0, (⟨0, 1⟩ : S28)⟩ : S30) )) (Reps.c3 (show Kd.M k30 _ _ _ (⟨10, (⟨5, 1⟩ : S28)⟩ : S30) [.int .i64 10, .int .i64 5, .int .i64 1] from (k30_mkM _ _ _ (⟨10, (⟨5, 1⟩ : S28)⟩ : S30) )) (Reps.none _ _)))); intro v204 w18 ho19 hb hg_ hnew_; clear hg_ hnew_; (first | rw [← Ny203.out] at ho19 | (simp only [Int.reduceToNat] at ho19; rw [← Ny203.out] at ho19)); have n0_ := Aside0.mk (Kd.R_lower ho19 (below_size (belN HB.out))); have n1_ := Aside0.mk (below_step (belN HB.out) hb); clear HB; have HO205 := n0_; have HB := n1_; clear n0_ n1_; clear hb ho19; obtain ⟨Ao20, co20, eo20⟩ := Kd.R_slice HO205.out; subst eo20) | ((with_reducible refine gate_callee (f := 20) rfl ?_); refine goesL_ (some 15) rfl rfl Try.func20 (by kernel_rfl) rfl #[.slice Ao20 y203.length co20, .int .i64 4] rfl argN ?_; (with_reducible refine (lerp_At.calls k _ _ y203 4 t206 t207 true t209 _ ?side1 ?side2 A1.out).mono ?_); (case side1 => repeat (first | exact (Kd.R_reads' HO205.out).2.2 | (with_reducible refine Kd.C_alloc ?_ _) | (with_reducible refine Kd.C_drewN ?_ _) | (with_reducible refine Kd.C_drew ?_))); (case side2 => exact (Kd.R_reads' HO205.out).2.1); rintro e w21 ⟨rfl, hb⟩; refine ⟨_, rfl, ?_⟩; have n0_ := Aside0.mk (Kd.R_below (rowN HO205.out) hb); have n1_ := Aside0.mk (below_step (belN HB.out) hb); clear HO205; clear HB; have HO205 := n0_; have HB := n1_; clear n0_ n1_; (try clear hb); (try clear hb2); (try clear hk); (try clear hi)) | ((with_reducible refine gate_dst (N := 2) rfl ?_); refine box_event ?hg (N := 2) ?hd (cs := #[.int .i64 0, .int .i64 0]) (t := 28) ?hr ?_; (case hd => rfl); (case hg => rfl); (case hr => first | (go_simp; done) | (go_simp; rfl)); intro gb210 hg w22 hbox hb; have n0_ := Aside0.mk (Kd.R_below (rowN HO205.out) hb); have n1_ := Aside0.mk (below_step (belN HB.out) hb); have n2_ := Aside0.mk (hbox); have n3_ := Aside0.mk (szB hg HB.out); have n4_ := Aside0.mk (szB hg HB.out); clear HO205; clear HB; have HO205 := n0_; have HB := n1_; have BK210 := n2_; have GW210 := n3_; have GE210 := n4_; clear n0_ n1_ n2_ n3_ n4_; clear hb hbox hg; have hcz23_0 : w22.cell? ⟨gb210, 0, none⟩ = some (.int .i64 0) := (blk_cell BK210.out 0).trans rfl; have hcz23_1 : w22.cell? ⟨gb210, 1, none⟩ = some (.int .i64 0) := (blk_cell BK210.out 1).trans rfl; have hfz23_0 := blk_frozen BK210.out 0; have hfz23_1 := blk_frozen BK210.out 1) | ((with_reducible refine gate_callee (f := 20) rfl ?_); refine goesL_ (some 20) rfl rfl Try.func20 (by kernel_rfl) rfl #[.slice none 0 0, .int .i64 4] rfl argN ?_; (refine (lerp_At.calls k _ _ ([] : List (S30)) 4 t211 t212 false t214 _ ?side1 ?side2 A2.out).mono ?_); (case side1 => exact Kd.C_nil _ _); (case side2 => exact Nat.le_refl _); rintro e w24 ⟨rfl, hb⟩; refine ⟨_, rfl, ?_⟩; have n0_ := Aside0.mk (Kd.R_below (by (with_reducible repeat (first | apply Kd.R_alloc | apply Kd.R_drewN | apply Kd.R_drew)); exact (Kd.R_mono (Kd.R_far (p := ⟨gb210, 1, none⟩) (Kd.R_far (p := ⟨gb210, 0, none⟩) (Kd.R_types HO205.out BK210.out (by decide)) (fun _ hk => hk.2) (.int .i64 t206)) (fun _ hk => hk.2) (.int .i64 t207)) (fun _ h_ => h_.1))) hb); have n1_ := Aside0.mk (blk_below (g := gb210) (o := .cells #[.int .i64 t206, .int .i64 t207] 28 (0, 0)) (by (with_reducible repeat (first | refine blk_drewN ?_ _ | refine blk_drew ?_ | refine blk_alloc ?_ _)); refine blk_put (cs := #[.int .i64 t206, .int .i64 0]) ?_ 1 _ rfl; (with_reducible repeat (first | refine blk_drewN ?_ _ | refine blk_drew ?_ | refine blk_alloc ?_ _)); refine blk_put (cs := #[.int .i64 0, .int .i64 0]) ?_ 0 _ rfl; (with_reducible repeat (first | refine blk_drewN ?_ _ | refine blk_drew ?_ | refine blk_alloc ?_ _)); exact BK210.out) hb); have n2_ := Aside0.mk (below_step (belS HB.out) hb); clear HO205; clear BK210; clear HB; have HO205 := n0_; have BK210 := n1_; have HB := n2_; clear n0_ n1_ n2_; (try clear hb); (try clear hb2); (try clear hk); (try clear hi)) | ((with_reducible refine gate_dst (N := 5) rfl ?_); refine box_event ?hg (N := 5) ?hd (cs := #[.int .i64 0, .int .i64 0]) (t := 28) ?hr ?_; (case hd => rfl); (case hg => rfl); (case hr => first | (go_simp; done) | (go_simp; rfl)); intro gb215 hg w25 hbox hb; have n0_ := Aside0.mk (Kd.R_below (rowN HO205.out) hb); have n1_ := Aside0.mk (bkB BK210.out hb); have n2_ := Aside0.mk (below_step (belS HB.out) hb); have n3_ := Aside0.mk (hbox); have n4_ := Aside0.mk (szB hg HB.out); have n5_ := Aside0.mk (szB hg HB.out); have n6_ := Aside0.mk ((bk1 hg BK210.out)); have n7_ := Aside0.mk ((bk2 hg BK210.out)); clear HO205; clear BK210; clear HB; have HO205 := n0_; have BK210 := n1_; have HB := n2_; have BK215 := n3_; have GW215 := n4_; have GE215 := n5_; have NB210_215 := n6_; have NB215_210 := n7_; clear n0_ n1_ n2_ n3_ n4_ n5_ n6_ n7_; clear hb hbox hg; have hnb26 := NB215_210.out; have hnc26 := NB210_215.out; have hcz27_0 : w25.cell? ⟨gb215, 0, none⟩ = some (.int .i64 0) := (blk_cell BK215.out 0).trans rfl; have hcz27_1 : w25.cell? ⟨gb215, 1, none⟩ = some (.int .i64 0) := (blk_cell BK215.out 1).trans rfl; have hfz27_0 := blk_frozen BK215.out 0; have hfz27_1 := blk_frozen BK215.out 1; have hcz28_0 : w25.cell? ⟨gb210, 0, none⟩ = some (.int .i64 t206) := (blk_cell BK210.out 0).trans rfl; have hcz28_1 : w25.cell? ⟨gb210, 1, none⟩ = some (.int .i64 t207) := (blk_cell BK210.out 1).trans rfl; have hfz28_0 := blk_frozen BK210.out 0; have hfz28_1 := blk_frozen BK210.out 1))
     go_ret
     exact ⟨by first | rfl | (simp [errW_none, errW_some] <;> rfl) | (simp [*, errW_none, errW_some] <;> rfl), (belS HB.out)⟩
   ·rw [if_neg c5] at H
    have c5b0 : (t206 == 2 && (t207 == 1)) = false := by simpa using c5
    (try (have c5b1 : decide (t206 = 2 && (t207 == 1)) = false := by simpa using c5))
    (try (have c5b2 : (t206 == 2 && (t207 == 1)) = false := by simpa using c5))
    (try (have c5b3 : ¬ (t206 = 2 && (t207 == 1)) := by simpa using c5))
    clear c5
    obtain rfl := Option.some.inj H
    go_enter Try.func17, Try.ntmps17
    go_wp2_with (first | ((with_reducible refine gate_dst (N := 12) rfl ?_); refine Kd.R_lit k30 _ 30 ?hg (N := 12) ?hd (xs := ([(⟨0, (⟨0, 1⟩ : S28)⟩ : S30), (⟨10, (⟨5, 1⟩ : S28)⟩ : S30)] : List (S30))) (inner := [.int .i64 0, .int .i64 0, .int .i64 1, .int .i64 10, .int .i64 5, .int .i64 1]) (ok := fun _ => True) (okp := fun _ => True) ?hr ?hp (fun _ hk => hk) trivial (Below.refl _ _) (Nat.le_refl _) (by simp) ?_; (case hd => rfl); (case hg => rfl); (case hr => first | (go_simp; done) | (go_simp; rfl)); (case hp => exact (Reps.c3 (show Kd.M k30 _ _ _ (⟨0, (⟨0, 1⟩ : S28)⟩ : S30) [.int .i64 0, .int .i64 0, .int .i64 1] from (k30_mkM _ _ _ (⟨0, (⟨0, 1⟩ : S28)⟩ : S30) )) (Reps.c3 (show Kd.M k30 _ _ _ (⟨10, (⟨5, 1⟩ : S28)⟩ : S30) [.int .i64 10, .int .i64 5, .int .i64 1] from (k30_mkM _ _ _ (⟨10, (⟨5, 1⟩ : S28)⟩ : S30) )) (Reps.none _ _)))); intro v204 w29 ho30 hb hg_ hnew_; clear hg_ hnew_; (first | rw [← Ny203.out] at ho30 | (simp only [Int.reduceToNat] at ho30; rw [← Ny203.out] at ho30)); have n0_ := Aside0.mk (Kd.R_lower ho30 (below_size (belN HB.out))); have n1_ := Aside0.mk (below_step (belN HB.out) hb); clear HB; have HO205 := n0_; have HB := n1_; clear n0_ n1_; clear hb ho30; obtain ⟨Ao31, co31, eo31⟩ := Kd.R_slice HO205.out; subst eo31) | ((with_reducible refine gate_callee (f := 20) rfl ?_); refine goesL_ (some 15) rfl rfl Try.func20 (by kernel_rfl) rfl #[.slice Ao31 y203.length co31, .int .i64 4] rfl argN ?_; (with_reducible refine (lerp_At.calls k _ _ y203 4 t206 t207 true t209 _ ?side1 ?side2 A1.out).mono ?_); (case side1 => repeat (first | exact (Kd.R_reads' HO205.out).2.2 | (with_reducible refine Kd.C_alloc ?_ _) | (with_reducible refine Kd.C_drewN ?_ _) | (with_reducible refine Kd.C_drew ?_))); (case side2 => exact (Kd.R_reads' HO205.out).2.1); rintro e w32 ⟨rfl, hb⟩; refine ⟨_, rfl, ?_⟩; have n0_ := Aside0.mk (Kd.R_below (rowN HO205.out) hb); have n1_ := Aside0.mk (below_step (belN HB.out) hb); clear HO205; clear HB; have HO205 := n0_; have HB := n1_; clear n0_ n1_; (try clear hb); (try clear hb2); (try clear hk); (try clear hi)) | ((with_reducible refine gate_dst (N := 2) rfl ?_); refine box_event ?hg (N := 2) ?hd (cs := #[.int .i64 0, .int .i64 0]) (t := 28) ?hr ?_; (case hd => rfl); (case hg => rfl); (case hr => first | (go_simp; done) | (go_simp; rfl)); intro gb210 hg w33 hbox hb; have n0_ := Aside0.mk (Kd.R_below (rowN HO205.out) hb); have n1_ := Aside0.mk (below_step (belN HB.out) hb); have n2_ := Aside0.mk (hbox); have n3_ := Aside0.mk (szB hg HB.out); have n4_ := Aside0.mk (szB hg HB.out); clear HO205; clear HB; have HO205 := n0_; have HB := n1_; have BK210 := n2_; have GW210 := n3_; have GE210 := n4_; clear n0_ n1_ n2_ n3_ n4_; clear hb hbox hg; have hcz34_0 : w33.cell? ⟨gb210, 0, none⟩ = some (.int .i64 0) := (blk_cell BK210.out 0).trans rfl; have hcz34_1 : w33.cell? ⟨gb210, 1, none⟩ = some (.int .i64 0) := (blk_cell BK210.out 1).trans rfl; have hfz34_0 := blk_frozen BK210.out 0; have hfz34_1 := blk_frozen BK210.out 1) | ((with_reducible refine gate_callee (f := 20) rfl ?_); refine goesL_ (some 20) rfl rfl Try.func20 (by kernel_rfl) rfl #[.slice none 0 0, .int .i64 4] rfl argN ?_; (refine (lerp_At.calls k _ _ ([] : List (S30)) 4 t211 t212 t213 t214 _ ?side1 ?side2 A2.out).mono ?_); (case side1 => exact Kd.C_nil _ _); (case side2 => exact Nat.le_refl _); rintro e w35 ⟨rfl, hb⟩; refine ⟨_, rfl, ?_⟩; have n0_ := Aside0.mk (Kd.R_below (by (with_reducible repeat (first | apply Kd.R_alloc | apply Kd.R_drewN | apply Kd.R_drew)); exact (Kd.R_mono (Kd.R_far (p := ⟨gb210, 1, none⟩) (Kd.R_far (p := ⟨gb210, 0, none⟩) (Kd.R_types HO205.out BK210.out (by decide)) (fun _ hk => hk.2) (.int .i64 t206)) (fun _ hk => hk.2) (.int .i64 t207)) (fun _ h_ => h_.1))) hb); have n1_ := Aside0.mk (blk_below (g := gb210) (o := .cells #[.int .i64 t206, .int .i64 t207] 28 (0, 0)) (by (with_reducible repeat (first | refine blk_drewN ?_ _ | refine blk_drew ?_ | refine blk_alloc ?_ _)); refine blk_put (cs := #[.int .i64 t206, .int .i64 0]) ?_ 1 _ rfl; (with_reducible repeat (first | refine blk_drewN ?_ _ | refine blk_drew ?_ | refine blk_alloc ?_ _)); refine blk_put (cs := #[.int .i64 0, .int .i64 0]) ?_ 0 _ rfl; (with_reducible repeat (first | refine blk_drewN ?_ _ | refine blk_drew ?_ | refine blk_alloc ?_ _)); exact BK210.out) hb); have n2_ := Aside0.mk (below_step (belS HB.out) hb); clear HO205; clear BK210; clear HB; have HO205 := n0_; have BK210 := n1_; have HB := n2_; clear n0_ n1_ n2_; (try clear hb); (try clear hb2); (try clear hk); (try clear hi)) | ((with_reducible refine gate_dst (N := 5) rfl ?_); refine box_event ?hg (N := 5) ?hd (cs := #[.int .i64 0, .int .i64 0]) (t := 28) ?hr ?_; (case hd => rfl); (case hg => rfl); (case hr => first | (go_simp; done) | (go_simp; rfl)); intro gb215 hg w36 hbox hb; have n0_ := Aside0.mk (Kd.R_below (rowN HO205.out) hb); have n1_ := Aside0.mk (bkB BK210.out hb); have n2_ := Aside0.mk (below_step (belS HB.out) hb); have n3_ := Aside0.mk (hbox); have n4_ := Aside0.mk (szB hg HB.out); have n5_ := Aside0.mk (szB hg HB.out); have n6_ := Aside0.mk ((bk1 hg BK210.out)); have n7_ := Aside0.mk ((bk2 hg BK210.out)); clear HO205; clear BK210; clear HB; have HO205 := n0_; have BK210 := n1_; have HB := n2_; have BK215 := n3_; have GW215 := n4_; have GE215 := n5_; have NB210_215 := n6_; have NB215_210 := n7_; clear n0_ n1_ n2_ n3_ n4_ n5_ n6_ n7_; clear hb hbox hg; have hnb37 := NB215_210.out; have hnc37 := NB210_215.out; have hcz38_0 : w36.cell? ⟨gb215, 0, none⟩ = some (.int .i64 0) := (blk_cell BK215.out 0).trans rfl; have hcz38_1 : w36.cell? ⟨gb215, 1, none⟩ = some (.int .i64 0) := (blk_cell BK215.out 1).trans rfl; have hfz38_0 := blk_frozen BK215.out 0; have hfz38_1 := blk_frozen BK215.out 1; have hcz39_0 : w36.cell? ⟨gb210, 0, none⟩ = some (.int .i64 t206) := (blk_cell BK210.out 0).trans rfl; have hcz39_1 : w36.cell? ⟨gb210, 1, none⟩ = some (.int .i64 t207) := (blk_cell BK210.out 1).trans rfl; have hfz39_0 := blk_frozen BK210.out 0; have hfz39_1 := blk_frozen BK210.out 1))
    go_ret
    exact ⟨by first | rfl | (simp [errW_none, errW_some] <;> rfl) | (simp [*, errW_none, errW_some] <;> rfl), (belS HB.out)⟩
  ·rw [if_neg c4] at H
   have c4b0 : (t209 == 0) = false := beq_eq_false_iff_ne.mpr c4
   have c4b1 : (t209 != 0) = true := bne_iff_ne.mpr c4
   obtain rfl := Option.some.inj H
   go_enter Try.func17, Try.ntmps17
   go_wp2_with (first | ((with_reducible refine gate_dst (N := 12) rfl ?_); refine Kd.R_lit k30 _ 30 ?hg (N := 12) ?hd (xs := ([(⟨0, (⟨0, 1⟩ : S28)⟩ : S30), (⟨10, (⟨5, 1⟩ : S28)⟩ : S30)] : List (S30))) (inner := [.int .i64 0, .int .i64 0, .int .i64 1, .int .i64 10, .int .i64 5, .int .i64 1]) (ok := fun _ => True) (okp := fun _ => True) ?hr ?hp (fun _ hk => hk) trivial (Below.refl _ _) (Nat.le_refl _) (by simp) ?_; (case hd => rfl); (case hg => rfl); (case hr => first | (go_simp; done) | (go_simp; rfl)); (case hp => exact (Reps.c3 (show Kd.M k30 _ _ _ (⟨0, (⟨0, 1⟩ : S28)⟩ : S30) [.int .i64 0, .int .i64 0, .int .i64 1] from (k30_mkM _ _ _ (⟨0, (⟨0, 1⟩ : S28)⟩ : S30) )) (Reps.c3 (show Kd.M k30 _ _ _ (⟨10, (⟨5, 1⟩ : S28)⟩ : S30) [.int .i64 10, .int .i64 5, .int .i64 1] from (k30_mkM _ _ _ (⟨10, (⟨5, 1⟩ : S28)⟩ : S30) )) (Reps.none _ _)))); intro v204 w40 ho41 hb hg_ hnew_; clear hg_ hnew_; (first | rw [← Ny203.out] at ho41 | (simp only [Int.reduceToNat] at ho41; rw [← Ny203.out] at ho41)); have n0_ := Aside0.mk (Kd.R_lower ho41 (below_size (belN HB.out))); have n1_ := Aside0.mk (below_step (belN HB.out) hb); clear HB; have HO205 := n0_; have HB := n1_; clear n0_ n1_; clear hb ho41; obtain ⟨Ao42, co42, eo42⟩ := Kd.R_slice HO205.out; subst eo42) | ((with_reducible refine gate_callee (f := 20) rfl ?_); refine goesL_ (some 15) rfl rfl Try.func20 (by kernel_rfl) rfl #[.slice Ao42 y203.length co42, .int .i64 4] rfl argN ?_; (with_reducible refine (lerp_At.calls k _ _ y203 4 t206 t207 true t209 _ ?side1 ?side2 A1.out).mono ?_); (case side1 => repeat (first | exact (Kd.R_reads' HO205.out).2.2 | (with_reducible refine Kd.C_alloc ?_ _) | (with_reducible refine Kd.C_drewN ?_ _) | (with_reducible refine Kd.C_drew ?_))); (case side2 => exact (Kd.R_reads' HO205.out).2.1); rintro e w43 ⟨rfl, hb⟩; refine ⟨_, rfl, ?_⟩; have n0_ := Aside0.mk (Kd.R_below (rowN HO205.out) hb); have n1_ := Aside0.mk (below_step (belN HB.out) hb); clear HO205; clear HB; have HO205 := n0_; have HB := n1_; clear n0_ n1_; (try clear hb); (try clear hb2); (try clear hk); (try clear hi)) | ((with_reducible refine gate_dst (N := 2) rfl ?_); refine box_event ?hg (N := 2) ?hd (cs := #[.int .i64 0, .int .i64 0]) (t := 28) ?hr ?_; (case hd => rfl); (case hg => rfl); (case hr => first | (go_simp; done) | (go_simp; rfl)); intro gb210 hg w44 hbox hb; have n0_ := Aside0.mk (Kd.R_below (rowN HO205.out) hb); have n1_ := Aside0.mk (below_step (belN HB.out) hb); have n2_ := Aside0.mk (hbox); have n3_ := Aside0.mk (szB hg HB.out); have n4_ := Aside0.mk (szB hg HB.out); clear HO205; clear HB; have HO205 := n0_; have HB := n1_; have BK210 := n2_; have GW210 := n3_; have GE210 := n4_; clear n0_ n1_ n2_ n3_ n4_; clear hb hbox hg; have hcz45_0 : w44.cell? ⟨gb210, 0, none⟩ = some (.int .i64 0) := (blk_cell BK210.out 0).trans rfl; have hcz45_1 : w44.cell? ⟨gb210, 1, none⟩ = some (.int .i64 0) := (blk_cell BK210.out 1).trans rfl; have hfz45_0 := blk_frozen BK210.out 0; have hfz45_1 := blk_frozen BK210.out 1) | ((with_reducible refine gate_callee (f := 20) rfl ?_); refine goesL_ (some 20) rfl rfl Try.func20 (by kernel_rfl) rfl #[.slice none 0 0, .int .i64 4] rfl argN ?_; (refine (lerp_At.calls k _ _ ([] : List (S30)) 4 t211 t212 t213 t214 _ ?side1 ?side2 A2.out).mono ?_); (case side1 => exact Kd.C_nil _ _); (case side2 => exact Nat.le_refl _); rintro e w46 ⟨rfl, hb⟩; refine ⟨_, rfl, ?_⟩; have n0_ := Aside0.mk (Kd.R_below (by (with_reducible repeat (first | apply Kd.R_alloc | apply Kd.R_drewN | apply Kd.R_drew)); exact (Kd.R_mono (Kd.R_far (p := ⟨gb210, 1, none⟩) (Kd.R_far (p := ⟨gb210, 0, none⟩) (Kd.R_types HO205.out BK210.out (by decide)) (fun _ hk => hk.2) (.int .i64 t206)) (fun _ hk => hk.2) (.int .i64 t207)) (fun _ h_ => h_.1))) hb); have n1_ := Aside0.mk (blk_below (g := gb210) (o := .cells #[.int .i64 t206, .int .i64 t207] 28 (0, 0)) (by (with_reducible repeat (first | refine blk_drewN ?_ _ | refine blk_drew ?_ | refine blk_alloc ?_ _)); refine blk_put (cs := #[.int .i64 t206, .int .i64 0]) ?_ 1 _ rfl; (with_reducible repeat (first | refine blk_drewN ?_ _ | refine blk_drew ?_ | refine blk_alloc ?_ _)); refine blk_put (cs := #[.int .i64 0, .int .i64 0]) ?_ 0 _ rfl; (with_reducible repeat (first | refine blk_drewN ?_ _ | refine blk_drew ?_ | refine blk_alloc ?_ _)); exact BK210.out) hb); have n2_ := Aside0.mk (below_step (belS HB.out) hb); clear HO205; clear BK210; clear HB; have HO205 := n0_; have BK210 := n1_; have HB := n2_; clear n0_ n1_ n2_; (try clear hb); (try clear hb2); (try clear hk); (try clear hi)) | ((with_reducible refine gate_dst (N := 5) rfl ?_); refine box_event ?hg (N := 5) ?hd (cs := #[.int .i64 0, .int .i64 0]) (t := 28) ?hr ?_; (case hd => rfl); (case hg => rfl); (case hr => first | (go_simp; done) | (go_simp; rfl)); intro gb215 hg w47 hbox hb; have n0_ := Aside0.mk (Kd.R_below (rowN HO205.out) hb); have n1_ := Aside0.mk (bkB BK210.out hb); have n2_ := Aside0.mk (below_step (belS HB.out) hb); have n3_ := Aside0.mk (hbox); have n4_ := Aside0.mk (szB hg HB.out); have n5_ := Aside0.mk (szB hg HB.out); have n6_ := Aside0.mk ((bk1 hg BK210.out)); have n7_ := Aside0.mk ((bk2 hg BK210.out)); clear HO205; clear BK210; clear HB; have HO205 := n0_; have BK210 := n1_; have HB := n2_; have BK215 := n3_; have GW215 := n4_; have GE215 := n5_; have NB210_215 := n6_; have NB215_210 := n7_; clear n0_ n1_ n2_ n3_ n4_ n5_ n6_ n7_; clear hb hbox hg; have hnb48 := NB215_210.out; have hnc48 := NB210_215.out; have hcz49_0 : w47.cell? ⟨gb215, 0, none⟩ = some (.int .i64 0) := (blk_cell BK215.out 0).trans rfl; have hcz49_1 : w47.cell? ⟨gb215, 1, none⟩ = some (.int .i64 0) := (blk_cell BK215.out 1).trans rfl; have hfz49_0 := blk_frozen BK215.out 0; have hfz49_1 := blk_frozen BK215.out 1))
   go_ret
   exact ⟨by first | rfl | (simp [errW_none, errW_some] <;> rfl) | (simp [*, errW_none, errW_some] <;> rfl), (belS HB.out)⟩
 ·replace c3 := Bool.eq_false_iff.mpr c3
  subst c3
  have H1 : (some false) = some r := by rw [if_neg (show ¬ (false = true) by decide)] at H; exact H
  clear H
  have H := H1
  clear H1
  obtain rfl := Option.some.inj H
  go_enter Try.func17, Try.ntmps17
  go_wp2_with (first | ((with_reducible refine gate_dst (N := 12) rfl ?_); refine Kd.R_lit k30 _ 30 ?hg (N := 12) ?hd (xs := ([(⟨0, (⟨0, 1⟩ : S28)⟩ : S30), (⟨10, (⟨5, 1⟩ : S28)⟩ : S30)] : List (S30))) (inner := [.int .i64 0, .int .i64 0, .int .i64 1, .int .i64 10, .int .i64 5, .int .i64 1]) (ok := fun _ => True) (okp := fun _ => True) ?hr ?hp (fun _ hk => hk) trivial (Below.refl _ _) (Nat.le_refl _) (by simp) ?_; (case hd => rfl); (case hg => rfl); (case hr => first | (go_simp; done) | (go_simp; rfl)); (case hp => exact (Reps.c3 (show Kd.M k30 _ _ _ (⟨0, (⟨0, 1⟩ : S28)⟩ : S30) [.int .i64 0, .int .i64 0, .int .i64 1] from (k30_mkM _ _ _ (⟨0, (⟨0, 1⟩ : S28)⟩ : S30) )) (Reps.c3 (show Kd.M k30 _ _ _ (⟨10, (⟨5, 1⟩ : S28)⟩ : S30) [.int .i64 10, .int .i64 5, .int .i64 1] from (k30_mkM _ _ _ (⟨10, (⟨5, 1⟩ : S28)⟩ : S30) )) (Reps.none _ _)))); intro v204 w50 ho51 hb hg_ hnew_; clear hg_ hnew_; (first | rw [← Ny203.out] at ho51 | (simp only [Int.reduceToNat] at ho51; rw [← Ny203.out] at ho51)); have n0_ := Aside0.mk (Kd.R_lower ho51 (below_size (belN HB.out))); have n1_ := Aside0.mk (below_step (belN HB.out) hb); clear HB; have HO205 := n0_; have HB := n1_; clear n0_ n1_; clear hb ho51; obtain ⟨Ao52, co52, eo52⟩ := Kd.R_slice HO205.out; subst eo52) | ((with_reducible refine gate_callee (f := 20) rfl ?_); refine goesL_ (some 15) rfl rfl Try.func20 (by kernel_rfl) rfl #[.slice Ao52 y203.length co52, .int .i64 4] rfl argN ?_; (with_reducible refine (lerp_At.calls k _ _ y203 4 t206 t207 false t209 _ ?side1 ?side2 A1.out).mono ?_); (case side1 => repeat (first | exact (Kd.R_reads' HO205.out).2.2 | (with_reducible refine Kd.C_alloc ?_ _) | (with_reducible refine Kd.C_drewN ?_ _) | (with_reducible refine Kd.C_drew ?_))); (case side2 => exact (Kd.R_reads' HO205.out).2.1); rintro e w53 ⟨rfl, hb⟩; refine ⟨_, rfl, ?_⟩; have n0_ := Aside0.mk (Kd.R_below (rowN HO205.out) hb); have n1_ := Aside0.mk (below_step (belN HB.out) hb); clear HO205; clear HB; have HO205 := n0_; have HB := n1_; clear n0_ n1_; (try clear hb); (try clear hb2); (try clear hk); (try clear hi)) | ((with_reducible refine gate_dst (N := 2) rfl ?_); refine box_event ?hg (N := 2) ?hd (cs := #[.int .i64 0, .int .i64 0]) (t := 28) ?hr ?_; (case hd => rfl); (case hg => rfl); (case hr => first | (go_simp; done) | (go_simp; rfl)); intro gb210 hg w54 hbox hb; have n0_ := Aside0.mk (Kd.R_below (rowN HO205.out) hb); have n1_ := Aside0.mk (below_step (belN HB.out) hb); have n2_ := Aside0.mk (hbox); have n3_ := Aside0.mk (szB hg HB.out); have n4_ := Aside0.mk (szB hg HB.out); clear HO205; clear HB; have HO205 := n0_; have HB := n1_; have BK210 := n2_; have GW210 := n3_; have GE210 := n4_; clear n0_ n1_ n2_ n3_ n4_; clear hb hbox hg; have hcz55_0 : w54.cell? ⟨gb210, 0, none⟩ = some (.int .i64 0) := (blk_cell BK210.out 0).trans rfl; have hcz55_1 : w54.cell? ⟨gb210, 1, none⟩ = some (.int .i64 0) := (blk_cell BK210.out 1).trans rfl; have hfz55_0 := blk_frozen BK210.out 0; have hfz55_1 := blk_frozen BK210.out 1) | ((with_reducible refine gate_callee (f := 20) rfl ?_); refine goesL_ (some 20) rfl rfl Try.func20 (by kernel_rfl) rfl #[.slice none 0 0, .int .i64 4] rfl argN ?_; (refine (lerp_At.calls k _ _ ([] : List (S30)) 4 t211 t212 t213 t214 _ ?side1 ?side2 A2.out).mono ?_); (case side1 => exact Kd.C_nil _ _); (case side2 => exact Nat.le_refl _); rintro e w56 ⟨rfl, hb⟩; refine ⟨_, rfl, ?_⟩; have n0_ := Aside0.mk (Kd.R_below (by (with_reducible repeat (first | apply Kd.R_alloc | apply Kd.R_drewN | apply Kd.R_drew)); exact (Kd.R_mono (Kd.R_far (p := ⟨gb210, 1, none⟩) (Kd.R_far (p := ⟨gb210, 0, none⟩) (Kd.R_types HO205.out BK210.out (by decide)) (fun _ hk => hk.2) (.int .i64 t206)) (fun _ hk => hk.2) (.int .i64 t207)) (fun _ h_ => h_.1))) hb); have n1_ := Aside0.mk (blk_below (g := gb210) (o := .cells #[.int .i64 t206, .int .i64 t207] 28 (0, 0)) (by (with_reducible repeat (first | refine blk_drewN ?_ _ | refine blk_drew ?_ | refine blk_alloc ?_ _)); refine blk_put (cs := #[.int .i64 t206, .int .i64 0]) ?_ 1 _ rfl; (with_reducible repeat (first | refine blk_drewN ?_ _ | refine blk_drew ?_ | refine blk_alloc ?_ _)); refine blk_put (cs := #[.int .i64 0, .int .i64 0]) ?_ 0 _ rfl; (with_reducible repeat (first | refine blk_drewN ?_ _ | refine blk_drew ?_ | refine blk_alloc ?_ _)); exact BK210.out) hb); have n2_ := Aside0.mk (below_step (belS HB.out) hb); clear HO205; clear BK210; clear HB; have HO205 := n0_; have BK210 := n1_; have HB := n2_; clear n0_ n1_ n2_; (try clear hb); (try clear hb2); (try clear hk); (try clear hi)) | ((with_reducible refine gate_dst (N := 5) rfl ?_); refine box_event ?hg (N := 5) ?hd (cs := #[.int .i64 0, .int .i64 0]) (t := 28) ?hr ?_; (case hd => rfl); (case hg => rfl); (case hr => first | (go_simp; done) | (go_simp; rfl)); intro gb215 hg w57 hbox hb; have n0_ := Aside0.mk (Kd.R_below (rowN HO205.out) hb); have n1_ := Aside0.mk (bkB BK210.out hb); have n2_ := Aside0.mk (below_step (belS HB.out) hb); have n3_ := Aside0.mk (hbox); have n4_ := Aside0.mk (szB hg HB.out); have n5_ := Aside0.mk (szB hg HB.out); have n6_ := Aside0.mk ((bk1 hg BK210.out)); have n7_ := Aside0.mk ((bk2 hg BK210.out)); clear HO205; clear BK210; clear HB; have HO205 := n0_; have BK210 := n1_; have HB := n2_; have BK215 := n3_; have GW215 := n4_; have GE215 := n5_; have NB210_215 := n6_; have NB215_210 := n7_; clear n0_ n1_ n2_ n3_ n4_ n5_ n6_ n7_; clear hb hbox hg; have hnb58 := NB215_210.out; have hnc58 := NB210_215.out; have hcz59_0 : w57.cell? ⟨gb215, 0, none⟩ = some (.int .i64 0) := (blk_cell BK215.out 0).trans rfl; have hcz59_1 : w57.cell? ⟨gb215, 1, none⟩ = some (.int .i64 0) := (blk_cell BK215.out 1).trans rfl; have hfz59_0 := blk_frozen BK215.out 0; have hfz59_1 := blk_frozen BK215.out 1))
  go_ret
  exact ⟨by first | rfl | (simp [errW_none, errW_some] <;> rfl) | (simp [*, errW_none, errW_some] <;> rfl), (belS HB.out)⟩

end Go.Proofs.Ytdnialldicdnoaa.PLerpLines

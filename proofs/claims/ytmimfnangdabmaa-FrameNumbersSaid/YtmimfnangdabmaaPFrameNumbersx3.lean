/- The walk of the Go functions that a law reaches, told as plain functions; a program of this session has written it. No condition beyond the statement's own. -/
import Derived.Test.YtmimfnangdabmaaPFrameNumbersx0
import Derived.Test.YtmimfnangdabmaaPFrameNumbersx1
import Derived.Test.YtmimfnangdabmaaPFrameNumbersx2
namespace Go.Proofs.Ytmimfnangdabmaa.PFrameNumbers
open Go.RowKit Go.Proofs.YtmimfnangdabmaaW.PrintWords Go.Proofs.YtmimfnangdabmaaW.PrintLast Go.Proofs.YtmimfnangdabmaaW.PrintMore
attribute [local go_sem] max2_int min2_int max_two min_two max_three min_three max_four min_four   -- for this text's walks alone
set_option linter.unusedVariables false
set_option linter.unusedSimpArgs false

/-! ### marigraphref4_All: function 40 -/
mutual
def marigraphref4_All.l0 : Nat → List Int → List (List Int) → Int → Option ((List (List Int)) × Int × Bool)
 | 0, _, _, _ => none
 | k + 1, x0, x5, x6 => if (wrap64 ((x0.length : Int) - x6)) < 6 then (some (x5, x6, true)) else (if 0 ≤ x6 then (if x6 ≤ (x0.length : Int) then ((marigraphref2_Get.f k (x0.drop (x6 : Int).toNat) 3).bind fun bt157 => (if 0 ≤ (wrap64 (x6 + 3)) then (if (wrap64 (x6 + 3)) ≤ (x0.length : Int) then ((marigraphref2_Get.f k (x0.drop ((wrap64 (x6 + 3)) : Int).toNat) 3).bind fun bt160 => (if (IntKind.u64.wrap (bt157.1 + bt160.1)) = 16777215 then (marigraphref4_All.j1 k x0 x5 x6 bt157.1 (decide (bt157.1 > 1048576))) else (marigraphref4_All.j1 k x0 x5 x6 bt157.1 true))) else (none)) else (none))) else (none)) else (none))
def marigraphref4_All.j1 : Nat → List Int → List (List Int) → Int → Int → Bool → Option ((List (List Int)) × Int × Bool)
 | 0, _, _, _, _, _ => none
 | k + 1, x0, x5, x6, x7, x40 => if x40 = true then (some (x5, x6, false)) else (if (wrap64 ((wrap64 ((x0.length : Int) - x6)) - 6)) < (wrap64 (x7)) then (some (x5, x6, true)) else ((some (([] : List Int) : List Int)).bind fun y162 => (if 0 ≤ (wrap64 (x6 + 6)) then (if (wrap64 (x6 + 6)) ≤ (wrap64 ((wrap64 (x6 + 6)) + (wrap64 (x7)))) then (if (wrap64 ((wrap64 (x6 + 6)) + (wrap64 (x7)))) ≤ (x0.length : Int) then (if y162.length + ((x0.take ((wrap64 ((wrap64 (x6 + 6)) + (wrap64 (x7)))) : Int).toNat).drop ((wrap64 (x6 + 6)) : Int).toNat).length < 140737488355328 then (if x5.length < 5864062014805 then (marigraphref4_All.l0 k x0 (x5 ++ [(y162 ++ ((x0.take ((wrap64 ((wrap64 (x6 + 6)) + (wrap64 (x7)))) : Int).toNat).drop ((wrap64 (x6 + 6)) : Int).toNat))]) (wrap64 ((wrap64 (x6 + 6)) + (wrap64 (x7))))) else (none)) else (none)) else (none)) else (none)) else (none))))
end
def marigraphref4_All.f (k : Nat) (l0 : List Int) : Option ((List (List Int)) × Int × Bool) := marigraphref4_All.l0 k l0 ([] : List (List Int)) 0
theorem marigraphref4_All.mono_l : ∀ k, (∀ y0 y1 y2, LeO (marigraphref4_All.l0 k y0 y1 y2) (marigraphref4_All.l0 (k + 1) y0 y1 y2)) ∧ (∀ y0 y1 y2 y3 y4, LeO (marigraphref4_All.j1 k y0 y1 y2 y3 y4) (marigraphref4_All.j1 (k + 1) y0 y1 y2 y3 y4))
 | 0 => ⟨fun _ _ _ r h => by simp [marigraphref4_All.l0] at h, fun _ _ _ _ _ r h => by simp [marigraphref4_All.j1] at h⟩
 | k + 1 => by
  obtain ⟨ih0, ih1⟩ := marigraphref4_All.mono_l k
  refine ⟨?_, ?_⟩
  ·intro y0 y1 y2
   unfold marigraphref4_All.l0
   repeat' first
   | (with_reducible exact ih0 _ _ _)
   | (with_reducible exact ih1 _ _ _ _ _)
   | (with_reducible exact marigraphref2_Get.mono _ _ _)
   | (with_reducible exact LeO.refl _)
   | (with_reducible exact LeO.none _)
   | (with_reducible refine LeO.ite ?_ ?_)
   | (with_reducible refine LeO.bind ?_ (fun _ => ?_))
   | exact ih0 _ _ _
   | exact ih1 _ _ _ _ _
   | exact marigraphref2_Get.mono _ _ _
   | exact LeO.none _
   | refine LeO.ite ?_ ?_
   | refine LeO.bind ?_ (fun _ => ?_)
  ·intro y0 y1 y2 y3 y4
   unfold marigraphref4_All.j1
   repeat' first
   | (with_reducible exact ih0 _ _ _)
   | (with_reducible exact ih1 _ _ _ _ _)
   | (with_reducible exact marigraphref2_Get.mono _ _ _)
   | (with_reducible exact LeO.refl _)
   | (with_reducible exact LeO.none _)
   | (with_reducible refine LeO.ite ?_ ?_)
   | (with_reducible refine LeO.bind ?_ (fun _ => ?_))
   | exact ih0 _ _ _
   | exact ih1 _ _ _ _ _
   | exact marigraphref2_Get.mono _ _ _
   | exact LeO.none _
   | refine LeO.ite ?_ ?_
   | refine LeO.bind ?_ (fun _ => ?_)
theorem marigraphref4_All.mono : ∀ a0 k, LeO (marigraphref4_All.f k a0) (marigraphref4_All.f (k + 1) a0) := by
 intro a0 k
 obtain ⟨ih0, ih1⟩ := marigraphref4_All.mono_l k
 unfold marigraphref4_All.f
 repeat' first
   | (with_reducible exact ih0 _ _ _)
   | (with_reducible exact ih1 _ _ _ _ _)
   | (with_reducible exact marigraphref2_Get.mono _ _ _)
   | (with_reducible exact LeO.refl _)
   | (with_reducible exact LeO.none _)
   | (with_reducible refine LeO.ite ?_ ?_)
   | (with_reducible refine LeO.bind ?_ (fun _ => ?_))
   | exact ih0 _ _ _
   | exact ih1 _ _ _ _ _
   | exact marigraphref2_Get.mono _ _ _
   | exact LeO.none _
   | refine LeO.ite ?_ ?_
   | refine LeO.bind ?_ (fun _ => ?_)
set_option maxHeartbeats 8000000 in
set_option maxRecDepth 100000 in
theorem marigraphref4_All.calls (k : Nat) (A0 : Option Addr) (c0 : Nat) (l0 : List Int) (r1 : List (List Int)) (r2 : Int) (r3 : Bool) (w : World) (hr0 : Kd.C (Kd.int .u8) w A0 l0.length l0) (hc0 : l0.length ≤ c0) (h : marigraphref4_All.f k l0 = some (r1, r2, r3)) :
  Calls Try.prog 40 #[.slice A0 l0.length c0] w fun e w' => ∃ v0_ : Value, e = .returned (.tuple #[v0_, .int .i64 r2, .bool r3]) ∧ Kd.S (Kd.slice 5 (Kd.int .u8)) 23 w' w.heap.size (fun _ => True) v0_ r1 ∧ Below w.heap.size w w' := by
 have HR0 := Aside0.mk hr0
 have HC0 := Aside0.mk hc0
 clear hr0 hc0
 have HB := Aside0.mk (Below.refl w.heap.size w)
 have H : (marigraphref4_All.l0 k l0 ([] : List (List Int)) 0) = some (r1, r2, r3) := h
 clear h
 have H' := Aside0.mk H
 clear H
 go_enter Try.func40, Try.ntmps40
 go_wp2
 go_loopg [5, 6] k (fun kq v5 v6 w' => ∃ (x5_1 : List (List Int)) (x6_1 : Int), v6 = .int .i64 x6_1 ∧ Aside0 (marigraphref4_All.l0 kq l0 x5_1 x6_1 = some (r1, r2, r3)) ∧ Aside0 (kq ≤ k) ∧ Aside0 (Kd.S (Kd.slice 5 (Kd.int .u8)) 23 w' w.heap.size (fun _ => True) v5 x5_1) ∧ Aside0 (Below w.heap.size w w'))
 case atStart => exact ⟨(([] : List (List Int))), (0), (by first | rfl | (simp; done) | (simp [*]; done)), H', ⟨Nat.le_refl _⟩, ⟨by first | exact Kd.S_nil _ _ _ _ _ | exact Kd.N_nil _ _ _ _ _ | exact Kd.V_nil _ _ _ _ _ | exact Kd.Q_nil _ _ _ _ _ | exact Kd.R_nil _ _ _ _ _⟩, ⟨(belN HB.out)⟩⟩
 case round =>
  clear H'
  obtain ⟨x5_1, x6_1, rfl, HA, HK1, HO_5, HB⟩ := hrel
  cases gk with
  | zero => exact absurd HA.out (by simp [marigraphref4_All.l0])
  | succ k1 =>
   have H := HA.out
   clear HA
   simp only [marigraphref4_All.l0] at H
   by_cases c2 : (wrap64 ((l0.length : Int) - x6_1)) < 6
   ·rw [if_pos c2] at H
    have c2b0 : decide ((wrap64 ((l0.length : Int) - x6_1)) < 6) = true := decide_eq_true c2
    clear c2
    simp only [Option.some.injEq, Prod.mk.injEq] at H
    obtain ⟨rfl, rfl, rfl⟩ := H
    go_wp2
    go_ret3
    exact ⟨_, by first | rfl | (simp [errW_none, errW_some] <;> rfl) | (simp [*, errW_none, errW_some] <;> rfl), by (with_reducible repeat (first | apply Kd.S_alloc | apply Kd.S_drewN | apply Kd.S_drew)); exact HO_5.out, (belN HB.out)⟩
   ·rw [if_neg c2] at H
    have c2b0 : decide ((wrap64 ((l0.length : Int) - x6_1)) < 6) = false := decide_eq_false c2
    clear c2
    by_cases c3 : 0 ≤ x6_1
    ·rw [if_pos c3] at H
     have c3b0 := eq_true c3
     have c3b1 : decide (0 ≤ x6_1) = true := decide_eq_true c3
     clear c3
     by_cases c4 : x6_1 ≤ (l0.length : Int)
     ·rw [if_pos c4] at H
      have c4b0 := eq_true c4
      have c4b1 : decide (x6_1 ≤ (l0.length : Int)) = true := decide_eq_true c4
      clear c4
      replace H := Option.bind_eq_some_iff.mp H
      obtain ⟨⟨t157, t158⟩, A50, H⟩ := H
      replace H : (if 0 ≤ (wrap64 (x6_1 + 3)) then (if (wrap64 (x6_1 + 3)) ≤ (l0.length : Int) then ((marigraphref2_Get.f k1 (l0.drop ((wrap64 (x6_1 + 3)) : Int).toNat) 3).bind fun bt160 => (if (IntKind.u64.wrap (t157 + bt160.1)) = 16777215 then (marigraphref4_All.j1 k1 l0 x5_1 x6_1 t157 (decide (t157 > 1048576))) else (marigraphref4_All.j1 k1 l0 x5_1 x6_1 t157 true))) else (none)) else (none)) = some (r1, r2, r3) := H
      have A5 := Aside0.mk A50
      clear A50
      obtain ⟨ji6, hji6⟩ : ∃ j_ : Int, (wrap64 (x6_1 + 3)) = j_ := ⟨_, rfl⟩
      replace H : (if 0 ≤ (ji6) then (if (ji6) ≤ (l0.length : Int) then ((marigraphref2_Get.f k1 (l0.drop ((ji6) : Int).toNat) 3).bind fun bt160 => (if (IntKind.u64.wrap (t157 + bt160.1)) = 16777215 then (marigraphref4_All.j1 k1 l0 x5_1 x6_1 t157 (decide (t157 > 1048576))) else (marigraphref4_All.j1 k1 l0 x5_1 x6_1 t157 true))) else (none)) else (none)) = some (r1, r2, r3) := by first | (rw [hji6] at H; exact H) | (simp only [hji6] at H ⊢; exact H)
      (try rw [hji6] at A5)
      have hji6w : (IntKind.i64.wrap (x6_1 + 3)) = ji6 := (i64_w _).trans hji6
      by_cases c7 : 0 ≤ (ji6)
      ·rw [if_pos c7] at H
       have c7b0 := eq_true c7
       have c7b1 : decide (0 ≤ (ji6)) = true := decide_eq_true c7
       clear c7
       by_cases c8 : (ji6) ≤ (l0.length : Int)
       ·rw [if_pos c8] at H
        have c8b0 := eq_true c8
        have c8b1 : decide ((ji6) ≤ (l0.length : Int)) = true := decide_eq_true c8
        clear c8
        replace H := Option.bind_eq_some_iff.mp H
        obtain ⟨⟨t160, t161⟩, A90, H⟩ := H
        replace H : (if (IntKind.u64.wrap (t157 + t160)) = 16777215 then (marigraphref4_All.j1 k1 l0 x5_1 x6_1 t157 (decide (t157 > 1048576))) else (marigraphref4_All.j1 k1 l0 x5_1 x6_1 t157 true)) = some (r1, r2, r3) := H
        have A9 := Aside0.mk A90
        clear A90
        have HC10 := Aside0.mk H
        clear H
        obtain ⟨i011, hi011, _, hsz11, _⟩ := info_parts info5
        obtain ⟨A11, hcut11, hA11, hC11⟩ := print_drop_of (P := Try.prog) (Value.int .u8) 0 23 5 .i64 Try.underlying23 hi011 hsz11 A0 c0 l0 x6_1 (of_decide_eq_true (by first | (with_reducible assumption) | assumption)) (of_decide_eq_true (by first | (with_reducible assumption) | assumption)) HC0.out
        have HR156 := Aside0.mk (Kd.C_of_reads (h1 := fun _ => rfl) (hA11 _ (Kd.reads_of_C HR0.out)))
        have HC156 := Aside0.mk hC11
        clear hA11 hC11 hi011 hsz11
        go_upto_region 7 with (first | ((with_reducible refine gate_callee (f := 58) rfl ?_); refine goesL_ (some 22) rfl rfl Try.func58 (by kernel_rfl) rfl #[.slice A11 (l0.drop (x6_1 : Int).toNat).length (c0 - x6_1.toNat), .int .i64 3] rfl (by (try simp only [List.map_toArray, List.map_cons, List.map_nil]); first | done | (rw [show (l0.drop (x6_1 : Int).toNat).length = (l0.length - x6_1.toNat) from List.length_drop] <;> rfl) | rfl | (simp only [List.length_drop, List.length_take]; rfl)) ?_; (with_reducible refine (marigraphref2_Get.calls k1 _ _ (l0.drop (x6_1 : Int).toNat) 3 t157 t158 _ ?side1 ?side2 A5.out).mono ?_); (case side1 => repeat (first | exact (Kd.C_below HR156.out HB.out) | (with_reducible refine Kd.C_alloc ?_ _) | (with_reducible refine Kd.C_drewN ?_ _) | (with_reducible refine Kd.C_drew ?_))); (case side2 => exact HC156.out); rintro e w' ⟨rfl, ⟨nd, rfl⟩⟩; refine ⟨_, rfl, ?_⟩; obtain ⟨i012, hi012, _, hsz12, _⟩ := info_parts info5; obtain ⟨A12, hcut12, hA12, hC12⟩ := print_drop_of (P := Try.prog) (Value.int .u8) 0 23 5 .i64 Try.underlying23 hi012 hsz12 A0 c0 l0 (ji6) (of_decide_eq_true (by first | (with_reducible assumption) | assumption)) (of_decide_eq_true (by first | (with_reducible assumption) | assumption)) HC0.out; have HR159 := Aside0.mk (Kd.C_of_reads (h1 := fun _ => rfl) (hA12 _ (Kd.reads_of_C HR0.out))); have HC159 := Aside0.mk hC12; clear hA12 hC12 hi012 hsz12) | ((with_reducible refine gate_callee (f := 58) rfl ?_); refine goesL_ (some 30) rfl rfl Try.func58 (by kernel_rfl) rfl #[.slice A12 (l0.drop ((ji6) : Int).toNat).length (c0 - (ji6).toNat), .int .i64 3] rfl (by (try simp only [List.map_toArray, List.map_cons, List.map_nil]); first | done | (rw [show (l0.drop ((ji6) : Int).toNat).length = (l0.length - (ji6).toNat) from List.length_drop] <;> rfl) | (simp only [hji6]; rfl) | rfl | (simp only [List.length_drop, List.length_take]; rfl)) ?_; (with_reducible refine (marigraphref2_Get.calls k1 _ _ (l0.drop ((ji6) : Int).toNat) 3 t160 t161 _ ?side1 ?side2 A9.out).mono ?_); (case side1 => repeat (first | exact (Kd.C_below HR159.out (belN HB.out)) | (with_reducible refine Kd.C_alloc ?_ _) | (with_reducible refine Kd.C_drewN ?_ _) | (with_reducible refine Kd.C_drew ?_))); (case side2 => exact HC159.out); rintro e w' ⟨rfl, ⟨nd, rfl⟩⟩; refine ⟨_, rfl, ?_⟩))
        (try simp only [Act.put, List.setIfInBounds_toArray, List.set_cons_zero, List.set_cons_succ])
        go_cut [40] (fun v40 wc => ∃ (kq : Nat) (x40_9 : Bool), v40 = .bool x40_9 ∧ Aside0 (marigraphref4_All.j1 kq l0 x5_1 x6_1 t157 x40_9 = some (r1, r2, r3)) ∧ Aside0 (kq ≤ k1) ∧ Aside0 (Kd.S (Kd.slice 5 (Kd.int .u8)) 23 wc w.heap.size (fun _ => True) u5 x5_1) ∧ Aside0 (Below w.heap.size w wc))
        case first =>
         have H := HC10.out
         clear HC10
         by_cases c13 : (IntKind.u64.wrap (t157 + t160)) = 16777215
         ·rw [if_pos c13] at H
          have c13b0 : ((IntKind.u64.wrap (t157 + t160)) == 16777215) = true := beq_iff_eq.mpr c13
          have c13b1 : ((IntKind.u64.wrap (t157 + t160)) != 16777215) = false := bne_eq_false_iff_eq.mpr c13
          clear c13
          (first | rw [c13b0] | rw [c13b1] | (simp only [i64_w, i32_w]; rw [c13b0]) | skip)
          have H' := Aside0.mk H
          clear H
          go_wp2
          go_meet
          case rel => exact ⟨_, (decide (t157 > 1048576)), (by first | rfl | (simp; done) | (simp [*]; done)), H', ⟨by have := HK1.out; first | omega | exact Nat.le_refl _⟩, ⟨by (with_reducible repeat (first | apply Kd.S_alloc | apply Kd.S_drewN | apply Kd.S_drew)); exact HO_5.out⟩, ⟨(belN HB.out)⟩⟩
         ·rw [if_neg c13] at H
          have c13b0 : ((IntKind.u64.wrap (t157 + t160)) == 16777215) = false := beq_eq_false_iff_ne.mpr c13
          have c13b1 : ((IntKind.u64.wrap (t157 + t160)) != 16777215) = true := bne_iff_ne.mpr c13
          (first | rw [c13b0] | rw [c13b1] | (simp only [i64_w, i32_w]; rw [c13b0]) | skip)
          have H' := Aside0.mk H
          clear H
          go_wp2
          go_meet
          case rel => exact ⟨_, (true), (by first | rfl | (simp; done) | (simp [*]; done)), H', ⟨by have := HK1.out; first | omega | exact Nat.le_refl _⟩, ⟨by (with_reducible repeat (first | apply Kd.S_alloc | apply Kd.S_drewN | apply Kd.S_drew)); exact HO_5.out⟩, ⟨(belN HB.out)⟩⟩
        case rest =>
         clear HC10
         try clear c1
         try clear c2
         try clear c2b0
         try clear p2
         try clear c3
         try clear c3b0
         try clear c3b1
         try clear c4
         try clear c4b0
         try clear c4b1
         try clear c5
         try clear p6
         try clear c7
         try clear c7b0
         try clear c7b1
         try clear c8
         try clear c8b0
         try clear c8b1
         try clear c13
         try clear c13b0
         try clear c13b1
         obtain ⟨kq, x40_9, rfl, HA, HJ9, HO_5, HB⟩ := hcut
         cases kq with
         | zero => exact absurd HA.out (by simp [marigraphref4_All.j1])
         | succ kj9 =>
          have H := HA.out
          clear HA
          simp only [marigraphref4_All.j1] at H
          by_cases c14 : x40_9 = true
          ·subst c14
           have H1 : (some (x5_1, x6_1, false)) = some (r1, r2, r3) := by rw [if_pos rfl] at H; exact H
           clear H
           have H := H1
           clear H1
           simp only [Option.some.injEq, Prod.mk.injEq] at H
           obtain ⟨rfl, rfl, rfl⟩ := H
           go_wp2
           go_ret3
           exact ⟨_, by first | rfl | (simp [errW_none, errW_some] <;> rfl) | (simp only [← hji6]; first | rfl | (simp [errW_none, errW_some] <;> rfl)) | (simp [*, errW_none, errW_some] <;> rfl), by (with_reducible repeat (first | apply Kd.S_alloc | apply Kd.S_drewN | apply Kd.S_drew)); exact HO_5.out, (belN HB.out)⟩
          ·replace c14 := Bool.eq_false_iff.mpr c14
           subst c14
           have H1 : (if (wrap64 ((wrap64 ((l0.length : Int) - x6_1)) - 6)) < (wrap64 (t157)) then (some (x5_1, x6_1, true)) else ((some (([] : List Int) : List Int)).bind fun y162 => (if 0 ≤ (wrap64 (x6_1 + 6)) then (if (wrap64 (x6_1 + 6)) ≤ (wrap64 ((wrap64 (x6_1 + 6)) + (wrap64 (t157)))) then (if (wrap64 ((wrap64 (x6_1 + 6)) + (wrap64 (t157)))) ≤ (l0.length : Int) then (if y162.length + ((l0.take ((wrap64 ((wrap64 (x6_1 + 6)) + (wrap64 (t157)))) : Int).toNat).drop ((wrap64 (x6_1 + 6)) : Int).toNat).length < 140737488355328 then (if x5_1.length < 5864062014805 then (marigraphref4_All.l0 kj9 l0 (x5_1 ++ [(y162 ++ ((l0.take ((wrap64 ((wrap64 (x6_1 + 6)) + (wrap64 (t157)))) : Int).toNat).drop ((wrap64 (x6_1 + 6)) : Int).toNat))]) (wrap64 ((wrap64 (x6_1 + 6)) + (wrap64 (t157))))) else (none)) else (none)) else (none)) else (none)) else (none)))) = some (r1, r2, r3) := by rw [if_neg (show ¬ (false = true) by decide)] at H; exact H
           clear H
           have H := H1
           clear H1
           by_cases c15 : (wrap64 ((wrap64 ((l0.length : Int) - x6_1)) - 6)) < (wrap64 (t157))
           ·rw [if_pos c15] at H
            have c15b0 : decide ((wrap64 ((wrap64 ((l0.length : Int) - x6_1)) - 6)) < (wrap64 (t157))) = true := decide_eq_true c15
            clear c15
            simp only [Option.some.injEq, Prod.mk.injEq] at H
            obtain ⟨rfl, rfl, rfl⟩ := H
            go_wp2
            go_ret3
            exact ⟨_, by first | rfl | (simp [errW_none, errW_some] <;> rfl) | (simp only [← hji6]; first | rfl | (simp [errW_none, errW_some] <;> rfl)) | (simp [*, errW_none, errW_some] <;> rfl), by (with_reducible repeat (first | apply Kd.S_alloc | apply Kd.S_drewN | apply Kd.S_drew)); exact HO_5.out, (belN HB.out)⟩
           ·rw [if_neg c15] at H
            have c15b0 : decide ((wrap64 ((wrap64 ((l0.length : Int) - x6_1)) - 6)) < (wrap64 (t157))) = false := decide_eq_false c15
            clear c15
            obtain ⟨y162, hy162⟩ : ∃ y_ : List Int, y_ = (([] : List Int)) := ⟨_, rfl⟩
            replace H : (if 0 ≤ (wrap64 (x6_1 + 6)) then (if (wrap64 (x6_1 + 6)) ≤ (wrap64 ((wrap64 (x6_1 + 6)) + (wrap64 (t157)))) then (if (wrap64 ((wrap64 (x6_1 + 6)) + (wrap64 (t157)))) ≤ (l0.length : Int) then (if y162.length + ((l0.take ((wrap64 ((wrap64 (x6_1 + 6)) + (wrap64 (t157)))) : Int).toNat).drop ((wrap64 (x6_1 + 6)) : Int).toNat).length < 140737488355328 then (if x5_1.length < 5864062014805 then (marigraphref4_All.l0 kj9 l0 (x5_1 ++ [(y162 ++ ((l0.take ((wrap64 ((wrap64 (x6_1 + 6)) + (wrap64 (t157)))) : Int).toNat).drop ((wrap64 (x6_1 + 6)) : Int).toNat))]) (wrap64 ((wrap64 (x6_1 + 6)) + (wrap64 (t157))))) else (none)) else (none)) else (none)) else (none)) else (none)) = some (r1, r2, r3) := by first | (rw [hy162]; with_reducible exact H) | (have H2_ := (Option.bind_some _ _).symm.trans H; rw [hy162]; with_reducible exact H2_) | (have H2_ := (Option.bind_some _ _).symm.trans H; with_reducible exact H2_) | with_reducible exact H | (rw [hy162]; exact H) | exact H
            have Ny162 := Aside0.mk hy162
            clear hy162
            obtain ⟨ji16, hji16⟩ : ∃ j_ : Int, (wrap64 (x6_1 + 6)) = j_ := ⟨_, rfl⟩
            replace H : (if 0 ≤ (ji16) then (if (ji16) ≤ (wrap64 ((ji16) + (wrap64 (t157)))) then (if (wrap64 ((ji16) + (wrap64 (t157)))) ≤ (l0.length : Int) then (if y162.length + ((l0.take ((wrap64 ((ji16) + (wrap64 (t157)))) : Int).toNat).drop ((ji16) : Int).toNat).length < 140737488355328 then (if x5_1.length < 5864062014805 then (marigraphref4_All.l0 kj9 l0 (x5_1 ++ [(y162 ++ ((l0.take ((wrap64 ((ji16) + (wrap64 (t157)))) : Int).toNat).drop ((ji16) : Int).toNat))]) (wrap64 ((ji16) + (wrap64 (t157))))) else (none)) else (none)) else (none)) else (none)) else (none)) = some (r1, r2, r3) := by first | (rw [hji16] at H; exact H) | (simp only [hji16] at H ⊢; exact H)
            have hji16w : (IntKind.i64.wrap (x6_1 + 6)) = ji16 := (i64_w _).trans hji16
            by_cases c17 : 0 ≤ (ji16)
            ·rw [if_pos c17] at H
             have c17b0 := eq_true c17
             have c17b1 : decide (0 ≤ (ji16)) = true := decide_eq_true c17
             clear c17
             by_cases c18 : (ji16) ≤ (wrap64 ((ji16) + (wrap64 (t157))))
             ·rw [if_pos c18] at H
              have c18b0 := eq_true c18
              have c18b1 : decide ((ji16) ≤ (wrap64 ((ji16) + (wrap64 (t157))))) = true := decide_eq_true c18
              by_cases c19 : (wrap64 ((ji16) + (wrap64 (t157)))) ≤ (l0.length : Int)
              ·rw [if_pos c19] at H
               have c19b0 := eq_true c19
               have c19b1 : decide ((wrap64 ((ji16) + (wrap64 (t157)))) ≤ (l0.length : Int)) = true := decide_eq_true c19
               by_cases c20 : y162.length + ((l0.take ((wrap64 ((ji16) + (wrap64 (t157)))) : Int).toNat).drop ((ji16) : Int).toNat).length < 140737488355328
               ·rw [if_pos c20] at H
                have LMc20 := Aside0.mk c20
                clear c20
                obtain ⟨y166, hy166⟩ : ∃ y_ : List Int, y_ = (y162 ++ ((l0.take ((wrap64 ((ji16) + (wrap64 (t157)))) : Int).toNat).drop ((ji16) : Int).toNat)) := ⟨_, rfl⟩
                replace H : (if x5_1.length < 5864062014805 then (marigraphref4_All.l0 kj9 l0 (x5_1 ++ [y166]) (wrap64 ((ji16) + (wrap64 (t157))))) else (none)) = some (r1, r2, r3) := by first | (rw [hy166]; with_reducible exact H) | (have H2_ := (Option.bind_some _ _).symm.trans H; rw [hy166]; with_reducible exact H2_) | (have H2_ := (Option.bind_some _ _).symm.trans H; with_reducible exact H2_) | with_reducible exact H | (rw [hy166]; exact H) | exact H
                have Ny166 := Aside0.mk hy166
                clear hy166
                by_cases c21 : x5_1.length < 5864062014805
                ·rw [if_pos c21] at H
                 have LMc21 := Aside0.mk c21
                 clear c21
                 obtain ⟨y169, hy169⟩ : ∃ y_ : List (List Int), y_ = (x5_1 ++ [y166]) := ⟨_, rfl⟩
                 replace H : (marigraphref4_All.l0 kj9 l0 y169 (wrap64 ((ji16) + (wrap64 (t157))))) = some (r1, r2, r3) := by first | (rw [hy169]; with_reducible exact H) | (have H2_ := (Option.bind_some _ _).symm.trans H; rw [hy169]; with_reducible exact H2_) | (have H2_ := (Option.bind_some _ _).symm.trans H; with_reducible exact H2_) | with_reducible exact H | (rw [hy169]; exact H) | exact H
                 have Ny169 := Aside0.mk hy169
                 clear hy169
                 have H' := Aside0.mk H
                 clear H
                 go_wp2_with (first | ((with_reducible refine gate_dst (N := 54) rfl ?_); refine Kd.R_lit (Kd.int .u8) _ 5 ?hg (N := 54) ?hd (xs := ([] : List Int)) (inner := []) (ok := fun _ => True) (okp := fun _ => True) ?hr ?hp (fun _ hk => hk) trivial (Below.refl _ _) (Nat.le_refl _) (by simp) ?_; (case hd => rfl); (case hg => rfl); (case hr => first | (go_simp; done) | (go_simp; rfl)); (case hp => exact (Reps.none _ _)); intro v163 w22 ho23 hb hg_ hnew_; clear hg_ hnew_; (first | rw [← Ny162.out] at ho23 | (simp only [Int.reduceToNat] at ho23; rw [← Ny162.out] at ho23)); have n0_ := Aside0.mk (Kd.S_elder' (by (with_reducible repeat (first | apply Kd.S_alloc | apply Kd.S_drewN | apply Kd.S_drew)); exact HO_5.out) (Kd.R_base ho23) hb); have n1_ := Aside0.mk (Kd.R_lower ho23 (below_size (belN HB.out))); have n2_ := Aside0.mk (below_step (belN HB.out) hb); clear HO_5; clear HB; have HO_5 := n0_; have HO164 := n1_; have HB := n2_; clear n0_ n1_ n2_; clear hb ho23; obtain ⟨i024, hi024, _, hsz24, _⟩ := info_parts info5; obtain ⟨A24, hcut24, hA24, hC24⟩ := print_mid_of (P := Try.prog) (Value.int .u8) 0 23 5 .i64 .i64 Try.underlying23 hi024 hsz24 A0 c0 l0 (ji16) (wrap64 ((ji16) + (wrap64 (t157)))) (of_decide_eq_true (by first | (with_reducible assumption) | assumption)) (by first | omega | exact of_decide_eq_true (by first | (with_reducible assumption) | assumption)) (of_decide_eq_true (by first | (with_reducible assumption) | assumption)) HC0.out; have HR165 := Aside0.mk (Kd.C_of_reads (h1 := fun _ => rfl) (hA24 _ (Kd.reads_of_C HR0.out))); have HC165 := Aside0.mk hC24; clear hA24 hC24 hi024 hsz24) | ((with_reducible refine gate_builtin (b := .append) (xs := #[.tmp 54, .tmp 63]) rfl ?_); at_builtin; refine Kd.R_append_rows (Kd.int .u8) (w0 := w) w.heap.size rfl (.tmp 54) (.tmp 63) 23 5 (.int .u8 0) 1 rfl Try.underlying23 info5 rfl (by decide) (by omega) v163 y162 ((l0.take ((wrap64 ((ji16) + (wrap64 (t157)))) : Int).toNat).drop ((ji16) : Int).toNat) _ _ _ (fun _ => True) (fun _ => False) rfl rfl ?aO ?aR (fun _ _ h => h) (fun _ h => h.elim) ?aF ?aB ?aS ?aL ?_; (case aR => first | (refine C_cast (show ((l0.take ((wrap64 ((ji16) + (wrap64 (t157)))) : Int).toNat).drop ((ji16) : Int).toNat).length = ((wrap64 ((ji16) + (wrap64 (t157)))).toNat - (ji16).toNat) from (by rw [List.length_drop, List.length_take]; have h_ : ((wrap64 ((ji16) + (wrap64 (t157)))) : Int) ≤ (l0.length : Int) := of_decide_eq_true (by first | (with_reducible assumption) | assumption); omega)) ?_; repeat (first | exact (Kd.C_below HR165.out HB.out) | (with_reducible refine Kd.C_alloc ?_ _) | (with_reducible refine Kd.C_drewN ?_ _) | (with_reducible refine Kd.C_drew ?_)); done) | (repeat (first | exact (Kd.C_below HR165.out HB.out) | (with_reducible refine Kd.C_alloc ?_ _) | (with_reducible refine Kd.C_drewN ?_ _) | (with_reducible refine Kd.C_drew ?_)))); (case aB => exact (belN HB.out)); (case aF => exact (fun _ _ => trivial)); (case aO => exact (rowN HO164.out)); (case aS => exact (below_size (belN HB.out))); (case aL => have := LMc20.out; have hlx_ := (show ((l0.take ((wrap64 ((ji16) + (wrap64 (t157)))) : Int).toNat).drop ((ji16) : Int).toNat).length = ((wrap64 ((ji16) + (wrap64 (t157)))).toNat - (ji16).toNat) from (by rw [List.length_drop, List.length_take]; have h_ : ((wrap64 ((ji16) + (wrap64 (t157)))) : Int) ≤ (l0.length : Int) := of_decide_eq_true (by first | (with_reducible assumption) | assumption); omega)); omega); intro v167 w25 ho hb hg hat; rw [← Ny166.out] at ho; have n0_ := Aside0.mk (Kd.S_after (ok := (fun _ => True)) (by (with_reducible repeat (first | apply Kd.S_alloc | apply Kd.S_drewN | apply Kd.S_drew)); exact HO_5.out) hg hat); have n1_ := Aside0.mk (hb); have n2_ := Aside0.mk (ho); clear HO_5; clear HB; clear HO164; have HO_5 := n0_; have HB := n1_; have HO168 := n2_; clear n0_ n1_ n2_; clear ho hb hg hat; obtain ⟨Ao27, co27, eo27⟩ := Kd.R_slice HO168.out; subst eo27) | ((with_reducible refine gate_builtin (b := .append) (xs := #[.tmp 53, .tmp 65]) rfl ?_); at_builtin; refine Kd.S_append (Kd.slice 5 (Kd.int .u8)) (w0 := w) w.heap.size rfl (.tmp 53) (.tmp 65) 22 23 (.slice none 0 0) 24 rfl Try.underlying22 info23 rfl (by decide) (by omega) u5 x5_1 y166 [.slice Ao27 y166.length co27] (fun _ => True) (fun k_ => some k_ = (.slice Ao27 y166.length co27 : Value).ownBlock) rfl rfl ?aP (fun k_ hk_ => ((Kd.R_mono (ok' := fun k_ => ((fun _ => True)) k_ ∧ some k_ ≠ (u5 : Value).ownBlock) (Kd.R_apart' (HO168.out) (Kd.S_typed HO_5.out) (by decide)) (fun k_ hk => ⟨trivial, hk.2⟩))).1 k_ hk_.symm) ?aF ?aO ?aB ?aS ?aL ?_; (case aP => exact Kd.M_row (Kd.R_mono (Kd.R_tight rfl (Kd.R_mono (ok' := fun k_ => ((fun _ => True)) k_ ∧ some k_ ≠ (u5 : Value).ownBlock) (Kd.R_apart' (HO168.out) (Kd.S_typed HO_5.out) (by decide)) (fun k_ hk => ⟨trivial, hk.2⟩))) (fun _ h_ => h_))); (case aB => exact (belN HB.out)); (case aF => exact (fun _ _ => trivial)); (case aO => exact (by (with_reducible repeat (first | apply Kd.S_alloc | apply Kd.S_drewN | apply Kd.S_drew)); exact Kd.S_mono HO_5.out (fun k_ hk => ⟨trivial, fun e_ => hk.2 e_⟩))); (case aS => exact (below_size (belN HB.out))); (case aL => have := LMc21.out; omega); intro v170 w26 ho hb hg hat; rw [← Ny169.out] at ho; have n0_ := Aside0.mk (hb); have n1_ := Aside0.mk (ho); clear HB; clear HO_5; clear HO168; have HB := n0_; have HO171 := n1_; clear n0_ n1_; clear ho hb hg hat))
                 go_roundg kj9
                 case measure => have := HK1.out; have := HJ9.out; omega
                 case rel => exact ⟨(y169), (wrap64 ((ji16) + (wrap64 (t157)))), (by first | rfl | (simp; done) | (simp only [← hji16] <;> (first | rfl | simp)) | (simp [*]; done)), H', ⟨by have := HK1.out; have := HJ9.out; omega⟩, ⟨by (with_reducible repeat (first | apply Kd.S_alloc | apply Kd.S_drewN | apply Kd.S_drew)); exact HO171.out⟩, ⟨(belN HB.out)⟩⟩
                ·rw [if_neg c21] at H
                 exact absurd H (by simp)
               ·rw [if_neg c20] at H
                exact absurd H (by simp)
              ·rw [if_neg c19] at H
               exact absurd H (by simp)
             ·rw [if_neg c18] at H
              exact absurd H (by simp)
            ·rw [if_neg c17] at H
             exact absurd H (by simp)
       ·rw [if_neg c8] at H
        exact absurd H (by simp)
      ·rw [if_neg c7] at H
       exact absurd H (by simp)
     ·rw [if_neg c4] at H
      exact absurd H (by simp)
    ·rw [if_neg c3] at H
     exact absurd H (by simp)

/-! ### marigraphlaw4_all: function 17 -/
def marigraphlaw4_all.f (k : Nat) (l0 : List Int) : Option (Bool) := (frame_All.f k l0).bind fun bt172 => ((marigraphref4_All.f k l0).bind fun bt177 => (if bt172.2.1 = bt177.2.1 then (if ((bt172.2.2 == 0) == bt177.2.2) = true then (if bt177.2.2 = true then ((marigraphkeep_Lists.f k bt172.1 bt177.1).bind fun t182 => (some t182)) else (if bt172.2.2 = 14 then ((marigraphkeep_Lists.f k bt172.1 bt177.1).bind fun t183 => (some t183)) else (some false))) else (some false)) else (some false)))
theorem marigraphlaw4_all.mono : ∀ a0 k, LeO (marigraphlaw4_all.f k a0) (marigraphlaw4_all.f (k + 1) a0) := by
 intro a0 k
 unfold marigraphlaw4_all.f
 repeat' first
   | (with_reducible exact frame_All.mono _ _)
   | (with_reducible exact marigraphkeep_Lists.mono _ _ _)
   | (with_reducible exact marigraphref4_All.mono _ _)
   | (with_reducible exact LeO.refl _)
   | (with_reducible exact LeO.none _)
   | (with_reducible refine LeO.ite ?_ ?_)
   | (with_reducible refine LeO.bind ?_ (fun _ => ?_))
   | exact frame_All.mono _ _
   | exact marigraphkeep_Lists.mono _ _ _
   | exact marigraphref4_All.mono _ _
   | exact LeO.none _
   | refine LeO.ite ?_ ?_
   | refine LeO.bind ?_ (fun _ => ?_)
set_option maxHeartbeats 8000000 in
set_option maxRecDepth 100000 in
theorem marigraphlaw4_all.calls (k : Nat) (A0 : Option Addr) (c0 : Nat) (l0 : List Int) (r : Bool) (w : World) (hr0 : Kd.C (Kd.int .u8) w A0 l0.length l0) (hc0 : l0.length ≤ c0) (h : marigraphlaw4_all.f k l0 = some r) :
  Calls Try.prog 17 #[.slice A0 l0.length c0] w fun e w' => e = .returned (.bool r) ∧ Below w.heap.size w w' := by
 have HR0 := Aside0.mk hr0
 have HC0 := Aside0.mk hc0
 clear hr0 hc0
 have HB := Aside0.mk (Below.refl w.heap.size w)
 have H : ((frame_All.f k l0).bind fun bt172 => ((marigraphref4_All.f k l0).bind fun bt177 => (if bt172.2.1 = bt177.2.1 then (if ((bt172.2.2 == 0) == bt177.2.2) = true then (if bt177.2.2 = true then ((marigraphkeep_Lists.f k bt172.1 bt177.1).bind fun t182 => (some t182)) else (if bt172.2.2 = 14 then ((marigraphkeep_Lists.f k bt172.1 bt177.1).bind fun t183 => (some t183)) else (some false))) else (some false)) else (some false)))) = some r := h
 clear h
 replace H := Option.bind_eq_some_iff.mp H
 obtain ⟨⟨t172, t173, t174⟩, A20, H⟩ := H
 replace H : ((marigraphref4_All.f k l0).bind fun bt177 => (if t173 = bt177.2.1 then (if ((t174 == 0) == bt177.2.2) = true then (if bt177.2.2 = true then ((marigraphkeep_Lists.f k t172 bt177.1).bind fun t182 => (some t182)) else (if t174 = 14 then ((marigraphkeep_Lists.f k t172 bt177.1).bind fun t183 => (some t183)) else (some false))) else (some false)) else (some false))) = some r := H
 have A2 := Aside0.mk A20
 clear A20
 replace H := Option.bind_eq_some_iff.mp H
 obtain ⟨⟨t177, t178, t179⟩, A30, H⟩ := H
 replace H : (if t173 = t178 then (if ((t174 == 0) == t179) = true then (if t179 = true then ((marigraphkeep_Lists.f k t172 t177).bind fun t182 => (some t182)) else (if t174 = 14 then ((marigraphkeep_Lists.f k t172 t177).bind fun t183 => (some t183)) else (some false))) else (some false)) else (some false)) = some r := H
 have A3 := Aside0.mk A30
 clear A30
 by_cases c4 : t173 = t178
 ·rw [if_pos c4] at H
  have c4b0 : (t173 == t178) = true := beq_iff_eq.mpr c4
  have c4b1 : (t173 != t178) = false := bne_eq_false_iff_eq.mpr c4
  clear c4
  by_cases c5 : ((t174 == 0) == t179) = true
  ·rw [if_pos c5] at H
   have c5b0 : ((t174 == 0) == t179) = true := c5
   (try (have c5b1 : decide ((t174 == 0) = t179) = true := by simpa using c5))
   (try (have c5b2 : ((t174 == 0) == t179) = true := by simpa using c5))
   clear c5
   by_cases c6 : t179 = true
   ·subst c6
    have H1 : ((marigraphkeep_Lists.f k t172 t177).bind fun t182 => (some t182)) = some r := by rw [if_pos rfl] at H; exact H
    clear H
    have H := H1
    clear H1
    replace H := Option.bind_eq_some_iff.mp H
    obtain ⟨t182, A70, H⟩ := H
    replace H : (some t182) = some r := H
    have A7 := Aside0.mk A70
    clear A70
    obtain rfl := Option.some.inj H
    go_enter Try.func17, Try.ntmps17
    go_wp2_with (first | ((with_reducible refine gate_callee (f := 24) rfl ?_); refine goesL_ (some 11) rfl rfl Try.func24 (by kernel_rfl) rfl #[.slice A0 l0.length c0] rfl argN ?_; (with_reducible refine (frame_All.calls k _ _ l0 t172 t173 t174 _ ?side1 ?side2 A2.out).mono ?_); (case side1 => repeat (first | exact HR0.out | (with_reducible refine Kd.C_alloc ?_ _) | (with_reducible refine Kd.C_drewN ?_ _) | (with_reducible refine Kd.C_drew ?_))); (case side2 => exact HC0.out); rintro e w8 ⟨v175, rfl, ho0, hb⟩; refine ⟨_, rfl, ?_⟩; have n0_ := Aside0.mk (Kd.S_lower ho0 (below_size (belN HB.out))); have n1_ := Aside0.mk (below_step (belN HB.out) hb); clear HB; have HO176 := n0_; have HB := n1_; clear n0_ n1_; (try clear hb); (try clear ho0)) | ((with_reducible refine gate_callee (f := 40) rfl ?_); refine goesL_ (some 17) rfl rfl Try.func40 (by kernel_rfl) rfl #[.slice A0 l0.length c0] rfl argN ?_; (with_reducible refine (marigraphref4_All.calls k _ _ l0 t177 t178 true _ ?side1 ?side2 A3.out).mono ?_); (case side1 => repeat (first | exact (Kd.C_below HR0.out HB.out) | (with_reducible refine Kd.C_alloc ?_ _) | (with_reducible refine Kd.C_drewN ?_ _) | (with_reducible refine Kd.C_drew ?_))); (case side2 => exact HC0.out); rintro e w9 ⟨v180, rfl, ho0, hb⟩; refine ⟨_, rfl, ?_⟩; have n0_ := Aside0.mk (Kd.S_elder' (by (with_reducible repeat (first | apply Kd.S_alloc | apply Kd.S_drewN | apply Kd.S_drew)); exact HO176.out) (Kd.S_base ho0) hb); have n1_ := Aside0.mk (Kd.S_lower (Kd.S_new' ho0 (Kd.S_lt (by (with_reducible repeat (first | apply Kd.S_alloc | apply Kd.S_drewN | apply Kd.S_drew)); exact HO176.out))) (below_size (belN HB.out))); have n2_ := Aside0.mk (below_step (belN HB.out) hb); clear HO176; clear HB; have HO176 := n0_; have HO181 := n1_; have HB := n2_; clear n0_ n1_ n2_; (try clear hb); (try clear ho0); obtain ⟨Ao10, co10, eo10⟩ := Kd.S_slice HO176.out; subst eo10; obtain ⟨Ao11, co11, eo11⟩ := Kd.S_slice HO181.out; subst eo11) | (go_at_call 37; (with_reducible refine (marigraphkeep_Lists.calls k _ _ t172 _ _ t177 t182 _ ?side1 ?side2 ?side3 ?side4 A7.out).mono ?_); (case side1 => repeat (first | exact (Kd.S_reads' HO176.out).2.2 | (with_reducible refine Kd.C_alloc ?_ _) | (with_reducible refine Kd.C_drewN ?_ _) | (with_reducible refine Kd.C_drew ?_))); (case side2 => exact (Kd.S_reads' HO176.out).2.1); (case side3 => repeat (first | exact (Kd.S_reads' HO181.out).2.2 | (with_reducible refine Kd.C_alloc ?_ _) | (with_reducible refine Kd.C_drewN ?_ _) | (with_reducible refine Kd.C_drew ?_))); (case side4 => exact (Kd.S_reads' HO181.out).2.1); rintro e w' ⟨rfl, ⟨nd, rfl⟩⟩))
    go_ret
    exact ⟨by first | rfl | (simp [errW_none, errW_some] <;> rfl) | (simp [*, errW_none, errW_some] <;> rfl), (belN HB.out)⟩
   ·replace c6 := Bool.eq_false_iff.mpr c6
    subst c6
    have H1 : (if t174 = 14 then ((marigraphkeep_Lists.f k t172 t177).bind fun t183 => (some t183)) else (some false)) = some r := by rw [if_neg (show ¬ (false = true) by decide)] at H; exact H
    clear H
    have H := H1
    clear H1
    by_cases c12 : t174 = 14
    ·rw [if_pos c12] at H
     have c12b0 : (t174 == 14) = true := beq_iff_eq.mpr c12
     have c12b1 : (t174 != 14) = false := bne_eq_false_iff_eq.mpr c12
     clear c12
     replace H := Option.bind_eq_some_iff.mp H
     obtain ⟨t183, A130, H⟩ := H
     replace H : (some t183) = some r := H
     have A13 := Aside0.mk A130
     clear A130
     obtain rfl := Option.some.inj H
     go_enter Try.func17, Try.ntmps17
     go_wp2_with (first | ((with_reducible refine gate_callee (f := 24) rfl ?_); refine goesL_ (some 11) rfl rfl Try.func24 (by kernel_rfl) rfl #[.slice A0 l0.length c0] rfl argN ?_; (with_reducible refine (frame_All.calls k _ _ l0 t172 t173 t174 _ ?side1 ?side2 A2.out).mono ?_); (case side1 => repeat (first | exact HR0.out | (with_reducible refine Kd.C_alloc ?_ _) | (with_reducible refine Kd.C_drewN ?_ _) | (with_reducible refine Kd.C_drew ?_))); (case side2 => exact HC0.out); rintro e w14 ⟨v175, rfl, ho0, hb⟩; refine ⟨_, rfl, ?_⟩; have n0_ := Aside0.mk (Kd.S_lower ho0 (below_size (belN HB.out))); have n1_ := Aside0.mk (below_step (belN HB.out) hb); clear HB; have HO176 := n0_; have HB := n1_; clear n0_ n1_; (try clear hb); (try clear ho0)) | ((with_reducible refine gate_callee (f := 40) rfl ?_); refine goesL_ (some 17) rfl rfl Try.func40 (by kernel_rfl) rfl #[.slice A0 l0.length c0] rfl argN ?_; (with_reducible refine (marigraphref4_All.calls k _ _ l0 t177 t178 false _ ?side1 ?side2 A3.out).mono ?_); (case side1 => repeat (first | exact (Kd.C_below HR0.out HB.out) | (with_reducible refine Kd.C_alloc ?_ _) | (with_reducible refine Kd.C_drewN ?_ _) | (with_reducible refine Kd.C_drew ?_))); (case side2 => exact HC0.out); rintro e w15 ⟨v180, rfl, ho0, hb⟩; refine ⟨_, rfl, ?_⟩; have n0_ := Aside0.mk (Kd.S_elder' (by (with_reducible repeat (first | apply Kd.S_alloc | apply Kd.S_drewN | apply Kd.S_drew)); exact HO176.out) (Kd.S_base ho0) hb); have n1_ := Aside0.mk (Kd.S_lower (Kd.S_new' ho0 (Kd.S_lt (by (with_reducible repeat (first | apply Kd.S_alloc | apply Kd.S_drewN | apply Kd.S_drew)); exact HO176.out))) (below_size (belN HB.out))); have n2_ := Aside0.mk (below_step (belN HB.out) hb); clear HO176; clear HB; have HO176 := n0_; have HO181 := n1_; have HB := n2_; clear n0_ n1_ n2_; (try clear hb); (try clear ho0); obtain ⟨Ao16, co16, eo16⟩ := Kd.S_slice HO176.out; subst eo16; obtain ⟨Ao17, co17, eo17⟩ := Kd.S_slice HO181.out; subst eo17) | (go_at_call 37; (with_reducible refine (marigraphkeep_Lists.calls k _ _ t172 _ _ t177 t183 _ ?side1 ?side2 ?side3 ?side4 A13.out).mono ?_); (case side1 => repeat (first | exact (Kd.S_reads' HO176.out).2.2 | (with_reducible refine Kd.C_alloc ?_ _) | (with_reducible refine Kd.C_drewN ?_ _) | (with_reducible refine Kd.C_drew ?_))); (case side2 => exact (Kd.S_reads' HO176.out).2.1); (case side3 => repeat (first | exact (Kd.S_reads' HO181.out).2.2 | (with_reducible refine Kd.C_alloc ?_ _) | (with_reducible refine Kd.C_drewN ?_ _) | (with_reducible refine Kd.C_drew ?_))); (case side4 => exact (Kd.S_reads' HO181.out).2.1); rintro e w' ⟨rfl, ⟨nd, rfl⟩⟩))
     go_ret
     exact ⟨by first | rfl | (simp [errW_none, errW_some] <;> rfl) | (simp [*, errW_none, errW_some] <;> rfl), (belN HB.out)⟩
    ·rw [if_neg c12] at H
     have c12b0 : (t174 == 14) = false := beq_eq_false_iff_ne.mpr c12
     have c12b1 : (t174 != 14) = true := bne_iff_ne.mpr c12
     obtain rfl := Option.some.inj H
     go_enter Try.func17, Try.ntmps17
     go_wp2_with (first | ((with_reducible refine gate_callee (f := 24) rfl ?_); refine goesL_ (some 11) rfl rfl Try.func24 (by kernel_rfl) rfl #[.slice A0 l0.length c0] rfl argN ?_; (with_reducible refine (frame_All.calls k _ _ l0 t172 t173 t174 _ ?side1 ?side2 A2.out).mono ?_); (case side1 => repeat (first | exact HR0.out | (with_reducible refine Kd.C_alloc ?_ _) | (with_reducible refine Kd.C_drewN ?_ _) | (with_reducible refine Kd.C_drew ?_))); (case side2 => exact HC0.out); rintro e w18 ⟨v175, rfl, ho0, hb⟩; refine ⟨_, rfl, ?_⟩; have n0_ := Aside0.mk (Kd.S_lower ho0 (below_size (belN HB.out))); have n1_ := Aside0.mk (below_step (belN HB.out) hb); clear HB; have HO176 := n0_; have HB := n1_; clear n0_ n1_; (try clear hb); (try clear ho0)) | ((with_reducible refine gate_callee (f := 40) rfl ?_); refine goesL_ (some 17) rfl rfl Try.func40 (by kernel_rfl) rfl #[.slice A0 l0.length c0] rfl argN ?_; (with_reducible refine (marigraphref4_All.calls k _ _ l0 t177 t178 false _ ?side1 ?side2 A3.out).mono ?_); (case side1 => repeat (first | exact (Kd.C_below HR0.out HB.out) | (with_reducible refine Kd.C_alloc ?_ _) | (with_reducible refine Kd.C_drewN ?_ _) | (with_reducible refine Kd.C_drew ?_))); (case side2 => exact HC0.out); rintro e w19 ⟨v180, rfl, ho0, hb⟩; refine ⟨_, rfl, ?_⟩; have n0_ := Aside0.mk (Kd.S_elder' (by (with_reducible repeat (first | apply Kd.S_alloc | apply Kd.S_drewN | apply Kd.S_drew)); exact HO176.out) (Kd.S_base ho0) hb); have n1_ := Aside0.mk (Kd.S_lower (Kd.S_new' ho0 (Kd.S_lt (by (with_reducible repeat (first | apply Kd.S_alloc | apply Kd.S_drewN | apply Kd.S_drew)); exact HO176.out))) (below_size (belN HB.out))); have n2_ := Aside0.mk (below_step (belN HB.out) hb); clear HO176; clear HB; have HO176 := n0_; have HO181 := n1_; have HB := n2_; clear n0_ n1_ n2_; (try clear hb); (try clear ho0)))
     go_ret
     exact ⟨by first | rfl | (simp [errW_none, errW_some] <;> rfl) | (simp [*, errW_none, errW_some] <;> rfl), (belN HB.out)⟩
  ·rw [if_neg c5] at H
   have c5b0 : ((t174 == 0) == t179) = false := by simpa using c5
   (try (have c5b1 : decide ((t174 == 0) = t179) = false := by simpa using c5))
   (try (have c5b2 : ((t174 == 0) == t179) = false := by simpa using c5))
   (try (have c5b3 : ¬ ((t174 == 0) = t179) := by simpa using c5))
   clear c5
   obtain rfl := Option.some.inj H
   go_enter Try.func17, Try.ntmps17
   go_wp2_with (first | ((with_reducible refine gate_callee (f := 24) rfl ?_); refine goesL_ (some 11) rfl rfl Try.func24 (by kernel_rfl) rfl #[.slice A0 l0.length c0] rfl argN ?_; (with_reducible refine (frame_All.calls k _ _ l0 t172 t173 t174 _ ?side1 ?side2 A2.out).mono ?_); (case side1 => repeat (first | exact HR0.out | (with_reducible refine Kd.C_alloc ?_ _) | (with_reducible refine Kd.C_drewN ?_ _) | (with_reducible refine Kd.C_drew ?_))); (case side2 => exact HC0.out); rintro e w20 ⟨v175, rfl, ho0, hb⟩; refine ⟨_, rfl, ?_⟩; have n0_ := Aside0.mk (Kd.S_lower ho0 (below_size (belN HB.out))); have n1_ := Aside0.mk (below_step (belN HB.out) hb); clear HB; have HO176 := n0_; have HB := n1_; clear n0_ n1_; (try clear hb); (try clear ho0)) | ((with_reducible refine gate_callee (f := 40) rfl ?_); refine goesL_ (some 17) rfl rfl Try.func40 (by kernel_rfl) rfl #[.slice A0 l0.length c0] rfl argN ?_; (with_reducible refine (marigraphref4_All.calls k _ _ l0 t177 t178 t179 _ ?side1 ?side2 A3.out).mono ?_); (case side1 => repeat (first | exact (Kd.C_below HR0.out HB.out) | (with_reducible refine Kd.C_alloc ?_ _) | (with_reducible refine Kd.C_drewN ?_ _) | (with_reducible refine Kd.C_drew ?_))); (case side2 => exact HC0.out); rintro e w21 ⟨v180, rfl, ho0, hb⟩; refine ⟨_, rfl, ?_⟩; have n0_ := Aside0.mk (Kd.S_elder' (by (with_reducible repeat (first | apply Kd.S_alloc | apply Kd.S_drewN | apply Kd.S_drew)); exact HO176.out) (Kd.S_base ho0) hb); have n1_ := Aside0.mk (Kd.S_lower (Kd.S_new' ho0 (Kd.S_lt (by (with_reducible repeat (first | apply Kd.S_alloc | apply Kd.S_drewN | apply Kd.S_drew)); exact HO176.out))) (below_size (belN HB.out))); have n2_ := Aside0.mk (below_step (belN HB.out) hb); clear HO176; clear HB; have HO176 := n0_; have HO181 := n1_; have HB := n2_; clear n0_ n1_ n2_; (try clear hb); (try clear ho0)))
   go_ret
   exact ⟨by first | rfl | (simp [errW_none, errW_some] <;> rfl) | (simp [*, errW_none, errW_some] <;> rfl), (belN HB.out)⟩
 ·rw [if_neg c4] at H
  have c4b0 : (t173 == t178) = false := beq_eq_false_iff_ne.mpr c4
  have c4b1 : (t173 != t178) = true := bne_iff_ne.mpr c4
  obtain rfl := Option.some.inj H
  go_enter Try.func17, Try.ntmps17
  go_wp2_with (first | ((with_reducible refine gate_callee (f := 24) rfl ?_); refine goesL_ (some 11) rfl rfl Try.func24 (by kernel_rfl) rfl #[.slice A0 l0.length c0] rfl argN ?_; (with_reducible refine (frame_All.calls k _ _ l0 t172 t173 t174 _ ?side1 ?side2 A2.out).mono ?_); (case side1 => repeat (first | exact HR0.out | (with_reducible refine Kd.C_alloc ?_ _) | (with_reducible refine Kd.C_drewN ?_ _) | (with_reducible refine Kd.C_drew ?_))); (case side2 => exact HC0.out); rintro e w22 ⟨v175, rfl, ho0, hb⟩; refine ⟨_, rfl, ?_⟩; have n0_ := Aside0.mk (Kd.S_lower ho0 (below_size (belN HB.out))); have n1_ := Aside0.mk (below_step (belN HB.out) hb); clear HB; have HO176 := n0_; have HB := n1_; clear n0_ n1_; (try clear hb); (try clear ho0)) | ((with_reducible refine gate_callee (f := 40) rfl ?_); refine goesL_ (some 17) rfl rfl Try.func40 (by kernel_rfl) rfl #[.slice A0 l0.length c0] rfl argN ?_; (with_reducible refine (marigraphref4_All.calls k _ _ l0 t177 t178 t179 _ ?side1 ?side2 A3.out).mono ?_); (case side1 => repeat (first | exact (Kd.C_below HR0.out HB.out) | (with_reducible refine Kd.C_alloc ?_ _) | (with_reducible refine Kd.C_drewN ?_ _) | (with_reducible refine Kd.C_drew ?_))); (case side2 => exact HC0.out); rintro e w23 ⟨v180, rfl, ho0, hb⟩; refine ⟨_, rfl, ?_⟩; have n0_ := Aside0.mk (Kd.S_elder' (by (with_reducible repeat (first | apply Kd.S_alloc | apply Kd.S_drewN | apply Kd.S_drew)); exact HO176.out) (Kd.S_base ho0) hb); have n1_ := Aside0.mk (Kd.S_lower (Kd.S_new' ho0 (Kd.S_lt (by (with_reducible repeat (first | apply Kd.S_alloc | apply Kd.S_drewN | apply Kd.S_drew)); exact HO176.out))) (below_size (belN HB.out))); have n2_ := Aside0.mk (below_step (belN HB.out) hb); clear HO176; clear HB; have HO176 := n0_; have HO181 := n1_; have HB := n2_; clear n0_ n1_ n2_; (try clear hb); (try clear ho0)))
  go_ret
  exact ⟨by first | rfl | (simp [errW_none, errW_some] <;> rfl) | (simp [*, errW_none, errW_some] <;> rfl), (belN HB.out)⟩

/-! ### frame_value: function 43 -/
def frame_value.f (l0_0 : List Int) (l0_1 : List Int) (a0_2 : Bool) : Option (List Int) := if a0_2 = true then (some ([] : List Int)) else (some l0_1)
set_option maxHeartbeats 8000000 in
set_option maxRecDepth 100000 in
theorem frame_value.calls (A0_0 : Option Addr) (c0_0 : Nat) (l0_0 : List Int) (P0_1_ : Nat → Prop) (A0_1 : Option Addr) (c0_1 : Nat) (l0_1 : List Int) (a0_2 : Bool) (r : List Int) (w : World) (hr0_0 : Kd.C (Kd.int .u8) w A0_0 l0_0.length l0_0) (hc0_0 : l0_0.length ≤ c0_0) (hs0_1 : Kd.V (Kd.int .u8) 5 w w.heap.size (fun k_ => P0_1_ k_) (.slice A0_1 l0_1.length c0_1) l0_1) (h : frame_value.f l0_0 l0_1 a0_2 = some r) :
  Calls Try.prog 43 #[.agg #[.slice A0_0 l0_0.length c0_0, .slice A0_1 l0_1.length c0_1, .bool a0_2]] w fun e w' => ∃ v0_ : Value, e = .returned (v0_) ∧ Kd.V (Kd.int .u8) 5 w' w.heap.size (fun k_ => (P0_1_ k_ ∨ w.heap.size ≤ k_)) v0_ r ∧ Below w.heap.size w w' := by
 have hu49 := Try.underlying49
 have HR0_0 := Aside0.mk hr0_0
 have HC0_0 := Aside0.mk hc0_0
 clear hr0_0 hc0_0
 have HO0_1 := Aside0.mk (show Kd.V (Kd.int .u8) 5 w w.heap.size (fun k_ => (P0_1_ k_ ∨ w.heap.size ≤ k_)) (.slice A0_1 l0_1.length c0_1) l0_1 from Kd.V_mono hs0_1 (fun k_ hk => .inl hk))
 have HB := Aside0.mk (Below.refl w.heap.size w)
 have H : (if a0_2 = true then (some ([] : List Int)) else (some l0_1)) = some r := h
 clear h
 by_cases c2 : a0_2 = true
 ·subst c2
  have H1 : (some ([] : List Int)) = some r := by rw [if_pos rfl] at H; exact H
  clear H
  have H := H1
  clear H1
  obtain rfl := Option.some.inj H
  go_enter Try.func43, Try.ntmps43
  go_wp2_with (first | ((with_reducible refine gate_dst (N := 1) rfl ?_); refine box_event ?hg (N := 1) ?hd (cs := #[.slice A0_0 l0_0.length c0_0, .slice A0_1 l0_1.length c0_1, .bool true]) (t := 49) ?hr ?_; (case hd => rfl); (case hg => rfl); (case hr => first | (go_simp; done) | (go_simp; rfl)); intro gb184 hg w3 hbox hb; have n0_ := Aside0.mk (Kd.V_below (Kd.V_elderB (by (with_reducible repeat (first | apply Kd.V_alloc | apply Kd.V_drewN | apply Kd.V_drew)); exact HO0_1.out) gb184 (Nat.le_of_eq hg.symm)) hb); have n1_ := Aside0.mk (below_step (belN HB.out) hb); have n2_ := Aside0.mk (hbox); have n3_ := Aside0.mk (szB hg HB.out); have n4_ := Aside0.mk (szB hg HB.out); clear HO0_1; clear HB; have HO0_1 := n0_; have HB := n1_; have BK184 := n2_; have GW184 := n3_; have GE184 := n4_; clear n0_ n1_ n2_ n3_ n4_; clear hb hbox hg; have hcz4_0 : w3.cell? ⟨gb184, 0, none⟩ = some (.slice A0_0 l0_0.length c0_0) := (blk_cell BK184.out 0).trans rfl; have hcz4_1 : w3.cell? ⟨gb184, 1, none⟩ = some (.slice A0_1 l0_1.length c0_1) := (blk_cell BK184.out 1).trans rfl; have hcz4_2 : w3.cell? ⟨gb184, 2, none⟩ = some (.bool true) := (blk_cell BK184.out 2).trans rfl; have hfz4_0 := blk_frozen BK184.out 0; have hfz4_1 := blk_frozen BK184.out 1; have hfz4_2 := blk_frozen BK184.out 2))
  go_ret
  exact ⟨_, by first | rfl | (simp [errW_none, errW_some] <;> rfl) | (simp [*, errW_none, errW_some] <;> rfl), (by first | exact Kd.V_nil _ _ _ _ _ | exact Kd.V_mono (Kd.R_V (by first | exact Kd.R_nil _ _ _ _ _ | exact Kd.N_nil _ _ _ _ _ | exact Kd.V_nil _ _ _ _ _ | exact Kd.Q_nil _ _ _ _ _ | exact Kd.S_nil _ _ _ _ _)) (fun k_ hk => by first | exact ⟨(.inr (hk.1)), hk.2⟩ | exact (.inr (hk)))), (belS HB.out)⟩
 ·replace c2 := Bool.eq_false_iff.mpr c2
  subst c2
  have H1 : (some l0_1) = some r := by rw [if_neg (show ¬ (false = true) by decide)] at H; exact H
  clear H
  have H := H1
  clear H1
  obtain rfl := Option.some.inj H
  go_enter Try.func43, Try.ntmps43
  go_wp2_with (first | ((with_reducible refine gate_dst (N := 1) rfl ?_); refine box_event ?hg (N := 1) ?hd (cs := #[.slice A0_0 l0_0.length c0_0, .slice A0_1 l0_1.length c0_1, .bool false]) (t := 49) ?hr ?_; (case hd => rfl); (case hg => rfl); (case hr => first | (go_simp; done) | (go_simp; rfl)); intro gb184 hg w5 hbox hb; have n0_ := Aside0.mk (Kd.V_below (Kd.V_elderB (by (with_reducible repeat (first | apply Kd.V_alloc | apply Kd.V_drewN | apply Kd.V_drew)); exact HO0_1.out) gb184 (Nat.le_of_eq hg.symm)) hb); have n1_ := Aside0.mk (below_step (belN HB.out) hb); have n2_ := Aside0.mk (hbox); have n3_ := Aside0.mk (szB hg HB.out); have n4_ := Aside0.mk (szB hg HB.out); clear HO0_1; clear HB; have HO0_1 := n0_; have HB := n1_; have BK184 := n2_; have GW184 := n3_; have GE184 := n4_; clear n0_ n1_ n2_ n3_ n4_; clear hb hbox hg; have hcz6_0 : w5.cell? ⟨gb184, 0, none⟩ = some (.slice A0_0 l0_0.length c0_0) := (blk_cell BK184.out 0).trans rfl; have hcz6_1 : w5.cell? ⟨gb184, 1, none⟩ = some (.slice A0_1 l0_1.length c0_1) := (blk_cell BK184.out 1).trans rfl; have hcz6_2 : w5.cell? ⟨gb184, 2, none⟩ = some (.bool false) := (blk_cell BK184.out 2).trans rfl; have hfz6_0 := blk_frozen BK184.out 0; have hfz6_1 := blk_frozen BK184.out 1; have hfz6_2 := blk_frozen BK184.out 2))
  go_ret
  exact ⟨_, by first | rfl | (simp [errW_none, errW_some] <;> rfl) | (simp [*, errW_none, errW_some] <;> rfl), by (with_reducible repeat (first | apply Kd.V_alloc | apply Kd.V_drewN | apply Kd.V_drew)); exact Kd.V_mono HO0_1.out (fun _ hk => hk.1), (belS HB.out)⟩

/-! ### frame_Batch: function 22 -/
mutual
def frame_Batch.l0 : Nat → List Int → List (S49) → Int → Int → Option (List Int × Int)
 | 0, _, _, _, _ => none
 | k + 1, x4, x16, x17, x18 => if x18 < x17 then (if 0 ≤ x18 then (if x18 < (x16.length : Int) then ((frame_value.f ((rd_T49 x16 x18).f0) ((rd_T49 x16 x18).f1) ((rd_T49 x16 x18).f2)).bind fun t190 => (if (((rd_T49 x16 x18).f0).length : Int) < 1 then (frame_Batch.j1 k x4 t190 x16 x17 x18 true ((rd_T49 x16 x18).f0) ((rd_T49 x16 x18).f1) ((rd_T49 x16 x18).f2)) else (if (((rd_T49 x16 x18).f0).length : Int) > 255 then (frame_Batch.j1 k x4 t190 x16 x17 x18 true ((rd_T49 x16 x18).f0) ((rd_T49 x16 x18).f1) ((rd_T49 x16 x18).f2)) else (frame_Batch.j1 k x4 t190 x16 x17 x18 (decide ((t190.length : Int) > 4095)) ((rd_T49 x16 x18).f0) ((rd_T49 x16 x18).f1) ((rd_T49 x16 x18).f2))))) else (none)) else (none)) else (some (x4, 0))
def frame_Batch.j1 : Nat → List Int → List Int → List (S49) → Int → Int → Bool → List Int → List Int → Bool → Option (List Int × Int)
 | 0, _, _, _, _, _, _, _, _, _ => none
 | k + 1, x4, x7, x16, x17, x18, x38, x190000, x190001, x190002 => if x38 = true then (some (([] : List Int), 3)) else (if x190002 = true then ((some (([0, ((x190000.length : Int)) % 256] : List Int) : List Int)).bind fun y193 => (if x4.length + y193.length < 140737488355328 then ((some (x4 ++ y193 : List Int)).bind fun y196 => (if y196.length + x190000.length < 140737488355328 then (frame_Batch.l0 k (y196 ++ x190000) x16 x17 (wrap64 (x18 + 1))) else (none))) else (none))) else ((some (([1, ((x190000.length : Int)) % 256] : List Int) : List Int)).bind fun y202 => (if x4.length + y202.length < 140737488355328 then ((some (x4 ++ y202 : List Int)).bind fun y205 => (if y205.length + x190000.length < 140737488355328 then ((octet_Put.f k (y205 ++ x190000) (IntKind.u64.wrap ((x7.length : Int))) 2).bind fun t211 => (if t211.length + x7.length < 140737488355328 then (frame_Batch.l0 k (t211 ++ x7) x16 x17 (wrap64 (x18 + 1))) else (none))) else (none))) else (none))))
end
def frame_Batch.f (k : Nat) (l0 : List (S49)) : Option (List Int × Int) := if (l0.length : Int) > 8191 then (some (([] : List Int), 3)) else ((octet_Put.f k ([] : List Int) (IntKind.u64.wrap ((l0.length : Int))) 2).bind fun t185 => (frame_Batch.l0 k t185 l0 (l0.length : Int) 0))
theorem frame_Batch.mono_l : ∀ k, (∀ y0 y1 y2 y3, LeO (frame_Batch.l0 k y0 y1 y2 y3) (frame_Batch.l0 (k + 1) y0 y1 y2 y3)) ∧ (∀ y0 y1 y2 y3 y4 y5 y6 y7 y8, LeO (frame_Batch.j1 k y0 y1 y2 y3 y4 y5 y6 y7 y8) (frame_Batch.j1 (k + 1) y0 y1 y2 y3 y4 y5 y6 y7 y8))
 | 0 => ⟨fun _ _ _ _ r h => by simp [frame_Batch.l0] at h, fun _ _ _ _ _ _ _ _ _ r h => by simp [frame_Batch.j1] at h⟩
 | k + 1 => by
  obtain ⟨ih0, ih1⟩ := frame_Batch.mono_l k
  refine ⟨?_, ?_⟩
  ·intro y0 y1 y2 y3
   unfold frame_Batch.l0
   repeat' first
   | (with_reducible exact ih0 _ _ _ _)
   | (with_reducible exact ih1 _ _ _ _ _ _ _ _ _)
   | (with_reducible exact octet_Put.mono _ _ _ _)
   | (with_reducible exact LeO.refl _)
   | (with_reducible exact LeO.none _)
   | (with_reducible refine LeO.ite ?_ ?_)
   | (with_reducible refine LeO.bind ?_ (fun _ => ?_))
   | exact ih0 _ _ _ _
   | exact ih1 _ _ _ _ _ _ _ _ _
   | exact octet_Put.mono _ _ _ _
   | exact LeO.none _
   | refine LeO.ite ?_ ?_
   | refine LeO.bind ?_ (fun _ => ?_)
  ·intro y0 y1 y2 y3 y4 y5 y6 y7 y8
   unfold frame_Batch.j1
   repeat' first
   | (with_reducible exact ih0 _ _ _ _)
   | (with_reducible exact ih1 _ _ _ _ _ _ _ _ _)
   | (with_reducible exact octet_Put.mono _ _ _ _)
   | (with_reducible exact LeO.refl _)
   | (with_reducible exact LeO.none _)
   | (with_reducible refine LeO.ite ?_ ?_)
   | (with_reducible refine LeO.bind ?_ (fun _ => ?_))
   | exact ih0 _ _ _ _
   | exact ih1 _ _ _ _ _ _ _ _ _
   | exact octet_Put.mono _ _ _ _
   | exact LeO.none _
   | refine LeO.ite ?_ ?_
   | refine LeO.bind ?_ (fun _ => ?_)
theorem frame_Batch.mono : ∀ a0 k, LeO (frame_Batch.f k a0) (frame_Batch.f (k + 1) a0) := by
 intro a0 k
 obtain ⟨ih0, ih1⟩ := frame_Batch.mono_l k
 unfold frame_Batch.f
 repeat' first
   | (with_reducible exact ih0 _ _ _ _)
   | (with_reducible exact ih1 _ _ _ _ _ _ _ _ _)
   | (with_reducible exact octet_Put.mono _ _ _ _)
   | (with_reducible exact LeO.refl _)
   | (with_reducible exact LeO.none _)
   | (with_reducible refine LeO.ite ?_ ?_)
   | (with_reducible refine LeO.bind ?_ (fun _ => ?_))
   | exact ih0 _ _ _ _
   | exact ih1 _ _ _ _ _ _ _ _ _
   | exact octet_Put.mono _ _ _ _
   | exact LeO.none _
   | refine LeO.ite ?_ ?_
   | refine LeO.bind ?_ (fun _ => ?_)
set_option maxHeartbeats 8000000 in
set_option maxRecDepth 100000 in
theorem frame_Batch.calls (k : Nat) (A0 : Option Addr) (c0 : Nat) (l0 : List (S49)) (r1 : List Int) (r2 : Int) (w : World) (hr0 : Kd.C k49 w A0 l0.length l0) (hc0 : l0.length ≤ c0) (h : frame_Batch.f k l0 = some (r1, r2)) :
  Calls Try.prog 22 #[.slice A0 l0.length c0] w fun e w' => ∃ v0_ : Value, e = .returned (.tuple #[v0_, .int .i64 r2]) ∧ Kd.R (Kd.int .u8) 5 w' w.heap.size (fun _ => True) v0_ r1 ∧ Below w.heap.size w w' := by
 have hu49 := Try.underlying49
 have HR0 := Aside0.mk hr0
 have HC0 := Aside0.mk hc0
 clear hr0 hc0
 have HB := Aside0.mk (Below.refl w.heap.size w)
 have H : (if (l0.length : Int) > 8191 then (some (([] : List Int), 3)) else ((octet_Put.f k ([] : List Int) (IntKind.u64.wrap ((l0.length : Int))) 2).bind fun t185 => (frame_Batch.l0 k t185 l0 (l0.length : Int) 0))) = some (r1, r2) := h
 clear h
 by_cases c2 : (l0.length : Int) > 8191
 ·rw [if_pos c2] at H
  have c2b0 : decide (8191 < (l0.length : Int)) = true := decide_eq_true c2
  have c2b1 : decide (8191 < l0.length) = true := decide_eq_true (by omega)
  clear c2
  simp only [Option.some.injEq, Prod.mk.injEq] at H
  obtain ⟨rfl, rfl⟩ := H
  go_enter Try.func22, Try.ntmps22
  go_wp2
  go_ret2
  exact ⟨_, by first | rfl | (simp [errW_none, errW_some] <;> rfl) | (simp [*, errW_none, errW_some] <;> rfl), by first | exact Kd.R_nil _ _ _ _ _ | exact Kd.N_nil _ _ _ _ _ | exact Kd.V_nil _ _ _ _ _ | exact Kd.Q_nil _ _ _ _ _ | exact Kd.S_nil _ _ _ _ _, (belN HB.out)⟩
 ·rw [if_neg c2] at H
  have c2b0 : decide (8191 < (l0.length : Int)) = false := decide_eq_false c2
  have c2b1 : decide (8191 < l0.length) = false := decide_eq_false (by omega)
  clear c2
  replace H := Option.bind_eq_some_iff.mp H
  obtain ⟨t185, A30, H⟩ := H
  replace H : (frame_Batch.l0 k t185 l0 (l0.length : Int) 0) = some (r1, r2) := H
  have A3 := Aside0.mk A30
  clear A30
  have H' := Aside0.mk H
  clear H
  go_enter Try.func22, Try.ntmps22
  go_wp2_with (first | ((with_reducible refine gate_callee (f := 39) rfl ?_); refine goesL_ (some 15) rfl rfl Try.func39 (by kernel_rfl) rfl #[.slice none 0 0, .int .u64 (IntKind.u64.wrap ((l0.length : Int))), .int .i64 2] rfl argN ?_; (refine (octet_Put.calls k _ _ ([] : List Int) (IntKind.u64.wrap ((l0.length : Int))) 2 t185 _ ?side1 ?side2 A3.out).mono ?_); (case side1 => exact Kd.C_nil _ _); (case side2 => exact Nat.le_refl _); rintro e w4 ⟨v186, rfl, ho0, hb⟩; refine ⟨_, rfl, ?_⟩; have n0_ := Aside0.mk (Kd.R_lower ho0 (below_size (belN HB.out))); have n1_ := Aside0.mk (below_step (belN HB.out) hb); clear HB; have HO187 := n0_; have HB := n1_; clear n0_ n1_; (try clear hb); (try clear hk); (try clear ho0)))
  go_loopg [4, 18] k (fun kq v4 v18 w' => ∃ (x4_1 : List Int) (x18_1 : Int), v18 = .int .i64 x18_1 ∧ Aside0 (frame_Batch.l0 kq x4_1 l0 (l0.length : Int) x18_1 = some (r1, r2)) ∧ Aside0 (kq ≤ k) ∧ Aside0 (Kd.R (Kd.int .u8) 5 w' w.heap.size (fun _ => True) v4 x4_1) ∧ Aside0 (Below w.heap.size w w'))
  case atStart => exact ⟨(t185), (0), (by first | rfl | (simp; done) | (simp [*]; done)), H', ⟨Nat.le_refl _⟩, ⟨(rowN HO187.out)⟩, ⟨(belN HB.out)⟩⟩
  case round =>
   clear H'
   try clear c2
   try clear c2b0
   try clear c2b1
   try clear p2
   try clear c3
   obtain ⟨x4_1, x18_1, rfl, HA, HK1, HO_4, HB⟩ := hrel
   cases gk with
   | zero => exact absurd HA.out (by simp [frame_Batch.l0])
   | succ k1 =>
    have H := HA.out
    clear HA
    simp only [frame_Batch.l0] at H
    by_cases c5 : x18_1 < (l0.length : Int)
    ·rw [if_pos c5] at H
     have c5b0 : decide (x18_1 < (l0.length : Int)) = true := decide_eq_true c5
     clear c5
     by_cases c6 : 0 ≤ x18_1
     ·rw [if_pos c6] at H
      have c6b0 : decide (0 ≤ x18_1) = true := decide_eq_true c6
      clear c6
      by_cases c7 : x18_1 < (l0.length : Int)
      ·rw [if_pos c7] at H
       have c7b0 : decide (x18_1 < (l0.length : Int)) = true := decide_eq_true c7
       clear c7
       replace H := Option.bind_eq_some_iff.mp H
       obtain ⟨t190, A80, H⟩ := H
       replace H : (if (((rd_T49 l0 x18_1).f0).length : Int) < 1 then (frame_Batch.j1 k1 x4_1 t190 l0 (l0.length : Int) x18_1 true ((rd_T49 l0 x18_1).f0) ((rd_T49 l0 x18_1).f1) ((rd_T49 l0 x18_1).f2)) else (if (((rd_T49 l0 x18_1).f0).length : Int) > 255 then (frame_Batch.j1 k1 x4_1 t190 l0 (l0.length : Int) x18_1 true ((rd_T49 l0 x18_1).f0) ((rd_T49 l0 x18_1).f1) ((rd_T49 l0 x18_1).f2)) else (frame_Batch.j1 k1 x4_1 t190 l0 (l0.length : Int) x18_1 (decide ((t190.length : Int) > 4095)) ((rd_T49 l0 x18_1).f0) ((rd_T49 l0 x18_1).f1) ((rd_T49 l0 x18_1).f2)))) = some (r1, r2) := H
       have A8 := Aside0.mk A80
       clear A80
       have HC9 := Aside0.mk H
       clear H
       have p188 : 0 ≤ (x18_1 : Int) := of_decide_eq_true (by first | (with_reducible assumption) | assumption)
       have q188 : x18_1 < (l0.length : Int) := of_decide_eq_true (by first | (with_reducible assumption) | assumption)
       obtain ⟨ad188, A188_0, c188_0, A188_1, c188_1, e188, hx188_0, hx188_1, hx188_2, hl188_0, hi188_0, hl188_1, hi188_1⟩ := at_T49 HR0.out x18_1 p188 q188
       cases e188
       replace hx188_0 := cellB HB.out hx188_0
       replace hx188_1 := cellB HB.out hx188_1
       replace hx188_2 := cellB HB.out hx188_2
       have HR188_0 := Aside0.mk hi188_0
       have HC188_0 := Aside0.mk hl188_0
       clear hi188_0 hl188_0
       have HR188_1 := Aside0.mk hi188_1
       have HC188_1 := Aside0.mk hl188_1
       clear hi188_1 hl188_1
       replace p188 := eq_true p188
       replace q188 := eq_true q188
       go_upto_region 8 with (first | ((with_reducible refine gate_dst (N := 6) rfl ?_); (try (refine gate_guard (by rfl) ?_; dsimp only)); refine box_event ?hg (N := 6) ?hd (cs := #[.slice none 0 0, .slice none 0 0, .bool false]) (t := 49) ?hr ?_; (case hd => rfl); (case hg => rfl); (case hr => first | (go_simp; done) | (go_simp; rfl)); intro gb189 hg w10 hbox hb; have n0_ := Aside0.mk (Kd.R_below (rowN HO_4.out) hb); have n1_ := Aside0.mk (below_step (belN HB.out) hb); have n2_ := Aside0.mk (hbox); have n3_ := Aside0.mk (szB hg HB.out); have n4_ := Aside0.mk (szB hg HB.out); clear HO_4; clear HB; have HO_4 := n0_; have HB := n1_; have BK189 := n2_; have GW189 := n3_; have GE189 := n4_; clear n0_ n1_ n2_ n3_ n4_; clear hb hbox hg; have hcz11_0 : w10.cell? ⟨gb189, 0, none⟩ = some (.slice none 0 0) := (blk_cell BK189.out 0).trans rfl; have hcz11_1 : w10.cell? ⟨gb189, 1, none⟩ = some (.slice none 0 0) := (blk_cell BK189.out 1).trans rfl; have hcz11_2 : w10.cell? ⟨gb189, 2, none⟩ = some (.bool false) := (blk_cell BK189.out 2).trans rfl; have hfz11_0 := blk_frozen BK189.out 0; have hfz11_1 := blk_frozen BK189.out 1; have hfz11_2 := blk_frozen BK189.out 2) | ((with_reducible refine gate_store (t := 49) (p := 6) rfl ?_); refine store_event (t := 49) (p := 6) (v := ?vo_w12) (w1 := (((w10.setCell ⟨gb189, 0, none⟩ (.slice A188_0 ((rd_T49 l0 x18_1).f0).length c188_0)).setCell ⟨gb189, 1, none⟩ (.slice A188_1 ((rd_T49 l0 x18_1).f1).length c188_1)).setCell ⟨gb189, 2, none⟩ (.bool ((rd_T49 l0 x18_1).f2)))) ?hg ?ho ?hn ?hr ?_; (case ho => rfl); (case hg => rfl); (case hn => rfl); (case hr => first | (go_simp; done) | (go_simp; rfl)); intro w12 hw; have n0_ : Aside0 (Kd.R (Kd.int .u8) 5 w12 w.heap.size (fun _ => True) u4 x4_1) := ⟨(by rw [hw]; exact (by (with_reducible repeat (first | apply Kd.R_alloc | apply Kd.R_drewN | apply Kd.R_drew)); exact Kd.R_mono (Kd.R_far (p := ⟨gb189, 2, none⟩) (Kd.R_far (p := ⟨gb189, 1, none⟩) (Kd.R_far (p := ⟨gb189, 0, none⟩) (Kd.R_types HO_4.out BK189.out (by decide)) (fun _ hk => hk.2) (.slice A188_0 ((rd_T49 l0 x18_1).f0).length c188_0)) (fun _ hk => hk.2) (.slice A188_1 ((rd_T49 l0 x18_1).f1).length c188_1)) (fun _ hk => hk.2) (.bool ((rd_T49 l0 x18_1).f2))) (fun _ hk => trivial)))⟩; have n1_ : Aside0 (w12.heap[gb189]? = some (.cells #[.slice A188_0 ((rd_T49 l0 x18_1).f0).length c188_0, .slice A188_1 ((rd_T49 l0 x18_1).f1).length c188_1, .bool ((rd_T49 l0 x18_1).f2)] 49 (0, 0))) := ⟨(by rw [hw]; exact (by (with_reducible repeat (first | refine blk_drewN ?_ _ | refine blk_drew ?_ | refine blk_alloc ?_ _)); refine blk_put (cs := #[.slice A188_0 ((rd_T49 l0 x18_1).f0).length c188_0, .slice A188_1 ((rd_T49 l0 x18_1).f1).length c188_1, .bool false]) ?_ 2 _ rfl; (with_reducible repeat (first | refine blk_drewN ?_ _ | refine blk_drew ?_ | refine blk_alloc ?_ _)); refine blk_put (cs := #[.slice A188_0 ((rd_T49 l0 x18_1).f0).length c188_0, .slice none 0 0, .bool false]) ?_ 1 _ rfl; (with_reducible repeat (first | refine blk_drewN ?_ _ | refine blk_drew ?_ | refine blk_alloc ?_ _)); refine blk_put (cs := #[.slice none 0 0, .slice none 0 0, .bool false]) ?_ 0 _ rfl; (with_reducible repeat (first | refine blk_drewN ?_ _ | refine blk_drew ?_ | refine blk_alloc ?_ _)); exact BK189.out))⟩; have n2_ : Aside0 (Below w.heap.size w w12) := ⟨(by rw [hw]; exact (belS HB.out))⟩; clear hw; clear HO_4; clear BK189; clear HB; have HO_4 := n0_; have BK189 := n1_; have HB := n2_; clear n0_ n1_ n2_; have hcz13_0 : w12.cell? ⟨gb189, 0, none⟩ = some (.slice A188_0 ((rd_T49 l0 x18_1).f0).length c188_0) := (blk_cell BK189.out 0).trans rfl; have hcz13_1 : w12.cell? ⟨gb189, 1, none⟩ = some (.slice A188_1 ((rd_T49 l0 x18_1).f1).length c188_1) := (blk_cell BK189.out 1).trans rfl; have hcz13_2 : w12.cell? ⟨gb189, 2, none⟩ = some (.bool ((rd_T49 l0 x18_1).f2)) := (blk_cell BK189.out 2).trans rfl; have hfz13_0 := blk_frozen BK189.out 0; have hfz13_1 := blk_frozen BK189.out 1; have hfz13_2 := blk_frozen BK189.out 2) | ((with_reducible refine gate_callee (f := 43) rfl ?_); refine goesL_ (some 23) rfl rfl Try.func43 (by kernel_rfl) rfl #[.agg #[.slice A188_0 ((rd_T49 l0 x18_1).f0).length c188_0, .slice A188_1 ((rd_T49 l0 x18_1).f1).length c188_1, .bool ((rd_T49 l0 x18_1).f2)]] rfl argN ?_; (with_reducible refine (frame_value.calls _ _ ((rd_T49 l0 x18_1).f0) (fun k_ => k_ < w.heap.size) _ _ ((rd_T49 l0 x18_1).f1) ((rd_T49 l0 x18_1).f2) t190 _ ?side1 ?side2 ?side3 A8.out).mono ?_); (case side1 => repeat (first | exact (Kd.C_below HR188_0.out HB.out) | (with_reducible refine Kd.C_alloc ?_ _) | (with_reducible refine Kd.C_drewN ?_ _) | (with_reducible refine Kd.C_drew ?_))); (case side2 => exact HC188_0.out); (case side3 => exact Kd.V_mk HC188_1.out (Kd.F_below (Kd.C_F (Kd.heap_int .u8) HR188_1.out) (belS HB.out))); rintro e w14 ⟨v191, rfl, ho0, hb⟩; refine ⟨_, rfl, ?_⟩; have n0_ := Aside0.mk (Kd.R_below (rowN HO_4.out) hb); have n1_ := Aside0.mk (Kd.V_lower (Kd.V_mono (ok' := fun k_ => some k_ ≠ (u4 : Value).ownBlock ∧ k_ ≠ gb189) ho0 (fun k_ hk_ => ⟨Or.elim hk_ (fun hs_ => fun e_ => Nat.not_le.2 hs_ (Kd.R_base HO_4.out k_ e_.symm)) (fun hn_ => (Kd.fresh' (Kd.R_lt (rowN HO_4.out)) k_ hn_)), Or.elim hk_ (fun hs_ => fun e_ => Nat.not_le.2 hs_ (by rw [e_]; exact GW189.out)) (fun hn_ => (Kd.freshB (g := gb189) (o := .cells #[.slice A188_0 ((rd_T49 l0 x18_1).f0).length c188_0, .slice A188_1 ((rd_T49 l0 x18_1).f1).length c188_1, .bool ((rd_T49 l0 x18_1).f2)] 49 (0, 0)) (blkN BK189.out) k_ hn_))⟩)) (below_size (belS HB.out))); have n2_ := Aside0.mk (bkB BK189.out hb); have n3_ := Aside0.mk (below_step (belS HB.out) hb); clear HO_4; clear BK189; clear HB; have HO_4 := n0_; have HO192 := n1_; have BK189 := n2_; have HB := n3_; clear n0_ n1_ n2_ n3_; (try clear hb); (try clear hk); (try clear ho0)))
       (try simp only [Act.put, List.setIfInBounds_toArray, List.set_cons_zero, List.set_cons_succ])
       go_cut [38] (fun v38 wc => ∃ (kq : Nat) (x38_8 : Bool), v38 = .bool x38_8 ∧ Aside0 (frame_Batch.j1 kq x4_1 t190 l0 (l0.length : Int) x18_1 x38_8 ((rd_T49 l0 x18_1).f0) ((rd_T49 l0 x18_1).f1) ((rd_T49 l0 x18_1).f2) = some (r1, r2)) ∧ Aside0 (kq ≤ k1) ∧ Aside0 (Kd.R (Kd.int .u8) 5 wc w.heap.size (fun _ => True) u4 x4_1) ∧ Aside0 (Kd.V (Kd.int .u8) 5 wc w.heap.size (fun k_ => some k_ ≠ (u4 : Value).ownBlock ∧ k_ ≠ gb189) v191 t190) ∧ Aside0 (wc.heap[gb189]? = some (.cells #[(.slice A188_0 ((rd_T49 l0 x18_1).f0).length c188_0), (.slice A188_1 ((rd_T49 l0 x18_1).f1).length c188_1), .bool ((rd_T49 l0 x18_1).f2)] 49 (0, 0))) ∧ Aside0 (Below w.heap.size w wc))
       case first =>
        have H := HC9.out
        clear HC9
        by_cases c15 : (((rd_T49 l0 x18_1).f0).length : Int) < 1
        ·rw [if_pos c15] at H
         have c15b0 : decide ((((rd_T49 l0 x18_1).f0).length : Int) < 1) = true := decide_eq_true c15
         have c15b1 : decide (((rd_T49 l0 x18_1).f0).length < 1) = true := decide_eq_true (by omega)
         clear c15
         (first | rw [c15b0] | rw [c15b1] | (simp only [i64_w, i32_w]; rw [c15b0]) | skip)
         have H' := Aside0.mk H
         clear H
         have hcz16_0 : w14.cell? ⟨gb189, 0, none⟩ = some (.slice A188_0 ((rd_T49 l0 x18_1).f0).length c188_0) := (blk_cell BK189.out 0).trans rfl
         have hcz16_1 : w14.cell? ⟨gb189, 1, none⟩ = some (.slice A188_1 ((rd_T49 l0 x18_1).f1).length c188_1) := (blk_cell BK189.out 1).trans rfl
         have hcz16_2 : w14.cell? ⟨gb189, 2, none⟩ = some (.bool ((rd_T49 l0 x18_1).f2)) := (blk_cell BK189.out 2).trans rfl
         have hfz16_0 := blk_frozen BK189.out 0
         have hfz16_1 := blk_frozen BK189.out 1
         have hfz16_2 := blk_frozen BK189.out 2
         go_wp2
         go_meet
         case rel => exact ⟨_, (true), (by first | rfl | (simp; done) | (simp [*]; done)), H', ⟨by have := HK1.out; first | omega | exact Nat.le_refl _⟩, ⟨(rowN HO_4.out)⟩, ⟨by (with_reducible repeat (first | apply Kd.V_alloc | apply Kd.V_drewN | apply Kd.V_drew)); exact HO192.out⟩, ⟨blkN BK189.out⟩, ⟨(belS HB.out)⟩⟩
        ·rw [if_neg c15] at H
         have c15b0 : decide ((((rd_T49 l0 x18_1).f0).length : Int) < 1) = false := decide_eq_false c15
         have c15b1 : decide (((rd_T49 l0 x18_1).f0).length < 1) = false := decide_eq_false (by omega)
         clear c15
         (first | rw [c15b0] | rw [c15b1] | (simp only [i64_w, i32_w]; rw [c15b0]) | skip)
         by_cases c17 : (((rd_T49 l0 x18_1).f0).length : Int) > 255
         ·rw [if_pos c17] at H
          have c17b0 : decide (255 < (((rd_T49 l0 x18_1).f0).length : Int)) = true := decide_eq_true c17
          have c17b1 : decide (255 < ((rd_T49 l0 x18_1).f0).length) = true := decide_eq_true (by omega)
          clear c17
          have H' := Aside0.mk H
          clear H
          have hcz18_0 : w14.cell? ⟨gb189, 0, none⟩ = some (.slice A188_0 ((rd_T49 l0 x18_1).f0).length c188_0) := (blk_cell BK189.out 0).trans rfl
          have hcz18_1 : w14.cell? ⟨gb189, 1, none⟩ = some (.slice A188_1 ((rd_T49 l0 x18_1).f1).length c188_1) := (blk_cell BK189.out 1).trans rfl
          have hcz18_2 : w14.cell? ⟨gb189, 2, none⟩ = some (.bool ((rd_T49 l0 x18_1).f2)) := (blk_cell BK189.out 2).trans rfl
          have hfz18_0 := blk_frozen BK189.out 0
          have hfz18_1 := blk_frozen BK189.out 1
          have hfz18_2 := blk_frozen BK189.out 2
          go_wp2
          go_meet
          case rel => exact ⟨_, (true), (by first | rfl | (simp; done) | (simp [*]; done)), H', ⟨by have := HK1.out; first | omega | exact Nat.le_refl _⟩, ⟨(rowN HO_4.out)⟩, ⟨by (with_reducible repeat (first | apply Kd.V_alloc | apply Kd.V_drewN | apply Kd.V_drew)); exact HO192.out⟩, ⟨blkN BK189.out⟩, ⟨(belS HB.out)⟩⟩
         ·rw [if_neg c17] at H
          have c17b0 : decide (255 < (((rd_T49 l0 x18_1).f0).length : Int)) = false := decide_eq_false c17
          have c17b1 : decide (255 < ((rd_T49 l0 x18_1).f0).length) = false := decide_eq_false (by omega)
          clear c17
          have H' := Aside0.mk H
          clear H
          have hcz19_0 : w14.cell? ⟨gb189, 0, none⟩ = some (.slice A188_0 ((rd_T49 l0 x18_1).f0).length c188_0) := (blk_cell BK189.out 0).trans rfl
          have hcz19_1 : w14.cell? ⟨gb189, 1, none⟩ = some (.slice A188_1 ((rd_T49 l0 x18_1).f1).length c188_1) := (blk_cell BK189.out 1).trans rfl
          have hcz19_2 : w14.cell? ⟨gb189, 2, none⟩ = some (.bool ((rd_T49 l0 x18_1).f2)) := (blk_cell BK189.out 2).trans rfl
          have hfz19_0 := blk_frozen BK189.out 0
          have hfz19_1 := blk_frozen BK189.out 1
          have hfz19_2 := blk_frozen BK189.out 2
          obtain ⟨Ao20, co20, eo20⟩ := Kd.V_slice HO192.out
          subst eo20
          go_wp2
          go_meet
          case rel => exact ⟨_, (decide ((t190.length : Int) > 4095)), (by first | rfl | (simp; done) | (simp [*]; done)), H', ⟨by have := HK1.out; first | omega | exact Nat.le_refl _⟩, ⟨(rowN HO_4.out)⟩, ⟨by (with_reducible repeat (first | apply Kd.V_alloc | apply Kd.V_drewN | apply Kd.V_drew)); exact HO192.out⟩, ⟨blkN BK189.out⟩, ⟨(belS HB.out)⟩⟩
       case rest =>
        clear HC9
        try clear c1
        try clear p1
        try clear q1
        try clear hx1
        try clear c2
        try clear c2b0
        try clear c2b1
        try clear p2
        try clear c3
        try clear c4
        try clear c5
        try clear c5b0
        try clear c6
        try clear c6b0
        try clear c7
        try clear c7b0
        try clear c15
        try clear c15b0
        try clear c15b1
        try clear c17
        try clear c17b0
        try clear c17b1
        try clear c18
        try clear p18
        try clear q18
        try clear hx18
        try clear hcz11_0
        try clear hcz11_1
        try clear hcz11_2
        try clear hcz13_0
        try clear hcz13_1
        try clear hcz13_2
        try clear hcz16_0
        try clear hcz16_1
        try clear hcz16_2
        try clear hcz18_0
        try clear hcz18_1
        try clear hcz18_2
        try clear hcz19_0
        try clear hcz19_1
        try clear hcz19_2
        try clear hfz11_0
        try clear hfz11_1
        try clear hfz11_2
        try clear hfz13_0
        try clear hfz13_1
        try clear hfz13_2
        try clear hfz16_0
        try clear hfz16_1
        try clear hfz16_2
        try clear hfz18_0
        try clear hfz18_1
        try clear hfz18_2
        try clear hfz19_0
        try clear hfz19_1
        try clear hfz19_2
        try clear hx188_0
        try clear hx188_1
        try clear hx188_2
        try clear p188
        try clear p2
        try clear q188
        obtain ⟨kq, x38_8, rfl, HA, HJ8, HO_4, HO_7, BK189, HB⟩ := hcut
        cases kq with
        | zero => exact absurd HA.out (by simp [frame_Batch.j1])
        | succ kj8 =>
         have H := HA.out
         clear HA
         simp only [frame_Batch.j1] at H
         by_cases c21 : x38_8 = true
         ·subst c21
          have H1 : (some (([] : List Int), 3)) = some (r1, r2) := by rw [if_pos rfl] at H; exact H
          clear H
          have H := H1
          clear H1
          simp only [Option.some.injEq, Prod.mk.injEq] at H
          obtain ⟨rfl, rfl⟩ := H
          go_wp2
          go_ret2
          exact ⟨_, by first | rfl | (simp [errW_none, errW_some] <;> rfl) | (simp [*, errW_none, errW_some] <;> rfl), by first | exact Kd.R_nil _ _ _ _ _ | exact Kd.N_nil _ _ _ _ _ | exact Kd.V_nil _ _ _ _ _ | exact Kd.Q_nil _ _ _ _ _ | exact Kd.S_nil _ _ _ _ _, (belS HB.out)⟩
         ·replace c21 := Bool.eq_false_iff.mpr c21
          subst c21
          have H1 : (if ((rd_T49 l0 x18_1).f2) = true then ((some (([0, ((((rd_T49 l0 x18_1).f0).length : Int)) % 256] : List Int) : List Int)).bind fun y193 => (if x4_1.length + y193.length < 140737488355328 then ((some (x4_1 ++ y193 : List Int)).bind fun y196 => (if y196.length + ((rd_T49 l0 x18_1).f0).length < 140737488355328 then (frame_Batch.l0 kj8 (y196 ++ ((rd_T49 l0 x18_1).f0)) l0 (l0.length : Int) (wrap64 (x18_1 + 1))) else (none))) else (none))) else ((some (([1, ((((rd_T49 l0 x18_1).f0).length : Int)) % 256] : List Int) : List Int)).bind fun y202 => (if x4_1.length + y202.length < 140737488355328 then ((some (x4_1 ++ y202 : List Int)).bind fun y205 => (if y205.length + ((rd_T49 l0 x18_1).f0).length < 140737488355328 then ((octet_Put.f kj8 (y205 ++ ((rd_T49 l0 x18_1).f0)) (IntKind.u64.wrap ((t190.length : Int))) 2).bind fun t211 => (if t211.length + t190.length < 140737488355328 then (frame_Batch.l0 kj8 (t211 ++ t190) l0 (l0.length : Int) (wrap64 (x18_1 + 1))) else (none))) else (none))) else (none)))) = some (r1, r2) := by rw [if_neg (show ¬ (false = true) by decide)] at H; exact H
          clear H
          have H := H1
          clear H1
          by_cases c22 : ((rd_T49 l0 x18_1).f2) = true
          ·rw [if_pos c22] at H
           have c22b0 : ((rd_T49 l0 x18_1).f2) = true := c22
           clear c22
           obtain ⟨y193, hy193⟩ : ∃ y_ : List Int, y_ = (([0, ((((rd_T49 l0 x18_1).f0).length : Int)) % 256] : List Int)) := ⟨_, rfl⟩
           replace H : (if x4_1.length + y193.length < 140737488355328 then ((some (x4_1 ++ y193 : List Int)).bind fun y196 => (if y196.length + ((rd_T49 l0 x18_1).f0).length < 140737488355328 then (frame_Batch.l0 kj8 (y196 ++ ((rd_T49 l0 x18_1).f0)) l0 (l0.length : Int) (wrap64 (x18_1 + 1))) else (none))) else (none)) = some (r1, r2) := by first | (rw [hy193]; with_reducible exact H) | (have H2_ := (Option.bind_some _ _).symm.trans H; rw [hy193]; with_reducible exact H2_) | (have H2_ := (Option.bind_some _ _).symm.trans H; with_reducible exact H2_) | with_reducible exact H | (rw [hy193]; exact H) | exact H
           have Ny193 := Aside0.mk hy193
           clear hy193
           by_cases c23 : x4_1.length + y193.length < 140737488355328
           ·rw [if_pos c23] at H
            have LMc23 := Aside0.mk c23
            clear c23
            obtain ⟨y196, hy196⟩ : ∃ y_ : List Int, y_ = (x4_1 ++ y193) := ⟨_, rfl⟩
            replace H : (if y196.length + ((rd_T49 l0 x18_1).f0).length < 140737488355328 then (frame_Batch.l0 kj8 (y196 ++ ((rd_T49 l0 x18_1).f0)) l0 (l0.length : Int) (wrap64 (x18_1 + 1))) else (none)) = some (r1, r2) := by first | (rw [hy196]; with_reducible exact H) | (have H2_ := (Option.bind_some _ _).symm.trans H; rw [hy196]; with_reducible exact H2_) | (have H2_ := (Option.bind_some _ _).symm.trans H; with_reducible exact H2_) | with_reducible exact H | (rw [hy196]; exact H) | exact H
            have Ny196 := Aside0.mk hy196
            clear hy196
            by_cases c24 : y196.length + ((rd_T49 l0 x18_1).f0).length < 140737488355328
            ·rw [if_pos c24] at H
             have LMc24 := Aside0.mk c24
             clear c24
             obtain ⟨y199, hy199⟩ : ∃ y_ : List Int, y_ = (y196 ++ ((rd_T49 l0 x18_1).f0)) := ⟨_, rfl⟩
             replace H : (frame_Batch.l0 kj8 y199 l0 (l0.length : Int) (wrap64 (x18_1 + 1))) = some (r1, r2) := by first | (rw [hy199]; with_reducible exact H) | (have H2_ := (Option.bind_some _ _).symm.trans H; rw [hy199]; with_reducible exact H2_) | (have H2_ := (Option.bind_some _ _).symm.trans H; with_reducible exact H2_) | with_reducible exact H | (rw [hy199]; exact H) | exact H
             have Ny199 := Aside0.mk hy199
             clear hy199
             have H' := Aside0.mk H
             clear H
             have hcz25_0 : wc.cell? ⟨gb189, 0, none⟩ = some (.slice A188_0 ((rd_T49 l0 x18_1).f0).length c188_0) := (blk_cell BK189.out 0).trans rfl
             have hcz25_1 : wc.cell? ⟨gb189, 1, none⟩ = some (.slice A188_1 ((rd_T49 l0 x18_1).f1).length c188_1) := (blk_cell BK189.out 1).trans rfl
             have hcz25_2 : wc.cell? ⟨gb189, 2, none⟩ = some (.bool ((rd_T49 l0 x18_1).f2)) := (blk_cell BK189.out 2).trans rfl
             have hfz25_0 := blk_frozen BK189.out 0
             have hfz25_1 := blk_frozen BK189.out 1
             have hfz25_2 := blk_frozen BK189.out 2
             go_wp2_with (first | ((with_reducible refine gate_dst (N := 47) rfl ?_); (try (refine gate_guard (by rfl) ?_; dsimp only)); refine Kd.R_lit (Kd.int .u8) _ 5 ?hg (N := 47) ?hd (xs := ([0, ((((rd_T49 l0 x18_1).f0).length : Int)) % 256] : List Int)) (inner := [.int .u8 0, .int .u8 (((((rd_T49 l0 x18_1).f0).length : Int)) % 256)]) (ok := fun _ => True) (okp := fun _ => True) ?hr ?hp (fun _ hk => hk) trivial (Below.refl _ _) (Nat.le_refl _) (by simp) ?_; (case hd => rfl); (case hg => rfl); (case hr => first | (go_simp; done) | (go_simp; rfl)); (case hp => exact (Reps.one (show Kd.M (Kd.int .u8) _ _ _ 0 [.int .u8 0] from rfl) (Reps.one (show Kd.M (Kd.int .u8) _ _ _ (((((rd_T49 l0 x18_1).f0).length : Int)) % 256) [.int .u8 (((((rd_T49 l0 x18_1).f0).length : Int)) % 256)] from rfl) (Reps.none _ _)))); intro v194 w26 ho27 hb hg_ hnew_; clear hg_ hnew_; (first | rw [← Ny193.out] at ho27 | (simp only [Int.reduceToNat] at ho27; rw [← Ny193.out] at ho27)); have n0_ := Aside0.mk (Kd.R_elder' (rowN HO_4.out) (Kd.R_base ho27) hb); have n1_ := Aside0.mk (Kd.V_elder' (by (with_reducible repeat (first | apply Kd.V_alloc | apply Kd.V_drewN | apply Kd.V_drew)); exact HO_7.out) (Kd.R_base ho27) hb); have n2_ := Aside0.mk (Kd.R_lower (Kd.R_new' ho27 (Kd.R_lt (rowN HO_4.out))) (below_size (belS HB.out))); have n3_ := Aside0.mk (bkB BK189.out hb); have n4_ := Aside0.mk (below_step (belS HB.out) hb); clear HO_4; clear HO_7; clear BK189; clear HB; have HO_4 := n0_; have HO_7 := n1_; have HO195 := n2_; have BK189 := n3_; have HB := n4_; clear n0_ n1_ n2_ n3_ n4_; clear hb ho27; obtain ⟨Ao29, co29, eo29⟩ := Kd.R_slice HO195.out; subst eo29) | ((with_reducible refine gate_builtin (b := .append) (xs := #[.tmp 41, .tmp 47]) rfl ?_); (try (refine gate_guard (by rfl) ?_; dsimp only)); at_builtin; refine Kd.R_append_rows (Kd.int .u8) (w0 := w) w.heap.size rfl (.tmp 41) (.tmp 47) 23 5 (.int .u8 0) 1 rfl Try.underlying23 info5 rfl (by decide) (by omega) u4 x4_1 y193 _ _ _ (fun k_ => some k_ ≠ (.slice Ao29 y193.length co29 : Value).ownBlock) (fun _ => False) rfl rfl ?aO ?aR (fun _ _ h => h) (fun _ h => h.elim) ?aF ?aB ?aS ?aL ?_; (case aR => repeat (first | exact (Kd.R_reads' HO195.out).2.2 | (with_reducible refine Kd.C_alloc ?_ _) | (with_reducible refine Kd.C_drewN ?_ _) | (with_reducible refine Kd.C_drew ?_))); (case aB => exact (belS HB.out)); (case aF => exact (fun k_ hk => Kd.fresh' (Kd.R_lt (rowN HO195.out)) k_ hk)); (case aO => exact (by (with_reducible repeat (first | apply Kd.R_alloc | apply Kd.R_drewN | apply Kd.R_drew)); exact Kd.R_mono HO_4.out (fun _ hk => hk.2))); (case aS => exact (below_size (belS HB.out))); (case aL => have := LMc23.out; omega); intro v197 w28 ho hb hg hat; rw [← Ny196.out] at ho; have n0_ := Aside0.mk (Kd.V_afterv (ok := (fun k_ => some k_ ≠ (.slice Ao29 y193.length co29 : Value).ownBlock ∧ k_ ≠ gb189)) (by (with_reducible repeat (first | apply Kd.V_alloc | apply Kd.V_drewN | apply Kd.V_drew)); exact Kd.V_mono HO_7.out (fun _ hk => ⟨⟨hk.2, hk.1.2⟩, hk.1.1⟩)) hg hat); have n1_ := Aside0.mk (blk_grown (g := gb189) (o := .cells #[.slice A188_0 ((rd_T49 l0 x18_1).f0).length c188_0, .slice A188_1 ((rd_T49 l0 x18_1).f1).length c188_1, .bool ((rd_T49 l0 x18_1).f2)] 49 (0, 0)) (blkN BK189.out) hg (Kd.R_ne HO_4.out BK189.out (by decide))); have n2_ := Aside0.mk (Kd.R_after (ok := (fun _ => True)) (rowN HO195.out) hg hat); have n3_ := Aside0.mk (hb); have n4_ := Aside0.mk (ho); clear HO_7; clear BK189; clear HO195; clear HB; clear HO_4; have HO_7 := n0_; have BK189 := n1_; have HO195 := n2_; have HB := n3_; have HO198 := n4_; clear n0_ n1_ n2_ n3_ n4_; clear ho hb hg hat; have hcz30_0 : w28.cell? ⟨gb189, 0, none⟩ = some (.slice A188_0 ((rd_T49 l0 x18_1).f0).length c188_0) := (blk_cell BK189.out 0).trans rfl; have hcz30_1 : w28.cell? ⟨gb189, 1, none⟩ = some (.slice A188_1 ((rd_T49 l0 x18_1).f1).length c188_1) := (blk_cell BK189.out 1).trans rfl; have hcz30_2 : w28.cell? ⟨gb189, 2, none⟩ = some (.bool ((rd_T49 l0 x18_1).f2)) := (blk_cell BK189.out 2).trans rfl; have hfz30_0 := blk_frozen BK189.out 0; have hfz30_1 := blk_frozen BK189.out 1; have hfz30_2 := blk_frozen BK189.out 2) | ((with_reducible refine gate_builtin (b := .append) (xs := #[.tmp 49, .tmp 51]) rfl ?_); (try (refine gate_guard (by rfl) ?_; dsimp only)); at_builtin; refine Kd.R_append_rows (Kd.int .u8) (w0 := w) w.heap.size rfl (.tmp 49) (.tmp 51) 23 5 (.int .u8 0) 1 rfl Try.underlying23 info5 rfl (by decide) (by omega) v197 y196 ((rd_T49 l0 x18_1).f0) _ _ _ (fun k_ => some k_ ≠ (.slice Ao29 y193.length co29 : Value).ownBlock) (fun _ => False) rfl rfl ?aO ?aR (fun _ _ h => h) (fun _ h => h.elim) ?aF ?aB ?aS ?aL ?_; (case aR => repeat (first | exact (Kd.C_below HR188_0.out HB.out) | (with_reducible refine Kd.C_alloc ?_ _) | (with_reducible refine Kd.C_drewN ?_ _) | (with_reducible refine Kd.C_drew ?_))); (case aB => exact (belS HB.out)); (case aF => exact (fun k_ hk => Kd.fresh' (Kd.R_lt (rowN HO195.out)) k_ hk)); (case aO => exact (rowN HO198.out)); (case aS => exact (below_size (belS HB.out))); (case aL => have := LMc24.out; omega); intro v200 w31 ho hb hg hat; rw [← Ny199.out] at ho; have n0_ := Aside0.mk (Kd.V_afterv (ok := (fun k_ => some k_ ≠ (.slice Ao29 y193.length co29 : Value).ownBlock ∧ k_ ≠ gb189)) (by (with_reducible repeat (first | apply Kd.V_alloc | apply Kd.V_drewN | apply Kd.V_drew)); exact HO_7.out) hg hat); have n1_ := Aside0.mk (blk_grown (g := gb189) (o := .cells #[.slice A188_0 ((rd_T49 l0 x18_1).f0).length c188_0, .slice A188_1 ((rd_T49 l0 x18_1).f1).length c188_1, .bool ((rd_T49 l0 x18_1).f2)] 49 (0, 0)) (blkN BK189.out) hg (Kd.R_ne HO198.out BK189.out (by decide))); have n2_ := Aside0.mk (Kd.R_after (ok := (fun _ => True)) (rowN HO195.out) hg hat); have n3_ := Aside0.mk (hb); have n4_ := Aside0.mk (ho); clear HO_7; clear BK189; clear HO195; clear HB; clear HO198; have HO_7 := n0_; have BK189 := n1_; have HO195 := n2_; have HB := n3_; have HO201 := n4_; clear n0_ n1_ n2_ n3_ n4_; clear ho hb hg hat; have hcz32_0 : w31.cell? ⟨gb189, 0, none⟩ = some (.slice A188_0 ((rd_T49 l0 x18_1).f0).length c188_0) := (blk_cell BK189.out 0).trans rfl; have hcz32_1 : w31.cell? ⟨gb189, 1, none⟩ = some (.slice A188_1 ((rd_T49 l0 x18_1).f1).length c188_1) := (blk_cell BK189.out 1).trans rfl; have hcz32_2 : w31.cell? ⟨gb189, 2, none⟩ = some (.bool ((rd_T49 l0 x18_1).f2)) := (blk_cell BK189.out 2).trans rfl; have hfz32_0 := blk_frozen BK189.out 0; have hfz32_1 := blk_frozen BK189.out 1; have hfz32_2 := blk_frozen BK189.out 2))
             go_roundg kj8
             case measure => have := HK1.out; have := HJ8.out; omega
             case rel => exact ⟨(y199), (wrap64 (x18_1 + 1)), (by first | rfl | (simp; done) | (simp [*]; done)), H', ⟨by have := HK1.out; have := HJ8.out; omega⟩, ⟨by (with_reducible repeat (first | apply Kd.R_alloc | apply Kd.R_drewN | apply Kd.R_drew)); exact Kd.R_mono HO201.out (fun _ hk => trivial)⟩, ⟨(belS HB.out)⟩⟩
            ·rw [if_neg c24] at H
             exact absurd H (by simp)
           ·rw [if_neg c23] at H
            exact absurd H (by simp)
          ·rw [if_neg c22] at H
           have c22b0 : ((rd_T49 l0 x18_1).f2) = false := by simpa using c22
           clear c22
           obtain ⟨y202, hy202⟩ : ∃ y_ : List Int, y_ = (([1, ((((rd_T49 l0 x18_1).f0).length : Int)) % 256] : List Int)) := ⟨_, rfl⟩
           replace H : (if x4_1.length + y202.length < 140737488355328 then ((some (x4_1 ++ y202 : List Int)).bind fun y205 => (if y205.length + ((rd_T49 l0 x18_1).f0).length < 140737488355328 then ((octet_Put.f kj8 (y205 ++ ((rd_T49 l0 x18_1).f0)) (IntKind.u64.wrap ((t190.length : Int))) 2).bind fun t211 => (if t211.length + t190.length < 140737488355328 then (frame_Batch.l0 kj8 (t211 ++ t190) l0 (l0.length : Int) (wrap64 (x18_1 + 1))) else (none))) else (none))) else (none)) = some (r1, r2) := by first | (rw [hy202]; with_reducible exact H) | (have H2_ := (Option.bind_some _ _).symm.trans H; rw [hy202]; with_reducible exact H2_) | (have H2_ := (Option.bind_some _ _).symm.trans H; with_reducible exact H2_) | with_reducible exact H | (rw [hy202]; exact H) | exact H
           have Ny202 := Aside0.mk hy202
           clear hy202
           by_cases c33 : x4_1.length + y202.length < 140737488355328
           ·rw [if_pos c33] at H
            have LMc33 := Aside0.mk c33
            clear c33
            obtain ⟨y205, hy205⟩ : ∃ y_ : List Int, y_ = (x4_1 ++ y202) := ⟨_, rfl⟩
            replace H : (if y205.length + ((rd_T49 l0 x18_1).f0).length < 140737488355328 then ((octet_Put.f kj8 (y205 ++ ((rd_T49 l0 x18_1).f0)) (IntKind.u64.wrap ((t190.length : Int))) 2).bind fun t211 => (if t211.length + t190.length < 140737488355328 then (frame_Batch.l0 kj8 (t211 ++ t190) l0 (l0.length : Int) (wrap64 (x18_1 + 1))) else (none))) else (none)) = some (r1, r2) := by first | (rw [hy205]; with_reducible exact H) | (have H2_ := (Option.bind_some _ _).symm.trans H; rw [hy205]; with_reducible exact H2_) | (have H2_ := (Option.bind_some _ _).symm.trans H; with_reducible exact H2_) | with_reducible exact H | (rw [hy205]; exact H) | exact H
            have Ny205 := Aside0.mk hy205
            clear hy205
            by_cases c34 : y205.length + ((rd_T49 l0 x18_1).f0).length < 140737488355328
            ·rw [if_pos c34] at H
             have LMc34 := Aside0.mk c34
             clear c34
             obtain ⟨y208, hy208⟩ : ∃ y_ : List Int, y_ = (y205 ++ ((rd_T49 l0 x18_1).f0)) := ⟨_, rfl⟩
             replace H : ((octet_Put.f kj8 y208 (IntKind.u64.wrap ((t190.length : Int))) 2).bind fun t211 => (if t211.length + t190.length < 140737488355328 then (frame_Batch.l0 kj8 (t211 ++ t190) l0 (l0.length : Int) (wrap64 (x18_1 + 1))) else (none))) = some (r1, r2) := by first | (rw [hy208]; with_reducible exact H) | (have H2_ := (Option.bind_some _ _).symm.trans H; rw [hy208]; with_reducible exact H2_) | (have H2_ := (Option.bind_some _ _).symm.trans H; with_reducible exact H2_) | with_reducible exact H | (rw [hy208]; exact H) | exact H
             have Ny208 := Aside0.mk hy208
             clear hy208
             replace H := Option.bind_eq_some_iff.mp H
             obtain ⟨t211, A350, H⟩ := H
             replace H : (if t211.length + t190.length < 140737488355328 then (frame_Batch.l0 kj8 (t211 ++ t190) l0 (l0.length : Int) (wrap64 (x18_1 + 1))) else (none)) = some (r1, r2) := H
             have A35 := Aside0.mk A350
             clear A350
             by_cases c36 : t211.length + t190.length < 140737488355328
             ·rw [if_pos c36] at H
              have LMc36 := Aside0.mk c36
              clear c36
              obtain ⟨y214, hy214⟩ : ∃ y_ : List Int, y_ = (t211 ++ t190) := ⟨_, rfl⟩
              replace H : (frame_Batch.l0 kj8 y214 l0 (l0.length : Int) (wrap64 (x18_1 + 1))) = some (r1, r2) := by first | (rw [hy214]; with_reducible exact H) | (have H2_ := (Option.bind_some _ _).symm.trans H; rw [hy214]; with_reducible exact H2_) | (have H2_ := (Option.bind_some _ _).symm.trans H; with_reducible exact H2_) | with_reducible exact H | (rw [hy214]; exact H) | exact H
              have Ny214 := Aside0.mk hy214
              clear hy214
              have H' := Aside0.mk H
              clear H
              have hcz37_0 : wc.cell? ⟨gb189, 0, none⟩ = some (.slice A188_0 ((rd_T49 l0 x18_1).f0).length c188_0) := (blk_cell BK189.out 0).trans rfl
              have hcz37_1 : wc.cell? ⟨gb189, 1, none⟩ = some (.slice A188_1 ((rd_T49 l0 x18_1).f1).length c188_1) := (blk_cell BK189.out 1).trans rfl
              have hcz37_2 : wc.cell? ⟨gb189, 2, none⟩ = some (.bool ((rd_T49 l0 x18_1).f2)) := (blk_cell BK189.out 2).trans rfl
              have hfz37_0 := blk_frozen BK189.out 0
              have hfz37_1 := blk_frozen BK189.out 1
              have hfz37_2 := blk_frozen BK189.out 2
              go_wp2_with (first | ((with_reducible refine gate_dst (N := 47) rfl ?_); (try (refine gate_guard (by rfl) ?_; dsimp only)); refine Kd.R_lit (Kd.int .u8) _ 5 ?hg (N := 47) ?hd (xs := ([1, ((((rd_T49 l0 x18_1).f0).length : Int)) % 256] : List Int)) (inner := [.int .u8 1, .int .u8 (((((rd_T49 l0 x18_1).f0).length : Int)) % 256)]) (ok := fun _ => True) (okp := fun _ => True) ?hr ?hp (fun _ hk => hk) trivial (Below.refl _ _) (Nat.le_refl _) (by simp) ?_; (case hd => rfl); (case hg => rfl); (case hr => first | (go_simp; done) | (go_simp; rfl)); (case hp => exact (Reps.one (show Kd.M (Kd.int .u8) _ _ _ 1 [.int .u8 1] from rfl) (Reps.one (show Kd.M (Kd.int .u8) _ _ _ (((((rd_T49 l0 x18_1).f0).length : Int)) % 256) [.int .u8 (((((rd_T49 l0 x18_1).f0).length : Int)) % 256)] from rfl) (Reps.none _ _)))); intro v203 w38 ho39 hb hg_ hnew_; clear hg_ hnew_; (first | rw [← Ny202.out] at ho39 | (simp only [Int.reduceToNat] at ho39; rw [← Ny202.out] at ho39)); have n0_ := Aside0.mk (Kd.R_elder' (rowN HO_4.out) (Kd.R_base ho39) hb); have n1_ := Aside0.mk (Kd.V_elder' (by (with_reducible repeat (first | apply Kd.V_alloc | apply Kd.V_drewN | apply Kd.V_drew)); exact HO_7.out) (Kd.R_base ho39) hb); have n2_ := Aside0.mk (Kd.R_lower (Kd.R_new' ho39 (Kd.R_lt (rowN HO_4.out))) (below_size (belS HB.out))); have n3_ := Aside0.mk (bkB BK189.out hb); have n4_ := Aside0.mk (below_step (belS HB.out) hb); clear HO_4; clear HO_7; clear BK189; clear HB; have HO_4 := n0_; have HO_7 := n1_; have HO204 := n2_; have BK189 := n3_; have HB := n4_; clear n0_ n1_ n2_ n3_ n4_; clear hb ho39; obtain ⟨Ao41, co41, eo41⟩ := Kd.R_slice HO204.out; subst eo41) | ((with_reducible refine gate_builtin (b := .append) (xs := #[.tmp 41, .tmp 47]) rfl ?_); (try (refine gate_guard (by rfl) ?_; dsimp only)); at_builtin; refine Kd.R_append_rows (Kd.int .u8) (w0 := w) w.heap.size rfl (.tmp 41) (.tmp 47) 23 5 (.int .u8 0) 1 rfl Try.underlying23 info5 rfl (by decide) (by omega) u4 x4_1 y202 _ _ _ (fun k_ => some k_ ≠ (.slice Ao41 y202.length co41 : Value).ownBlock) (fun _ => False) rfl rfl ?aO ?aR (fun _ _ h => h) (fun _ h => h.elim) ?aF ?aB ?aS ?aL ?_; (case aR => repeat (first | exact (Kd.R_reads' HO204.out).2.2 | (with_reducible refine Kd.C_alloc ?_ _) | (with_reducible refine Kd.C_drewN ?_ _) | (with_reducible refine Kd.C_drew ?_))); (case aB => exact (belS HB.out)); (case aF => exact (fun k_ hk => Kd.fresh' (Kd.R_lt (rowN HO204.out)) k_ hk)); (case aO => exact (by (with_reducible repeat (first | apply Kd.R_alloc | apply Kd.R_drewN | apply Kd.R_drew)); exact Kd.R_mono HO_4.out (fun _ hk => hk.2))); (case aS => exact (below_size (belS HB.out))); (case aL => have := LMc33.out; omega); intro v206 w40 ho hb hg hat; rw [← Ny205.out] at ho; have n0_ := Aside0.mk (Kd.V_afterv (ok := (fun k_ => some k_ ≠ (.slice Ao41 y202.length co41 : Value).ownBlock ∧ k_ ≠ gb189)) (by (with_reducible repeat (first | apply Kd.V_alloc | apply Kd.V_drewN | apply Kd.V_drew)); exact Kd.V_mono HO_7.out (fun _ hk => ⟨⟨hk.2, hk.1.2⟩, hk.1.1⟩)) hg hat); have n1_ := Aside0.mk (blk_grown (g := gb189) (o := .cells #[.slice A188_0 ((rd_T49 l0 x18_1).f0).length c188_0, .slice A188_1 ((rd_T49 l0 x18_1).f1).length c188_1, .bool ((rd_T49 l0 x18_1).f2)] 49 (0, 0)) (blkN BK189.out) hg (Kd.R_ne HO_4.out BK189.out (by decide))); have n2_ := Aside0.mk (Kd.R_after (ok := (fun _ => True)) (rowN HO204.out) hg hat); have n3_ := Aside0.mk (hb); have n4_ := Aside0.mk (ho); clear HO_7; clear BK189; clear HO204; clear HB; clear HO_4; have HO_7 := n0_; have BK189 := n1_; have HO204 := n2_; have HB := n3_; have HO207 := n4_; clear n0_ n1_ n2_ n3_ n4_; clear ho hb hg hat; have hcz42_0 : w40.cell? ⟨gb189, 0, none⟩ = some (.slice A188_0 ((rd_T49 l0 x18_1).f0).length c188_0) := (blk_cell BK189.out 0).trans rfl; have hcz42_1 : w40.cell? ⟨gb189, 1, none⟩ = some (.slice A188_1 ((rd_T49 l0 x18_1).f1).length c188_1) := (blk_cell BK189.out 1).trans rfl; have hcz42_2 : w40.cell? ⟨gb189, 2, none⟩ = some (.bool ((rd_T49 l0 x18_1).f2)) := (blk_cell BK189.out 2).trans rfl; have hfz42_0 := blk_frozen BK189.out 0; have hfz42_1 := blk_frozen BK189.out 1; have hfz42_2 := blk_frozen BK189.out 2) | ((with_reducible refine gate_builtin (b := .append) (xs := #[.tmp 49, .tmp 51]) rfl ?_); (try (refine gate_guard (by rfl) ?_; dsimp only)); at_builtin; refine Kd.R_append_rows (Kd.int .u8) (w0 := w) w.heap.size rfl (.tmp 49) (.tmp 51) 23 5 (.int .u8 0) 1 rfl Try.underlying23 info5 rfl (by decide) (by omega) v206 y205 ((rd_T49 l0 x18_1).f0) _ _ _ (fun k_ => some k_ ≠ (.slice Ao41 y202.length co41 : Value).ownBlock) (fun _ => False) rfl rfl ?aO ?aR (fun _ _ h => h) (fun _ h => h.elim) ?aF ?aB ?aS ?aL ?_; (case aR => repeat (first | exact (Kd.C_below HR188_0.out HB.out) | (with_reducible refine Kd.C_alloc ?_ _) | (with_reducible refine Kd.C_drewN ?_ _) | (with_reducible refine Kd.C_drew ?_))); (case aB => exact (belS HB.out)); (case aF => exact (fun k_ hk => Kd.fresh' (Kd.R_lt (rowN HO204.out)) k_ hk)); (case aO => exact (rowN HO207.out)); (case aS => exact (below_size (belS HB.out))); (case aL => have := LMc34.out; omega); intro v209 w43 ho hb hg hat; rw [← Ny208.out] at ho; have n0_ := Aside0.mk (Kd.V_afterv (ok := (fun k_ => some k_ ≠ (.slice Ao41 y202.length co41 : Value).ownBlock ∧ k_ ≠ gb189)) (by (with_reducible repeat (first | apply Kd.V_alloc | apply Kd.V_drewN | apply Kd.V_drew)); exact HO_7.out) hg hat); have n1_ := Aside0.mk (blk_grown (g := gb189) (o := .cells #[.slice A188_0 ((rd_T49 l0 x18_1).f0).length c188_0, .slice A188_1 ((rd_T49 l0 x18_1).f1).length c188_1, .bool ((rd_T49 l0 x18_1).f2)] 49 (0, 0)) (blkN BK189.out) hg (Kd.R_ne HO207.out BK189.out (by decide))); have n2_ := Aside0.mk (Kd.R_after (ok := (fun _ => True)) (rowN HO204.out) hg hat); have n3_ := Aside0.mk (hb); have n4_ := Aside0.mk (ho); clear HO_7; clear BK189; clear HO204; clear HB; clear HO207; have HO_7 := n0_; have BK189 := n1_; have HO204 := n2_; have HB := n3_; have HO210 := n4_; clear n0_ n1_ n2_ n3_ n4_; clear ho hb hg hat; have hcz44_0 : w43.cell? ⟨gb189, 0, none⟩ = some (.slice A188_0 ((rd_T49 l0 x18_1).f0).length c188_0) := (blk_cell BK189.out 0).trans rfl; have hcz44_1 : w43.cell? ⟨gb189, 1, none⟩ = some (.slice A188_1 ((rd_T49 l0 x18_1).f1).length c188_1) := (blk_cell BK189.out 1).trans rfl; have hcz44_2 : w43.cell? ⟨gb189, 2, none⟩ = some (.bool ((rd_T49 l0 x18_1).f2)) := (blk_cell BK189.out 2).trans rfl; have hfz44_0 := blk_frozen BK189.out 0; have hfz44_1 := blk_frozen BK189.out 1; have hfz44_2 := blk_frozen BK189.out 2; obtain ⟨Ao45, co45, eo45⟩ := Kd.V_slice HO_7.out; subst eo45; obtain ⟨Ao46, co46, eo46⟩ := Kd.R_slice HO210.out; subst eo46) | ((with_reducible refine gate_callee (f := 39) rfl ?_); refine goesL_ (some 60) rfl rfl Try.func39 (by kernel_rfl) rfl #[.slice Ao46 y208.length co46, .int .u64 (IntKind.u64.wrap ((t190.length : Int))), .int .i64 2] rfl argN ?_; (with_reducible refine (octet_Put.calls kj8 _ _ y208 (IntKind.u64.wrap ((t190.length : Int))) 2 t211 _ ?side1 ?side2 A35.out).mono ?_); (case side1 => repeat (first | exact (Kd.R_reads' HO210.out).2.2 | (with_reducible refine Kd.C_alloc ?_ _) | (with_reducible refine Kd.C_drewN ?_ _) | (with_reducible refine Kd.C_drew ?_))); (case side2 => exact (Kd.R_reads' HO210.out).2.1); rintro e w47 ⟨v212, rfl, ho0, hb⟩; refine ⟨_, rfl, ?_⟩; have n0_ := Aside0.mk (Kd.V_elder' (by (with_reducible repeat (first | apply Kd.V_alloc | apply Kd.V_drewN | apply Kd.V_drew)); exact HO_7.out) (Kd.R_base ho0) hb); have n1_ := Aside0.mk (Kd.R_elder' (rowN HO204.out) (Kd.R_base ho0) hb); have n2_ := Aside0.mk (Kd.R_elder' (rowN HO210.out) (Kd.R_base ho0) hb); have n3_ := Aside0.mk (Kd.R_lower (Kd.R_new' (Kd.R_new' ho0 (Kd.R_lt (rowN HO204.out))) (Kd.R_lt (rowN HO210.out))) (below_size (belS HB.out))); have n4_ := Aside0.mk (bkB BK189.out hb); have n5_ := Aside0.mk (below_step (belS HB.out) hb); clear HO_7; clear HO204; clear HO210; clear BK189; clear HB; have HO_7 := n0_; have HO204 := n1_; have HO210 := n2_; have HO213 := n3_; have BK189 := n4_; have HB := n5_; clear n0_ n1_ n2_ n3_ n4_ n5_; (try clear hb); (try clear hk); (try clear ho0)) | ((with_reducible refine gate_builtin (b := .append) (xs := #[.tmp 60, .tmp 61]) rfl ?_); (try (refine gate_guard (by rfl) ?_; dsimp only)); at_builtin; refine Kd.R_append_rows (Kd.int .u8) (w0 := w) w.heap.size rfl (.tmp 60) (.tmp 61) 23 5 (.int .u8 0) 1 rfl Try.underlying23 info5 rfl (by decide) (by omega) v212 t211 t190 _ _ _ (fun k_ => some k_ ≠ (.slice Ao41 y202.length co41 : Value).ownBlock ∧ some k_ ≠ (.slice Ao46 y208.length co46 : Value).ownBlock) (fun _ => False) rfl rfl ?aO ?aR (fun _ _ h => h) (fun _ h => h.elim) ?aF ?aB ?aS ?aL ?_; (case aR => repeat (first | exact (Kd.V_reads' HO_7.out).2.2 | (with_reducible refine Kd.C_alloc ?_ _) | (with_reducible refine Kd.C_drewN ?_ _) | (with_reducible refine Kd.C_drew ?_))); (case aB => exact (belS HB.out)); (case aF => exact (fun k_ hk => ⟨Kd.fresh' (Kd.R_lt (rowN HO204.out)) k_ hk, Kd.fresh' (Kd.R_lt (rowN HO210.out)) k_ hk⟩)); (case aO => exact (by (with_reducible repeat (first | apply Kd.R_alloc | apply Kd.R_drewN | apply Kd.R_drew)); exact Kd.R_mono HO213.out (fun _ hk => ⟨hk.1.2, hk.2⟩))); (case aS => exact (below_size (belS HB.out))); (case aL => have := LMc36.out; omega); intro v215 w48 ho hb hg hat; rw [← Ny214.out] at ho; have n0_ := Aside0.mk (Kd.V_afterv (ok := (fun k_ => some k_ ≠ (.slice Ao41 y202.length co41 : Value).ownBlock ∧ some k_ ≠ (.slice Ao46 y208.length co46 : Value).ownBlock ∧ k_ ≠ gb189)) (by (with_reducible repeat (first | apply Kd.V_alloc | apply Kd.V_drewN | apply Kd.V_drew)); exact Kd.V_mono HO_7.out (fun _ hk => ⟨⟨hk.1.1.1, ⟨hk.1.2, hk.1.1.2⟩⟩, hk.2⟩)) hg hat); have n1_ := Aside0.mk (blk_grown (g := gb189) (o := .cells #[.slice A188_0 ((rd_T49 l0 x18_1).f0).length c188_0, .slice A188_1 ((rd_T49 l0 x18_1).f1).length c188_1, .bool ((rd_T49 l0 x18_1).f2)] 49 (0, 0)) (blkN BK189.out) hg (Kd.R_ne HO213.out BK189.out (by decide))); have n2_ := Aside0.mk (Kd.R_after (ok := (fun k_ => some k_ ≠ (.slice Ao46 y208.length co46 : Value).ownBlock)) (by (with_reducible repeat (first | apply Kd.R_alloc | apply Kd.R_drewN | apply Kd.R_drew)); exact Kd.R_mono HO204.out (fun _ hk => ⟨hk.1.2, hk.2⟩)) hg hat); have n3_ := Aside0.mk (Kd.R_after (ok := (fun k_ => some k_ ≠ (.slice Ao41 y202.length co41 : Value).ownBlock)) (rowN HO210.out) hg hat); have n4_ := Aside0.mk (hb); have n5_ := Aside0.mk (ho); clear HO_7; clear BK189; clear HO204; clear HO210; clear HB; clear HO213; have HO_7 := n0_; have BK189 := n1_; have HO204 := n2_; have HO210 := n3_; have HB := n4_; have HO216 := n5_; clear n0_ n1_ n2_ n3_ n4_ n5_; clear ho hb hg hat))
              go_roundg kj8
              case measure => have := HK1.out; have := HJ8.out; omega
              case rel => exact ⟨(y214), (wrap64 (x18_1 + 1)), (by first | rfl | (simp; done) | (simp [*]; done)), H', ⟨by have := HK1.out; have := HJ8.out; omega⟩, ⟨by (with_reducible repeat (first | apply Kd.R_alloc | apply Kd.R_drewN | apply Kd.R_drew)); exact Kd.R_mono HO216.out (fun _ hk => trivial)⟩, ⟨(belS HB.out)⟩⟩
             ·rw [if_neg c36] at H
              exact absurd H (by simp)
            ·rw [if_neg c34] at H
             exact absurd H (by simp)
           ·rw [if_neg c33] at H
            exact absurd H (by simp)
      ·rw [if_neg c7] at H
       exact absurd H (by simp)
     ·rw [if_neg c6] at H
      exact absurd H (by simp)
    ·rw [if_neg c5] at H
     have c5b0 : decide (x18_1 < (l0.length : Int)) = false := decide_eq_false c5
     clear c5
     simp only [Option.some.injEq, Prod.mk.injEq] at H
     obtain ⟨rfl, rfl⟩ := H
     go_wp2
     go_ret2
     exact ⟨_, by first | rfl | (simp [errW_none, errW_some] <;> rfl) | (simp [*, errW_none, errW_some] <;> rfl), (rowN HO_4.out), (belN HB.out)⟩

/-! ### a constant's bytes -/
theorem constb_lit {P : Program} {ops : Array Oper} {rest : List Oper} {o : Oper} {a : Act} {Q : Exit → Act → World → Prop} {W : World} {n E : Nat} {inner : List Value} (hgd : o.guard = none)
    (hrun : (execOp a.eval o).run P W = .ok (.value (.slice (some ⟨W.heap.size, 0, none⟩) n n)) (W.alloc (.cells inner.toArray E)))
    (h : wpList P ops Q rest (a.put o.dst (.slice (some ⟨W.heap.size, 0, none⟩) n n)) (W.alloc (.cells inner.toArray E))) : wpList P ops Q (o :: rest) a W := Kd.event_run hgd hrun h
theorem constb_conv {P : Program} {ops : Array Oper} {rest : List Oper} {o : Oper} {a : Act} {Q : Exit → Act → World → Prop} {W : World} (T E : TypeId) {N1 N2 : Tmp} {xs : List Int} {C : Array Value} (hgd : o.guard = none) (hd : o.dst = some N2)
    (ho : o.op = .convert T T (.tmp N1)) (hC : C = (xs.map (Value.int .u8)).toArray) (hv : a.eval (.tmp N1) = .slice (some ⟨W.heap.size, 0, none⟩) xs.length xs.length) (ht : P.underlying T = some (.slice E)) (he : P.underlying E = some (.int .u8)) (hm : xs.length ≤ 9223372036854775807)
    (h : ∀ v1 w1, Kd.V (Kd.int .u8) E w1 W.heap.size (fun k_ => W.heap.size ≤ k_) v1 xs → Below W.heap.size W w1 → wpList P ops Q rest (a.put (some N2) v1) w1) : wpList P ops Q (o :: rest) a (W.alloc (.cells C E)) := by
  have hrun : (execOp a.eval o).run P (W.alloc (.cells C E)) = .ok (.value (.slice (some ⟨W.heap.size, 0, none⟩) xs.length xs.length)) (W.alloc (.cells C E (C.size, C.size + 1))) := by
    unfold execOp
    rw [ho]
    simp only [hv, Sem.run_bind, Sem.run_pure, Lib.run_convert_bytes_const W T E C xs.length xs.length ht he, Result.andThen_ok]
  refine Kd.event_run hgd hrun ?_
  rw [hd]
  refine h _ _ ⟨_, _, rfl, Nat.le_refl _, ?_⟩ (below_alloc (Below.refl _ _) _)
  intro W' hW
  have hlt : W.heap.size < (W.alloc (.cells C E (C.size, C.size + 1))).heap.size := by simp
  have hb : W'.heap[W.heap.size]? = some (.cells C E (C.size, C.size + 1)) := by
    rw [hW W.heap.size (Nat.le_refl _) hlt]
    show (W.heap.push _)[W.heap.size]? = _
    simp
  refine ⟨rfl, hm, fun _ => ⟨_, rfl, fun j p hj => ⟨[Value.int .u8 p], rfl, rfl, fun i u hu => ?_⟩⟩⟩
  have hi : i = 0 := by
    rcases i with _ | i
    · rfl
    · simp at hu
  subst hi
  obtain rfl : Value.int .u8 p = u := by simpa using hu
  rw [add_plain]
  have hj2 : C[j]? = some (Value.int .u8 p) := by
    rw [hC]
    simp [hj]
  simp only [World.cell?, hb]
  simpa [Kd.int, Kd.scalar] using hj2

end Go.Proofs.Ytmimfnangdabmaa.PFrameNumbers

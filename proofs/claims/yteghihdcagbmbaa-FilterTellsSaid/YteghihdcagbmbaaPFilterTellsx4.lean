/- The walk of the Go functions that a law reaches, told as plain functions; a program of this session has written it. No condition beyond the statement's own. -/
import Derived.Test.YteghihdcagbmbaaPFilterTellsx0
import Derived.Test.YteghihdcagbmbaaPFilterTellsx1
import Derived.Test.YteghihdcagbmbaaPFilterTellsx3
namespace Go.Proofs.Yteghihdcagbmbaa.PFilterTells
open Go.RowKit Go.Proofs.YteghihdcagbmbaaW.PrintWords Go.Proofs.YteghihdcagbmbaaW.PrintLast Go.Proofs.YteghihdcagbmbaaW.PrintMore
attribute [local go_sem] max2_int min2_int max_two min_two max_three min_three max_four min_four   -- for this text's walks alone
set_option linter.unusedVariables false
set_option linter.unusedSimpArgs false

/-! ### filter_Right: function 19 -/
def filter_Right.j0 : Nat → Int → Bool → ByteArray → Int → List ByteArray → Option (Bool)
 | 0, _, _, _, _, _ => none
 | k + 1, x9, x10, x157000, x157001, x157002 => if x10 = true then ((slices_ContainsFunc_string_string_of_filter_Right_1.f k x157002).bind fun t158 => (if (x157002.length : Int) > 0 then (if (x157002.length : Int) ≤ 8 then (some (!t158)) else (some false)) else (some false))) else (if x9 = 3 then (some ((x157002.length : Int) == 0)) else (if x9 = 4 then (some ((x157002.length : Int) == 0)) else (some false)))
def filter_Right.f (k : Nat) (a0_0 : ByteArray) (a0_1 : Int) (l0_2 : List ByteArray) : Option (Bool) := (name_Right.f k a0_0).bind fun t157 => (if t157 = true then (if a0_1 = 1 then (filter_Right.j0 k a0_1 (a0_1 == 1) a0_0 a0_1 l0_2) else (filter_Right.j0 k a0_1 (a0_1 == 2) a0_0 a0_1 l0_2)) else (some false))
theorem filter_Right.mono_l : ∀ k, (∀ y0 y1 y2 y3 y4, LeO (filter_Right.j0 k y0 y1 y2 y3 y4) (filter_Right.j0 (k + 1) y0 y1 y2 y3 y4))
 | 0 => fun _ _ _ _ _ r h => by simp [filter_Right.j0] at h
 | k + 1 => by
  have ih0 := filter_Right.mono_l k
  ·intro y0 y1 y2 y3 y4
   unfold filter_Right.j0
   repeat' first
   | (with_reducible exact ih0 _ _ _ _ _)
   | (with_reducible exact name_Right.mono _ _)
   | (with_reducible exact slices_ContainsFunc_string_string_of_filter_Right_1.mono _ _)
   | (with_reducible exact LeO.refl _)
   | (with_reducible exact LeO.none _)
   | (with_reducible refine LeO.ite ?_ ?_)
   | (with_reducible refine LeO.bind ?_ (fun _ => ?_))
   | exact ih0 _ _ _ _ _
   | exact name_Right.mono _ _
   | exact slices_ContainsFunc_string_string_of_filter_Right_1.mono _ _
   | exact LeO.none _
   | refine LeO.ite ?_ ?_
   | refine LeO.bind ?_ (fun _ => ?_)
theorem filter_Right.mono : ∀ a0 a1 a2 k, LeO (filter_Right.f k a0 a1 a2) (filter_Right.f (k + 1) a0 a1 a2) := by
 intro a0 a1 a2 k
 have ih0 := filter_Right.mono_l k
 unfold filter_Right.f
 repeat' first
   | (with_reducible exact ih0 _ _ _ _ _)
   | (with_reducible exact name_Right.mono _ _)
   | (with_reducible exact slices_ContainsFunc_string_string_of_filter_Right_1.mono _ _)
   | (with_reducible exact LeO.refl _)
   | (with_reducible exact LeO.none _)
   | (with_reducible refine LeO.ite ?_ ?_)
   | (with_reducible refine LeO.bind ?_ (fun _ => ?_))
   | exact ih0 _ _ _ _ _
   | exact name_Right.mono _ _
   | exact slices_ContainsFunc_string_string_of_filter_Right_1.mono _ _
   | exact LeO.none _
   | refine LeO.ite ?_ ?_
   | refine LeO.bind ?_ (fun _ => ?_)
set_option maxHeartbeats 8000000 in
set_option maxRecDepth 100000 in
theorem filter_Right.calls (k : Nat) (a0_0 : ByteArray) (a0_1 : Int) (A0_2 : Option Addr) (c0_2 : Nat) (l0_2 : List ByteArray) (r : Bool) (w : World) (hr0_2 : Kd.C Kd.string w A0_2 l0_2.length l0_2) (hc0_2 : l0_2.length ≤ c0_2) (h : filter_Right.f k a0_0 a0_1 l0_2 = some r) :
  Calls Try.prog 19 #[.agg #[.string a0_0, .int .i64 a0_1, .slice A0_2 l0_2.length c0_2]] w fun e w' => e = .returned (.bool r) ∧ Below w.heap.size w w' := by
 have hu29 := Try.underlying29
 have HR0_2 := Aside0.mk hr0_2
 have HC0_2 := Aside0.mk hc0_2
 clear hr0_2 hc0_2
 have HB := Aside0.mk (Below.refl w.heap.size w)
 have H : ((name_Right.f k a0_0).bind fun t157 => (if t157 = true then (if a0_1 = 1 then (filter_Right.j0 k a0_1 (a0_1 == 1) a0_0 a0_1 l0_2) else (filter_Right.j0 k a0_1 (a0_1 == 2) a0_0 a0_1 l0_2)) else (some false))) = some r := h
 clear h
 replace H := Option.bind_eq_some_iff.mp H
 obtain ⟨t157, A20, H⟩ := H
 replace H : (if t157 = true then (if a0_1 = 1 then (filter_Right.j0 k a0_1 (a0_1 == 1) a0_0 a0_1 l0_2) else (filter_Right.j0 k a0_1 (a0_1 == 2) a0_0 a0_1 l0_2)) else (some false)) = some r := H
 have A2 := Aside0.mk A20
 clear A20
 by_cases c3 : t157 = true
 ·subst c3
  have H1 : (if a0_1 = 1 then (filter_Right.j0 k a0_1 (a0_1 == 1) a0_0 a0_1 l0_2) else (filter_Right.j0 k a0_1 (a0_1 == 2) a0_0 a0_1 l0_2)) = some r := by rw [if_pos rfl] at H; exact H
  clear H
  have H := H1
  clear H1
  have HC4 := Aside0.mk H
  clear H
  go_enter Try.func19, Try.ntmps19
  go_upto_if 10 with (first | ((with_reducible refine gate_dst (N := 1) rfl ?_); (try (refine gate_guard (by rfl) ?_; dsimp only)); refine box_event ?hg (N := 1) ?hd (cs := #[.string a0_0, .int .i64 a0_1, .slice A0_2 l0_2.length c0_2]) (t := 29) ?hr ?_; (case hd => rfl); (case hg => rfl); (case hr => first | (go_simp; done) | (go_simp; rfl)); intro gb156 hg w5 hbox hb; have n0_ := Aside0.mk (below_step (belN HB.out) hb); have n1_ := Aside0.mk (hbox); have n2_ := Aside0.mk (szB hg HB.out); have n3_ := Aside0.mk (szB hg HB.out); clear HB; have HB := n0_; have BK156 := n1_; have GW156 := n2_; have GE156 := n3_; clear n0_ n1_ n2_ n3_; clear hb hbox hg; have hcz6_0 : w5.cell? ⟨gb156, 0, none⟩ = some (.string a0_0) := (blk_cell BK156.out 0).trans rfl; have hcz6_1 : w5.cell? ⟨gb156, 1, none⟩ = some (.int .i64 a0_1) := (blk_cell BK156.out 1).trans rfl; have hcz6_2 : w5.cell? ⟨gb156, 2, none⟩ = some (.slice A0_2 l0_2.length c0_2) := (blk_cell BK156.out 2).trans rfl; have hfz6_0 := blk_frozen BK156.out 0; have hfz6_1 := blk_frozen BK156.out 1; have hfz6_2 := blk_frozen BK156.out 2) | ((with_reducible refine gate_callee (f := 31) rfl ?_); refine goesL_ (some 6) rfl rfl Try.func31 (by kernel_rfl) rfl #[.string a0_0] rfl argN ?_; (with_reducible refine (name_Right.calls k a0_0 true _ A2.out).mono ?_); rintro e w' ⟨rfl, ⟨nd, rfl⟩⟩; refine ⟨_, rfl, ?_⟩))
  (try simp only [Act.put, List.setIfInBounds_toArray, List.set_cons_zero, List.set_cons_succ])
  go_cut [10] (fun v10 wc => ∃ (kq : Nat) (x10_3 : Bool), v10 = .bool x10_3 ∧ Aside0 (filter_Right.j0 kq a0_1 x10_3 a0_0 a0_1 l0_2 = some r) ∧ Aside0 (kq ≤ k) ∧ Aside0 (wc.heap[gb156]? = some (.cells #[.string a0_0, .int .i64 a0_1, (.slice A0_2 l0_2.length c0_2)] 29 (0, 0))) ∧ Aside0 (Below w.heap.size w wc))
  case first =>
   have H := HC4.out
   clear HC4
   by_cases c7 : a0_1 = 1
   ·rw [if_pos c7] at H
    have c7b0 : (a0_1 == 1) = true := beq_iff_eq.mpr c7
    have c7b1 : (a0_1 != 1) = false := bne_eq_false_iff_eq.mpr c7
    clear c7
    (first | rw [c7b0] | rw [c7b1] | (simp only [i64_w, i32_w]; rw [c7b0]) | skip)
    have H' := Aside0.mk H
    clear H
    go_wp2
    go_meet
    case rel => exact ⟨_, ((a0_1 == 1)), (by first | rfl | (simp; done) | (simp [*]; done)), H', ⟨by first | omega | exact Nat.le_refl _⟩, ⟨blkN BK156.out⟩, ⟨(belS HB.out)⟩⟩
   ·rw [if_neg c7] at H
    have c7b0 : (a0_1 == 1) = false := beq_eq_false_iff_ne.mpr c7
    have c7b1 : (a0_1 != 1) = true := bne_iff_ne.mpr c7
    (first | rw [c7b0] | rw [c7b1] | (simp only [i64_w, i32_w]; rw [c7b0]) | skip)
    have H' := Aside0.mk H
    clear H
    go_wp2
    go_meet
    case rel => exact ⟨_, ((a0_1 == 2)), (by first | rfl | (simp; done) | (simp [*]; done)), H', ⟨by first | omega | exact Nat.le_refl _⟩, ⟨blkN BK156.out⟩, ⟨(belS HB.out)⟩⟩
  case rest =>
   clear HC4
   try clear c1
   try clear p2
   try clear c3
   try clear c7
   try clear c7b0
   try clear c7b1
   try clear hcz6_0
   try clear hcz6_1
   try clear hcz6_2
   try clear hfz6_0
   try clear hfz6_1
   try clear hfz6_2
   obtain ⟨kq, x10_3, rfl, HA, HJ3, BK156, HB⟩ := hcut
   cases kq with
   | zero => exact absurd HA.out (by simp [filter_Right.j0])
   | succ kj3 =>
    have H := HA.out
    clear HA
    simp only [filter_Right.j0] at H
    by_cases c8 : x10_3 = true
    ·subst c8
     have H1 : ((slices_ContainsFunc_string_string_of_filter_Right_1.f kj3 l0_2).bind fun t158 => (if (l0_2.length : Int) > 0 then (if (l0_2.length : Int) ≤ 8 then (some (!t158)) else (some false)) else (some false))) = some r := by rw [if_pos rfl] at H; exact H
     clear H
     have H := H1
     clear H1
     replace H := Option.bind_eq_some_iff.mp H
     obtain ⟨t158, A90, H⟩ := H
     replace H : (if (l0_2.length : Int) > 0 then (if (l0_2.length : Int) ≤ 8 then (some (!t158)) else (some false)) else (some false)) = some r := H
     have A9 := Aside0.mk A90
     clear A90
     by_cases c10 : (l0_2.length : Int) > 0
     ·rw [if_pos c10] at H
      have c10b0 : decide (0 < (l0_2.length : Int)) = true := decide_eq_true c10
      have c10b1 : decide (0 < l0_2.length) = true := decide_eq_true (by omega)
      clear c10
      by_cases c11 : (l0_2.length : Int) ≤ 8
      ·rw [if_pos c11] at H
       have c11b0 : decide ((l0_2.length : Int) ≤ 8) = true := decide_eq_true c11
       have c11b1 : decide (l0_2.length ≤ 8) = true := decide_eq_true (by omega)
       clear c11
       obtain rfl := Option.some.inj H
       have hcz12_0 : wc.cell? ⟨gb156, 0, none⟩ = some (.string a0_0) := (blk_cell BK156.out 0).trans rfl
       have hcz12_1 : wc.cell? ⟨gb156, 1, none⟩ = some (.int .i64 a0_1) := (blk_cell BK156.out 1).trans rfl
       have hcz12_2 : wc.cell? ⟨gb156, 2, none⟩ = some (.slice A0_2 l0_2.length c0_2) := (blk_cell BK156.out 2).trans rfl
       have hfz12_0 := blk_frozen BK156.out 0
       have hfz12_1 := blk_frozen BK156.out 1
       have hfz12_2 := blk_frozen BK156.out 2
       go_wp2_with (first | ((with_reducible refine gate_callee (f := 32) rfl ?_); refine goesL_ (some 15) rfl rfl Try.func32 (by kernel_rfl) rfl #[.slice A0_2 l0_2.length c0_2, (.func (.func 33) #[] #[])] rfl argN ?_; (with_reducible refine (slices_ContainsFunc_string_string_of_filter_Right_1.calls kj3 _ _ l0_2  t158 _ ?side1 ?side2 A9.out).mono ?_); (case side1 => repeat (first | exact (Kd.C_below HR0_2.out HB.out) | (with_reducible refine Kd.C_alloc ?_ _) | (with_reducible refine Kd.C_drewN ?_ _) | (with_reducible refine Kd.C_drew ?_))); (case side2 => exact HC0_2.out); rintro e w' ⟨rfl, ⟨nd, rfl⟩⟩; refine ⟨_, rfl, ?_⟩))
       go_ret
       exact ⟨by first | rfl | (simp [errW_none, errW_some] <;> rfl) | (simp [*, errW_none, errW_some] <;> rfl), (belS HB.out)⟩
      ·rw [if_neg c11] at H
       have c11b0 : decide ((l0_2.length : Int) ≤ 8) = false := decide_eq_false c11
       have c11b1 : decide (l0_2.length ≤ 8) = false := decide_eq_false (by omega)
       clear c11
       obtain rfl := Option.some.inj H
       have hcz13_0 : wc.cell? ⟨gb156, 0, none⟩ = some (.string a0_0) := (blk_cell BK156.out 0).trans rfl
       have hcz13_1 : wc.cell? ⟨gb156, 1, none⟩ = some (.int .i64 a0_1) := (blk_cell BK156.out 1).trans rfl
       have hcz13_2 : wc.cell? ⟨gb156, 2, none⟩ = some (.slice A0_2 l0_2.length c0_2) := (blk_cell BK156.out 2).trans rfl
       have hfz13_0 := blk_frozen BK156.out 0
       have hfz13_1 := blk_frozen BK156.out 1
       have hfz13_2 := blk_frozen BK156.out 2
       go_wp2_with (first | ((with_reducible refine gate_callee (f := 32) rfl ?_); refine goesL_ (some 15) rfl rfl Try.func32 (by kernel_rfl) rfl #[.slice A0_2 l0_2.length c0_2, (.func (.func 33) #[] #[])] rfl argN ?_; (with_reducible refine (slices_ContainsFunc_string_string_of_filter_Right_1.calls kj3 _ _ l0_2  t158 _ ?side1 ?side2 A9.out).mono ?_); (case side1 => repeat (first | exact (Kd.C_below HR0_2.out HB.out) | (with_reducible refine Kd.C_alloc ?_ _) | (with_reducible refine Kd.C_drewN ?_ _) | (with_reducible refine Kd.C_drew ?_))); (case side2 => exact HC0_2.out); rintro e w' ⟨rfl, ⟨nd, rfl⟩⟩; refine ⟨_, rfl, ?_⟩))
       go_ret
       exact ⟨by first | rfl | (simp [errW_none, errW_some] <;> rfl) | (simp [*, errW_none, errW_some] <;> rfl), (belS HB.out)⟩
     ·rw [if_neg c10] at H
      have c10b0 : decide (0 < (l0_2.length : Int)) = false := decide_eq_false c10
      have c10b1 : decide (0 < l0_2.length) = false := decide_eq_false (by omega)
      clear c10
      obtain rfl := Option.some.inj H
      have hcz14_0 : wc.cell? ⟨gb156, 0, none⟩ = some (.string a0_0) := (blk_cell BK156.out 0).trans rfl
      have hcz14_1 : wc.cell? ⟨gb156, 1, none⟩ = some (.int .i64 a0_1) := (blk_cell BK156.out 1).trans rfl
      have hcz14_2 : wc.cell? ⟨gb156, 2, none⟩ = some (.slice A0_2 l0_2.length c0_2) := (blk_cell BK156.out 2).trans rfl
      have hfz14_0 := blk_frozen BK156.out 0
      have hfz14_1 := blk_frozen BK156.out 1
      have hfz14_2 := blk_frozen BK156.out 2
      go_wp2_with (first | ((with_reducible refine gate_callee (f := 32) rfl ?_); refine goesL_ (some 15) rfl rfl Try.func32 (by kernel_rfl) rfl #[.slice A0_2 l0_2.length c0_2, (.func (.func 33) #[] #[])] rfl argN ?_; (with_reducible refine (slices_ContainsFunc_string_string_of_filter_Right_1.calls kj3 _ _ l0_2  t158 _ ?side1 ?side2 A9.out).mono ?_); (case side1 => repeat (first | exact (Kd.C_below HR0_2.out HB.out) | (with_reducible refine Kd.C_alloc ?_ _) | (with_reducible refine Kd.C_drewN ?_ _) | (with_reducible refine Kd.C_drew ?_))); (case side2 => exact HC0_2.out); rintro e w' ⟨rfl, ⟨nd, rfl⟩⟩; refine ⟨_, rfl, ?_⟩))
      go_ret
      exact ⟨by first | rfl | (simp [errW_none, errW_some] <;> rfl) | (simp [*, errW_none, errW_some] <;> rfl), (belS HB.out)⟩
    ·replace c8 := Bool.eq_false_iff.mpr c8
     subst c8
     have H1 : (if a0_1 = 3 then (some ((l0_2.length : Int) == 0)) else (if a0_1 = 4 then (some ((l0_2.length : Int) == 0)) else (some false))) = some r := by rw [if_neg (show ¬ (false = true) by decide)] at H; exact H
     clear H
     have H := H1
     clear H1
     by_cases c15 : a0_1 = 3
     ·rw [if_pos c15] at H
      have c15b0 : (a0_1 == 3) = true := beq_iff_eq.mpr c15
      have c15b1 : (a0_1 != 3) = false := bne_eq_false_iff_eq.mpr c15
      clear c15
      obtain rfl := Option.some.inj H
      have hcz16_0 : wc.cell? ⟨gb156, 0, none⟩ = some (.string a0_0) := (blk_cell BK156.out 0).trans rfl
      have hcz16_1 : wc.cell? ⟨gb156, 1, none⟩ = some (.int .i64 a0_1) := (blk_cell BK156.out 1).trans rfl
      have hcz16_2 : wc.cell? ⟨gb156, 2, none⟩ = some (.slice A0_2 l0_2.length c0_2) := (blk_cell BK156.out 2).trans rfl
      have hfz16_0 := blk_frozen BK156.out 0
      have hfz16_1 := blk_frozen BK156.out 1
      have hfz16_2 := blk_frozen BK156.out 2
      go_wp2
      go_ret
      exact ⟨by first | rfl | (simp [errW_none, errW_some] <;> rfl) | (simp [*, errW_none, errW_some] <;> rfl), (belS HB.out)⟩
     ·rw [if_neg c15] at H
      have c15b0 : (a0_1 == 3) = false := beq_eq_false_iff_ne.mpr c15
      have c15b1 : (a0_1 != 3) = true := bne_iff_ne.mpr c15
      by_cases c17 : a0_1 = 4
      ·rw [if_pos c17] at H
       have c17b0 : (a0_1 == 4) = true := beq_iff_eq.mpr c17
       have c17b1 : (a0_1 != 4) = false := bne_eq_false_iff_eq.mpr c17
       clear c17
       obtain rfl := Option.some.inj H
       have hcz18_0 : wc.cell? ⟨gb156, 0, none⟩ = some (.string a0_0) := (blk_cell BK156.out 0).trans rfl
       have hcz18_1 : wc.cell? ⟨gb156, 1, none⟩ = some (.int .i64 a0_1) := (blk_cell BK156.out 1).trans rfl
       have hcz18_2 : wc.cell? ⟨gb156, 2, none⟩ = some (.slice A0_2 l0_2.length c0_2) := (blk_cell BK156.out 2).trans rfl
       have hfz18_0 := blk_frozen BK156.out 0
       have hfz18_1 := blk_frozen BK156.out 1
       have hfz18_2 := blk_frozen BK156.out 2
       go_wp2
       go_ret
       exact ⟨by first | rfl | (simp [errW_none, errW_some] <;> rfl) | (simp [*, errW_none, errW_some] <;> rfl), (belS HB.out)⟩
      ·rw [if_neg c17] at H
       have c17b0 : (a0_1 == 4) = false := beq_eq_false_iff_ne.mpr c17
       have c17b1 : (a0_1 != 4) = true := bne_iff_ne.mpr c17
       obtain rfl := Option.some.inj H
       go_wp2
       go_ret
       exact ⟨by first | rfl | (simp [errW_none, errW_some] <;> rfl) | (simp [*, errW_none, errW_some] <;> rfl), (belS HB.out)⟩
 ·replace c3 := Bool.eq_false_iff.mpr c3
  subst c3
  have H1 : (some false) = some r := by rw [if_neg (show ¬ (false = true) by decide)] at H; exact H
  clear H
  have H := H1
  clear H1
  obtain rfl := Option.some.inj H
  go_enter Try.func19, Try.ntmps19
  go_wp2_with (first | ((with_reducible refine gate_dst (N := 1) rfl ?_); (try (refine gate_guard (by rfl) ?_; dsimp only)); refine box_event ?hg (N := 1) ?hd (cs := #[.string a0_0, .int .i64 a0_1, .slice A0_2 l0_2.length c0_2]) (t := 29) ?hr ?_; (case hd => rfl); (case hg => rfl); (case hr => first | (go_simp; done) | (go_simp; rfl)); intro gb156 hg w19 hbox hb; have n0_ := Aside0.mk (below_step (belN HB.out) hb); have n1_ := Aside0.mk (hbox); have n2_ := Aside0.mk (szB hg HB.out); have n3_ := Aside0.mk (szB hg HB.out); clear HB; have HB := n0_; have BK156 := n1_; have GW156 := n2_; have GE156 := n3_; clear n0_ n1_ n2_ n3_; clear hb hbox hg; have hcz20_0 : w19.cell? ⟨gb156, 0, none⟩ = some (.string a0_0) := (blk_cell BK156.out 0).trans rfl; have hcz20_1 : w19.cell? ⟨gb156, 1, none⟩ = some (.int .i64 a0_1) := (blk_cell BK156.out 1).trans rfl; have hcz20_2 : w19.cell? ⟨gb156, 2, none⟩ = some (.slice A0_2 l0_2.length c0_2) := (blk_cell BK156.out 2).trans rfl; have hfz20_0 := blk_frozen BK156.out 0; have hfz20_1 := blk_frozen BK156.out 1; have hfz20_2 := blk_frozen BK156.out 2) | ((with_reducible refine gate_callee (f := 31) rfl ?_); refine goesL_ (some 6) rfl rfl Try.func31 (by kernel_rfl) rfl #[.string a0_0] rfl argN ?_; (with_reducible refine (name_Right.calls k a0_0 false _ A2.out).mono ?_); rintro e w' ⟨rfl, ⟨nd, rfl⟩⟩; refine ⟨_, rfl, ?_⟩))
  go_ret
  exact ⟨by first | rfl | (simp [errW_none, errW_some] <;> rfl) | (simp [*, errW_none, errW_some] <;> rfl), (belS HB.out)⟩

-- NOT PRINTED: function 34 (api_Tag_34)

-- NOT PRINTED: function 21 (api_Tag_21)

-- NOT PRINTED: function 22 (filter_Match_1_1)

-- NOT PRINTED: function 20 (filter_Match_1)

/-! ### filter_Match_2: function 23 -/
def filter_Match_2.f (a0_0 : ByteArray) (a0_1 : ByteArray) : Option (Bool) := some true
set_option maxHeartbeats 8000000 in
set_option maxRecDepth 100000 in
theorem filter_Match_2.calls (a0_0 : ByteArray) (a0_1 : ByteArray) (r : Bool) (w : World) (h : filter_Match_2.f a0_0 a0_1 = some r) :
    Calls Try.prog 23 #[.agg #[.string a0_0, .string a0_1]] w fun e w' => e = .returned (.bool r) ∧ Below w.heap.size w w' := by
  have hu44 := Try.underlying44
  have HB := Aside0.mk (Below.refl w.heap.size w)
  have H : (some true) = some r := h
  clear h
  obtain rfl := Option.some.inj H
  go_enter Try.func23, Try.ntmps23
  go_wp2_with (first | ((with_reducible refine gate_dst (N := 1) rfl ?_); refine box_event ?hg (N := 1) ?hd (cs := #[.string a0_0, .string a0_1]) (t := 44) ?hr ?_; (case hd => rfl); (case hg => rfl); (case hr => first | (go_simp; done) | (go_simp; rfl)); intro gb160 hg w2 hbox hb; have n0_ := Aside0.mk (below_step (by repeat (first | (with_reducible first | exact HB.out | apply below_alloc | apply pw_below_drewN | apply below_drew1) | exact HB.out)) hb); have n1_ := Aside0.mk (hbox); have n2_ := Aside0.mk ((by rw [hg]; exact (below_size (by repeat (first | (with_reducible first | exact HB.out | apply below_alloc | apply pw_below_drewN | apply below_drew1) | exact HB.out))) : w.heap.size ≤ gb160)); have n3_ := Aside0.mk ((by rw [hg]; exact (below_size (by repeat (first | (with_reducible first | exact HB.out | apply below_alloc | apply pw_below_drewN | apply below_drew1) | exact HB.out))) : w.heap.size ≤ gb160)); clear HB; have HB := n0_; have BK160 := n1_; have GW160 := n2_; have GE160 := n3_; clear n0_ n1_ n2_ n3_; clear hb hbox hg))
  go_ret
  exact ⟨by first | rfl | (simp [errW_none, errW_some] <;> rfl) | (simp [*, errW_none, errW_some] <;> rfl), by repeat (first | (with_reducible first | exact HB.out | apply below_alloc | apply pw_below_drewN | apply below_drew1 | refine below_set ?_ GE160.out) | exact HB.out)⟩

/-! ### slices_Index_string_string: function 35 -/
def slices_Index_string_string.l0 : Nat → List ByteArray → ByteArray → Int → Int → Option (Int)
 | 0, _, _, _, _ => none
 | k + 1, x0, x1, x7, x8 => if x8 < x7 then (if 0 ≤ x8 then (if x8 < (x0.length : Int) then (if x1.toList = (rdOf ByteArray.empty x0 x8).toList then (some x8) else (slices_Index_string_string.l0 k x0 x1 x7 (wrap64 (x8 + 1)))) else (none)) else (none)) else (some (-1))
def slices_Index_string_string.f (k : Nat) (l0 : List ByteArray) (a1 : ByteArray) : Option (Int) := slices_Index_string_string.l0 k l0 a1 (l0.length : Int) 0
theorem slices_Index_string_string.mono_l : ∀ k, (∀ y0 y1 y2 y3, LeO (slices_Index_string_string.l0 k y0 y1 y2 y3) (slices_Index_string_string.l0 (k + 1) y0 y1 y2 y3))
 | 0 => fun _ _ _ _ r h => by simp [slices_Index_string_string.l0] at h
 | k + 1 => by
  have ih0 := slices_Index_string_string.mono_l k
  ·intro y0 y1 y2 y3
   unfold slices_Index_string_string.l0
   repeat' first
   | (with_reducible exact ih0 _ _ _ _)
   | (with_reducible exact LeO.refl _)
   | (with_reducible exact LeO.none _)
   | (with_reducible refine LeO.ite ?_ ?_)
   | (with_reducible refine LeO.bind ?_ (fun _ => ?_))
   | exact ih0 _ _ _ _
   | exact LeO.none _
   | refine LeO.ite ?_ ?_
   | refine LeO.bind ?_ (fun _ => ?_)
theorem slices_Index_string_string.mono : ∀ a0 a1 k, LeO (slices_Index_string_string.f k a0 a1) (slices_Index_string_string.f (k + 1) a0 a1) := by
 intro a0 a1 k
 have ih0 := slices_Index_string_string.mono_l k
 unfold slices_Index_string_string.f
 repeat' first
   | (with_reducible exact ih0 _ _ _ _)
   | (with_reducible exact LeO.refl _)
   | (with_reducible exact LeO.none _)
   | (with_reducible refine LeO.ite ?_ ?_)
   | (with_reducible refine LeO.bind ?_ (fun _ => ?_))
   | exact ih0 _ _ _ _
   | exact LeO.none _
   | refine LeO.ite ?_ ?_
   | refine LeO.bind ?_ (fun _ => ?_)
set_option maxHeartbeats 8000000 in
set_option maxRecDepth 100000 in
theorem slices_Index_string_string.calls (k : Nat) (A0 : Option Addr) (c0 : Nat) (l0 : List ByteArray) (a1 : ByteArray) (r : Int) (w : World) (hr0 : Kd.C Kd.string w A0 l0.length l0) (hc0 : l0.length ≤ c0) (h : slices_Index_string_string.f k l0 a1 = some r) :
  Calls Try.prog 35 #[.slice A0 l0.length c0, .string a1] w fun e w' => e = .returned (.int .i64 r) ∧ Drawn0 w w' := by
 have HR0 := Aside0.mk hr0
 have HC0 := Aside0.mk hc0
 clear hr0 hc0
 have H : (slices_Index_string_string.l0 k l0 a1 (l0.length : Int) 0) = some r := h
 clear h
 have H' := Aside0.mk H
 clear H
 go_enter Try.func35, Try.ntmps35
 go_wp2
 go_loopg [8] k (fun kq v8 w' => ∃ (x8_1 : Int), v8 = .int .i64 x8_1 ∧ Aside0 (slices_Index_string_string.l0 kq l0 a1 (l0.length : Int) x8_1 = some r) ∧ Aside0 (kq ≤ k) ∧ Drawn0 w w')
 case atStart => exact ⟨(0), (by first | rfl | (simp; done) | (simp [*]; done)), H', ⟨Nat.le_refl _⟩, by repeat (first | exact Drawn0.refl _ | apply Drawn0.step)⟩
 case round =>
  clear H'
  try clear p2
  obtain ⟨x8_1, rfl, HA, HK1, ⟨m1, rfl⟩⟩ := hrel
  cases gk with
  | zero => exact absurd HA.out (by simp [slices_Index_string_string.l0])
  | succ k1 =>
   have H := HA.out
   clear HA
   simp only [slices_Index_string_string.l0] at H
   by_cases c3 : x8_1 < (l0.length : Int)
   ·rw [if_pos c3] at H
    have c3b0 : decide (x8_1 < (l0.length : Int)) = true := decide_eq_true c3
    clear c3
    by_cases c4 : 0 ≤ x8_1
    ·rw [if_pos c4] at H
     have c4b0 : decide (0 ≤ x8_1) = true := decide_eq_true c4
     clear c4
     by_cases c5 : x8_1 < (l0.length : Int)
     ·rw [if_pos c5] at H
      have c5b0 : decide (x8_1 < (l0.length : Int)) = true := decide_eq_true c5
      clear c5
      by_cases c6 : a1.toList = (rdOf ByteArray.empty l0 x8_1).toList
      ·rw [if_pos c6] at H
       have c6b0 : (a1.toList == (rdOf ByteArray.empty l0 x8_1).toList) = true := beq_iff_eq.mpr c6
       have c6b1 : (a1.toList != (rdOf ByteArray.empty l0 x8_1).toList) = false := bne_eq_false_iff_eq.mpr c6
       clear c6
       obtain rfl := Option.some.inj H
       have p161 : 0 ≤ (x8_1 : Int) := of_decide_eq_true (by first | (with_reducible assumption) | assumption)
       have q161 : x8_1 < (l0.length : Int) := of_decide_eq_true (by first | (with_reducible assumption) | assumption)
       obtain ⟨ad161, e161, hx161_0⟩ := Kd.at_string HR0.out x8_1 p161 q161
       cases e161
       replace p161 := eq_true p161
       replace q161 := eq_true q161
       go_wp2
       go_ret
       exact ⟨by first | rfl | (simp; done) | (simp [*]; done), by repeat (first | exact Drawn0.refl _ | apply Drawn0.step)⟩
      ·rw [if_neg c6] at H
       have c6b0 : (a1.toList == (rdOf ByteArray.empty l0 x8_1).toList) = false := beq_eq_false_iff_ne.mpr c6
       have c6b1 : (a1.toList != (rdOf ByteArray.empty l0 x8_1).toList) = true := bne_iff_ne.mpr c6
       have H' := Aside0.mk H
       clear H
       have p161 : 0 ≤ (x8_1 : Int) := of_decide_eq_true (by first | (with_reducible assumption) | assumption)
       have q161 : x8_1 < (l0.length : Int) := of_decide_eq_true (by first | (with_reducible assumption) | assumption)
       obtain ⟨ad161, e161, hx161_0⟩ := Kd.at_string HR0.out x8_1 p161 q161
       cases e161
       replace p161 := eq_true p161
       replace q161 := eq_true q161
       go_wp2
       go_roundg k1
       case measure => have := HK1.out; omega
       case rel => exact ⟨(wrap64 (x8_1 + 1)), (by first | rfl | (simp; done) | (simp [*]; done)), H', ⟨by have := HK1.out; omega⟩, by repeat (first | exact Drawn0.refl _ | apply Drawn0.step)⟩
     ·rw [if_neg c5] at H
      exact absurd H (by simp)
    ·rw [if_neg c4] at H
     exact absurd H (by simp)
   ·rw [if_neg c3] at H
    have c3b0 : decide (x8_1 < (l0.length : Int)) = false := decide_eq_false c3
    clear c3
    obtain rfl := Option.some.inj H
    go_wp2
    go_ret
    exact ⟨by first | rfl | (simp; done) | (simp [*]; done), by repeat (first | exact Drawn0.refl _ | apply Drawn0.step)⟩

/-! ### slices_Contains_string_string: function 25 -/
def slices_Contains_string_string.f (k : Nat) (l0 : List ByteArray) (a1 : ByteArray) : Option (Bool) := (slices_Index_string_string.f k l0 a1).bind fun t162 => (some (decide (t162 ≥ 0)))
theorem slices_Contains_string_string.mono : ∀ a0 a1 k, LeO (slices_Contains_string_string.f k a0 a1) (slices_Contains_string_string.f (k + 1) a0 a1) := by
  intro a0 a1 k
  unfold slices_Contains_string_string.f
  repeat' first
      | (with_reducible exact slices_Index_string_string.mono _ _ _)
      | (with_reducible exact LeO.refl _)
      | (with_reducible exact LeO.none _)
      | (with_reducible refine LeO.ite ?_ ?_)
      | (with_reducible refine LeO.bind ?_ (fun _ => ?_))
      | exact slices_Index_string_string.mono _ _ _
      | exact LeO.none _
      | refine LeO.ite ?_ ?_
      | refine LeO.bind ?_ (fun _ => ?_)
set_option maxHeartbeats 8000000 in
set_option maxRecDepth 100000 in
theorem slices_Contains_string_string.calls (k : Nat) (A0 : Option Addr) (c0 : Nat) (l0 : List ByteArray) (a1 : ByteArray) (r : Bool) (w : World) (hr0 : Kd.C Kd.string w A0 l0.length l0) (hc0 : l0.length ≤ c0) (h : slices_Contains_string_string.f k l0 a1 = some r) :
    Calls Try.prog 25 #[.slice A0 l0.length c0, .string a1] w fun e w' => e = .returned (.bool r) ∧ Drawn0 w w' := by
  have HR0 := Aside0.mk hr0
  have HC0 := Aside0.mk hc0
  clear hr0 hc0
  have H : ((slices_Index_string_string.f k l0 a1).bind fun t162 => (some (decide (t162 ≥ 0)))) = some r := h
  clear h
  replace H := Option.bind_eq_some_iff.mp H
  obtain ⟨t162, A30, H⟩ := H
  replace H : (some (decide (t162 ≥ 0))) = some r := H
  have A3 := Aside0.mk A30
  clear A30
  obtain rfl := Option.some.inj H
  go_enter Try.func25, Try.ntmps25
  go_wp2_with (first | ((with_reducible refine gate_callee (f := 35) rfl ?_); refine goesL_ (some 7) rfl rfl Try.func35 (by kernel_rfl) rfl #[.slice A0 l0.length c0, .string a1] rfl (by (try simp only [List.map_toArray, List.map_cons, List.map_nil]); first | done | rfl | (simp only [List.length_drop, List.length_take]; rfl)) ?_; (with_reducible refine (slices_Index_string_string.calls k _ _ l0 a1 t162 _ ?side1 ?side2 A3.out).mono ?_); (case side1 => repeat (first | exact HR0.out | (with_reducible refine Kd.C_alloc ?_ _) | (with_reducible refine Kd.C_drewN ?_ _) | (with_reducible refine Kd.C_drew ?_))); (case side2 => exact HC0.out); rintro e w' ⟨rfl, ⟨nd, rfl⟩⟩; refine ⟨_, rfl, ?_⟩))
  go_ret
  exact ⟨by first | rfl | (simp; done) | (simp [*]; done), by repeat (first | exact Drawn0.refl _ | apply Drawn0.step)⟩

-- NOT PRINTED: function 24 (filter_Match_3)

/-! ### filter.Match's closures, by hand -/
set_option maxHeartbeats 8000000
set_option maxRecDepth 100000
/-- The filter that a closure holds: a block of three cells. -/
structure HasF (gF : Nat) (key : ByteArray) (kind : Int) (vA : Option Addr) (vc : Nat) (vs : List ByteArray) (w : World) : Prop where
  blk : w.heap[gF]? = some (.cells #[.string key, .int .i64 kind, .slice vA vs.length vc] 29 (0, 0))
  row : Kd.C Kd.string w vA vs.length vs
  cap : vs.length ≤ vc
theorem HasF.below {gF : Nat} {key : ByteArray} {kind : Int} {vA : Option Addr} {vc : Nat} {vs : List ByteArray} {w w' : World} (h : HasF gF key kind vA vc vs w) (hb : Below w.heap.size w w') : HasF gF key kind vA vc vs w' := ⟨blk_below h.blk hb, Kd.C_below h.row hb, h.cap⟩
theorem HasF.alloc {gF : Nat} {key : ByteArray} {kind : Int} {vA : Option Addr} {vc : Nat} {vs : List ByteArray} {w : World} (h : HasF gF key kind vA vc vs w) (o : Obj) : HasF gF key kind vA vc vs (w.alloc o) := ⟨blk_alloc h.blk o, Kd.C_below h.row (below_alloc (Below.refl _ _) _), h.cap⟩
theorem match3_calls (k : Nat) (gF : Nat) (key : ByteArray) (kind : Int) (vA : Option Addr) (vc : Nat) (vs : List ByteArray) (x : S44) (b : Bool) (w : World) (hF : HasF gF key kind vA vc vs w) (h : slices_Contains_string_string.f k vs x.f1 = some b) :
    Calls Try.prog 24 #[.agg #[.string x.f0, .string x.f1], .pointer (some ⟨gF, 0, none⟩)] w fun e w' => e = .returned (.bool b) ∧ Below w.heap.size w w' := by
  have hu25 := Try.underlying44
  have hu30 := Try.underlying29
  have HB := below_alloc (Below.refl w.heap.size w) (Obj.cells #[.string x.f0, .string x.f1] 44)
  have hF1 := hF.alloc (Obj.cells #[.string x.f0, .string x.f1] 44)
  have p0 := blk_new w (Obj.cells #[.string x.f0, .string x.f1] 44)
  have c0 : _ = some (Value.string x.f0) := (blk_cell p0 0).trans rfl
  have c1 : _ = some (Value.string x.f1) := (blk_cell p0 1).trans rfl
  have d0 : _ = some (Value.string key) := (blk_cell hF1.blk 0).trans rfl
  have d1 : _ = some (Value.int .i64 kind) := (blk_cell hF1.blk 1).trans rfl
  have d2 : _ = some (Value.slice vA vs.length vc) := (blk_cell hF1.blk 2).trans rfl
  have hr := hF1.row
  have hcap := hF.cap
  have h := Aside0.mk h
  go_enter Try.func24, Try.ntmps24
  go_wp2_with (go_at_call 25; refine (slices_Contains_string_string.calls k vA vc vs x.f1 b _ hr hcap h.out).mono ?_; rintro e w2 ⟨rfl, ⟨nn, rfl⟩⟩)
  go_ret
  exact ⟨rfl, pw_below_drewN HB nn⟩
def isV (o : Bool) (gF : Nat) : Value := if o then .func (.func 24) #[] #[.pointer (some ⟨gF, 0, none⟩)] else .func (.func 23) #[] #[]
def isF (k : Nat) (o : Bool) (vs : List ByteArray) (x : S44) : Option Bool := if o then slices_Contains_string_string.f k vs x.f1 else some true
theorem match11_calls (k : Nat) (o : Bool) (gF gI : Nat) (key : ByteArray) (kind : Int) (vA : Option Addr) (vc : Nat) (vs : List ByteArray) (x : S44) (b : Bool) (w : World) (hF : HasF gF key kind vA vc vs w) (hI : w.heap[gI]? = some (.cells #[isV o gF] 51 (0, 0))) (h : isF k o vs x = some b) :
    Calls Try.prog 22 #[.agg #[.string x.f0, .string x.f1], .pointer (some ⟨gF, 0, none⟩), .pointer (some ⟨gI, 0, none⟩)] w fun e w' => e = .returned (.bool ((x.f0.toList == key.toList) && b)) ∧ Below w.heap.size w w' := by
  have hu25 := Try.underlying44
  have hu30 := Try.underlying29
  have HB := below_alloc (Below.refl w.heap.size w) (Obj.cells #[.string x.f0, .string x.f1] 44)
  have hF1 := hF.alloc (Obj.cells #[.string x.f0, .string x.f1] 44)
  have hI1 := blk_alloc hI (Obj.cells #[.string x.f0, .string x.f1] 44)
  have p0 := blk_new w (Obj.cells #[.string x.f0, .string x.f1] 44)
  have c0 : _ = some (Value.string x.f0) := (blk_cell p0 0).trans rfl
  have c1 : _ = some (Value.string x.f1) := (blk_cell p0 1).trans rfl
  have d0 : _ = some (Value.string key) := (blk_cell hF1.blk 0).trans rfl
  have e0 : _ = some (isV o gF) := (blk_cell hI1 0).trans rfl
  by_cases hk : (x.f0.toList == key.toList) = true
  · rw [hk, Bool.true_and]
    cases o with
    | true =>
      replace e0 : _ = some (Value.func (.func 24) #[] #[.pointer (some ⟨gF, 0, none⟩)]) := e0
      have h : slices_Contains_string_string.f k vs x.f1 = some b := h
      have h := Aside0.mk h
      go_enter Try.func22, Try.ntmps22
      go_wp2_with (go_at_call 24; refine (match3_calls k gF key kind vA vc vs x b _ hF1 h.out).mono ?_; rintro e w2 ⟨rfl, hb⟩)
      go_ret
      exact ⟨rfl, below_step HB hb⟩
    | false =>
      replace e0 : _ = some (Value.func (.func 23) #[] #[]) := e0
      have h : some true = some b := h
      obtain rfl := Option.some.inj h
      clear h
      go_enter Try.func22, Try.ntmps22
      go_wp2_with (go_at_call 23; refine (filter_Match_2.calls x.f0 x.f1 true _ rfl).mono ?_; rintro e w2 ⟨rfl, hb⟩)
      go_ret
      exact ⟨rfl, below_step HB hb⟩
  · have hk := Bool.eq_false_iff.mpr hk
    rw [hk, Bool.false_and]
    cases o with
    | true =>
      replace e0 : _ = some (Value.func (.func 24) #[] #[.pointer (some ⟨gF, 0, none⟩)]) := e0
      go_enter Try.func22, Try.ntmps22
      go_wp2
      go_ret
      exact ⟨rfl, HB⟩
    | false =>
      replace e0 : _ = some (Value.func (.func 23) #[] #[]) := e0
      go_enter Try.func22, Try.ntmps22
      go_wp2
      go_ret
      exact ⟨rfl, HB⟩
def someF (k : Nat) (o : Bool) (key : ByteArray) (vs : List ByteArray) : List S44 → Option Bool
  | [] => some false
  | x :: l => (isF k o vs x).bind fun t => if ((x.f0.toList == key.toList) && t) = true then some true else someF k o key vs l
def cloV (gF gI : Nat) : Value := .func (.func 22) #[] #[.pointer (some ⟨gF, 0, none⟩), .pointer (some ⟨gI, 0, none⟩)]
theorem index_tags (k : Nat) (o : Bool) (gF gI : Nat) (key : ByteArray) (kind : Int) (vA : Option Addr) (vc : Nat) (vs : List ByteArray) (A0 : Option Addr) (c0 : Nat) (l0 : List S44) (b : Bool) (w : World) (hF : HasF gF key kind vA vc vs w) (hI : w.heap[gI]? = some (.cells #[isV o gF] 51 (0, 0))) (hr0 : Kd.C k44 w A0 l0.length l0) (hc0 : l0.length ≤ c0) (hl : l0.length < 4611686014132420609) (h : someF k o key vs l0 = some b) :
    Calls Try.prog 34 #[.slice A0 l0.length c0, .func (.func 22) #[] #[.pointer (some ⟨gF, 0, none⟩), .pointer (some ⟨gI, 0, none⟩)]] w fun e w' => (∃ i : Int, e = .returned (.int .i64 i) ∧ (0 ≤ i ↔ b = true)) ∧ Below w.heap.size w w' := by
  have hu_ := Try.underlying44
  have HB := Below.refl w.heap.size w
  have hF := Aside0.mk hF
  have hI := Aside0.mk hI
  go_enter Try.func34, Try.ntmps34
  go_wp2
  go_loopg [8] (l0.length + 1) (fun kq v8 w' => ∃ j : Nat, v8 = .int .i64 (j : Int) ∧ Aside0 (l0.length - j < kq ∧ j ≤ l0.length) ∧ Aside0 (someF k o key vs (l0.drop j) = some b) ∧ Aside0 (Below w.heap.size w w'))
  case atStart => exact ⟨0, rfl, ⟨by omega⟩, ⟨h⟩, ⟨HB⟩⟩
  case round =>
    clear h HB
    obtain ⟨j, rfl, hj, hbad, hb⟩ := hrel
    have hj := hj.out
    have hbad := hbad.out
    have hb := hb.out
    by_cases hlt_ : ¬ j < l0.length
    · have hjl : j = l0.length := by omega
      rw [hjl, List.drop_length] at hbad
      obtain rfl : b = false := (Option.some.inj hbad).symm
      have hd0 : decide ((j : Int) < (l0.length : Int)) = false := decide_eq_false (by omega)
      go_wp2
      repeat (go_quiet (fail); try go_wp2)
      exact ⟨rfl, _, results_tmp (t := 4) rfl _ _ _, ⟨⟨-1, rfl, by simp⟩, hb⟩⟩
    · have hlt : j < l0.length := by omega
      clear hlt_
      obtain ⟨ad, rfl, hx0, hx1⟩ := at_T44 (Kd.C_below hr0 hb) (j : Int) (Int.natCast_nonneg j) (by omega)
      have hrd : rd_T44 l0 (j : Int) = l0[j] := by
        unfold rd_T44
        rw [Int.toNat_natCast, List.getD_eq_getElem?_getD, List.getElem?_eq_getElem hlt]
        rfl
      rw [hrd] at hx0 hx1
      rw [Int.toNat_natCast] at hx0 hx1
      rw [List.drop_eq_getElem_cons hlt, someF] at hbad
      obtain ⟨t, ht, hbad⟩ := Option.bind_eq_some_iff.mp hbad
      have hm3 : l0.length - j < gk := hj.1
      have hm1 : l0.length - (j + 1) < l0.length - j := by omega
      have hnx : wrap64 ((j : Int) + 1) = ((j + 1 : Nat) : Int) := by unfold wrap64; omega
      have hd1 : decide ((j : Int) < (l0.length : Int)) = true := decide_eq_true (by clear hnx; omega)
      have hFw := Aside0.mk (hF.out.below hb)
      have hIw := Aside0.mk (blk_below hI.out hb)
      generalize l0[j] = x at hx0 hx1 ht hbad
      have ht := Aside0.mk ht
      by_cases hq : ((x.f0.toList == key.toList) && t) = true
      · rw [if_pos hq] at hbad
        obtain rfl : b = true := (Option.some.inj hbad).symm
        go_wp2_with (go_at_call 22; refine (match11_calls k o gF gI key kind vA vc vs x t _ hFw.out hIw.out ht.out).mono ?_; rintro e w2 ⟨rfl, hb2⟩; rw [hq])
        repeat (go_quiet (fail); try go_wp2)
        exact ⟨rfl, _, results_tmp (t := 4) rfl _ _ _, ⟨⟨_, rfl, by simp⟩, below_step hb hb2⟩⟩
      · have hq := Bool.eq_false_iff.mpr hq
        rw [if_neg (by rw [hq]; decide)] at hbad
        go_wp2_with (go_at_call 22; refine (match11_calls k o gF gI key kind vA vc vs x t _ hFw.out hIw.out ht.out).mono ?_; rintro e w2 ⟨rfl, hb2⟩; rw [hq])
        go_roundg (l0.length - j)
        case measure => exact hm3
        case rel => exact ⟨j + 1, (by first | rfl | exact congrArg (Value.int .i64) (by clear hnx; omega)), ⟨hm1, hlt⟩, ⟨hbad⟩, ⟨below_step hb hb2⟩⟩
theorem contains_tags (k : Nat) (o : Bool) (gF gI : Nat) (key : ByteArray) (kind : Int) (vA : Option Addr) (vc : Nat) (vs : List ByteArray) (A0 : Option Addr) (c0 : Nat) (l0 : List S44) (b : Bool) (w : World) (hF : HasF gF key kind vA vc vs w) (hI : w.heap[gI]? = some (.cells #[isV o gF] 51 (0, 0))) (hr0 : Kd.C k44 w A0 l0.length l0) (hc0 : l0.length ≤ c0) (hl : l0.length < 4611686014132420609) (h : someF k o key vs l0 = some b) :
    Calls Try.prog 21 #[.slice A0 l0.length c0, .func (.func 22) #[] #[.pointer (some ⟨gF, 0, none⟩), .pointer (some ⟨gI, 0, none⟩)]] w fun e w' => e = .returned (.bool b) ∧ Below w.heap.size w w' := by
  have hF := Aside0.mk hF
  have hI := Aside0.mk hI
  go_enter Try.func21, Try.ntmps21
  go_wp2_with (go_at_call 34; refine (index_tags k o gF gI key kind vA vc vs A0 c0 l0 b _ hF.out hI.out hr0 hc0 hl h).mono ?_; rintro e w2 ⟨⟨i, rfl, hi⟩, hb2⟩)
  go_ret
  exact ⟨rfl, hb2⟩
theorem some_calls (k : Nat) (o : Bool) (gF gT : Nat) (key : ByteArray) (kind : Int) (vA : Option Addr) (vc : Nat) (vs : List ByteArray) (A0 : Option Addr) (c0 : Nat) (l0 : List S44) (b : Bool) (w : World) (hF : HasF gF key kind vA vc vs w) (hT : w.heap[gT]? = some (.cells #[.slice A0 l0.length c0] 31 (0, 0))) (hr0 : Kd.C k44 w A0 l0.length l0) (hc0 : l0.length ≤ c0) (hl : l0.length < 4611686014132420609) (h : someF k o key vs l0 = some b) (v : Value) (hv : isV o gF = v) :
    Calls Try.prog 20 #[v, .pointer (some ⟨gT, 0, none⟩), .pointer (some ⟨gF, 0, none⟩)] w fun e w' => e = .returned (.bool b) ∧ Below w.heap.size w w' := by
  have hF := Aside0.mk hF
  have hT := Aside0.mk hT
  have h := Aside0.mk h
  subst hv
  cases o with
  | true =>
    show Calls Try.prog 20 #[.func (.func 24) #[] #[.pointer (some ⟨gF, 0, none⟩)], .pointer (some ⟨gT, 0, none⟩), .pointer (some ⟨gF, 0, none⟩)] w _
    go_enter Try.func20, Try.ntmps20
    go_wp2_with (first
      | (go_at_call 21; (with_reducible refine (contains_tags k true gF gI key kind vA vc vs A0 c0 l0 b _ hF1.out hI1.out (Kd.C_below hr0 HB1.out) hc0 hl h.out).mono ?_); rintro e w9 ⟨rfl, hb2⟩; have HB2 := below_step HB1.out hb2)
      | ((with_reducible refine gate_dst (N := 3) rfl ?_); refine box_event ?hgtrue (N := 3) ?hdtrue (cs := #[.func (.func 24) #[] #[.pointer (some ⟨gF, 0, none⟩)]]) (t := 51) ?hrtrue ?_; (case hdtrue => rfl); (case hgtrue => rfl); (case hrtrue => first | (go_simp; done) | (go_simp; rfl)); intro gI hg w4 hI0 hb0; have hI1 := Aside0.mk (show w4.heap[gI]? = some (.cells #[isV true gF] 51 (0, 0)) from hI0); have hF1 := Aside0.mk (hF.out.below hb0); have hT1 := blk_below hT.out hb0; have e0 : _ = some (Value.slice A0 l0.length c0) := (blk_cell hT1 0).trans rfl; have HB1 := Aside0.mk hb0; clear hb0 hI0 hg))
    go_ret
    exact ⟨rfl, HB2⟩
  | false =>
    show Calls Try.prog 20 #[.func (.func 23) #[] #[], .pointer (some ⟨gT, 0, none⟩), .pointer (some ⟨gF, 0, none⟩)] w _
    go_enter Try.func20, Try.ntmps20
    go_wp2_with (first
      | (go_at_call 21; (with_reducible refine (contains_tags k false gF gI key kind vA vc vs A0 c0 l0 b _ hF1.out hI1.out (Kd.C_below hr0 HB1.out) hc0 hl h.out).mono ?_); rintro e w9 ⟨rfl, hb2⟩; have HB2 := below_step HB1.out hb2)
      | ((with_reducible refine gate_dst (N := 3) rfl ?_); refine box_event ?hgfalse (N := 3) ?hdfalse (cs := #[.func (.func 23) #[] #[]]) (t := 51) ?hrfalse ?_; (case hdfalse => rfl); (case hgfalse => rfl); (case hrfalse => first | (go_simp; done) | (go_simp; rfl)); intro gI hg w4 hI0 hb0; have hI1 := Aside0.mk (show w4.heap[gI]? = some (.cells #[isV false gF] 51 (0, 0)) from hI0); have hF1 := Aside0.mk (hF.out.below hb0); have hT1 := blk_below hT.out hb0; have e0 : _ = some (Value.slice A0 l0.length c0) := (blk_cell hT1 0).trans rfl; have HB1 := Aside0.mk hb0; clear hb0 hI0 hg))
    go_ret
    exact ⟨rfl, HB2⟩
theorem some_calls_true (k : Nat) (gF gT : Nat) (key : ByteArray) (kind : Int) (vA : Option Addr) (vc : Nat) (vs : List ByteArray) (A0 : Option Addr) (c0 : Nat) (l0 : List S44) (b : Bool) (w : World) (hF : HasF gF key kind vA vc vs w) (hT : w.heap[gT]? = some (.cells #[.slice A0 l0.length c0] 31 (0, 0))) (hr0 : Kd.C k44 w A0 l0.length l0) (hc0 : l0.length ≤ c0) (hl : l0.length < 4611686014132420609) (h : someF k true key vs l0 = some b) :
    Calls Try.prog 20 #[.func (.func 24) #[] #[.pointer (some ⟨gF, 0, none⟩)], .pointer (some ⟨gT, 0, none⟩), .pointer (some ⟨gF, 0, none⟩)] w fun e w' => e = .returned (.bool b) ∧ Below w.heap.size w w' := some_calls k true gF gT key kind vA vc vs A0 c0 l0 b w hF hT hr0 hc0 hl h _ rfl
theorem some_calls_false (k : Nat) (gF gT : Nat) (key : ByteArray) (kind : Int) (vA : Option Addr) (vc : Nat) (vs : List ByteArray) (A0 : Option Addr) (c0 : Nat) (l0 : List S44) (b : Bool) (w : World) (hF : HasF gF key kind vA vc vs w) (hT : w.heap[gT]? = some (.cells #[.slice A0 l0.length c0] 31 (0, 0))) (hr0 : Kd.C k44 w A0 l0.length l0) (hc0 : l0.length ≤ c0) (hl : l0.length < 4611686014132420609) (h : someF k false key vs l0 = some b) :
    Calls Try.prog 20 #[.func (.func 23) #[] #[], .pointer (some ⟨gT, 0, none⟩), .pointer (some ⟨gF, 0, none⟩)] w fun e w' => e = .returned (.bool b) ∧ Below w.heap.size w w' := some_calls k false gF gT key kind vA vc vs A0 c0 l0 b w hF hT hr0 hc0 hl h _ rfl
def matchF (k : Nat) (key : ByteArray) (kind : Int) (vs : List ByteArray) (l : List S44) : Option Bool :=
  (filter_Right.f k key kind vs).bind fun r => if r = true then (someF k false key vs l).bind fun t => (someF k true key vs l).bind fun u => some (if kind = 1 then u else if kind = 2 then (t && !u) else (t == decide (kind = 3))) else some false
theorem match_calls (k : Nat) (key : ByteArray) (kind : Int) (vA : Option Addr) (vc : Nat) (vs : List ByteArray) (A0 : Option Addr) (c0 : Nat) (l0 : List S44) (b : Bool) (w : World) (hrv : Kd.C Kd.string w vA vs.length vs) (hcv : vs.length ≤ vc) (hr0 : Kd.C k44 w A0 l0.length l0) (hc0 : l0.length ≤ c0) (hl : l0.length < 4611686014132420609) (h : matchF k key kind vs l0 = some b) :
    Calls Try.prog 9 #[.agg #[.string key, .int .i64 kind, .slice vA vs.length vc], .slice A0 l0.length c0] w fun e w' => e = .returned (.bool b) ∧ Below w.heap.size w w' := by
  have hu25 := Try.underlying44
  have hu30 := Try.underlying29
  unfold matchF at h
  obtain ⟨r, hr, h⟩ := Option.bind_eq_some_iff.mp h
  have hr := Aside0.mk hr
  cases r with
  | false =>
    rw [if_neg (by decide)] at h
    obtain rfl := Option.some.inj h
    clear h
    go_enter Try.func9, Try.ntmps9
    go_wp2_with (first
      | (go_at_call 19; (with_reducible refine (filter_Right.calls k key kind vA vc vs false _ hF2.out.row hF2.out.cap hr.out).mono ?_); rintro e w9 ⟨rfl, hb2⟩; have HB3 := below_step HB2.out hb2)
      | ((with_reducible refine gate_dst (N := 3) rfl ?_); refine box_event ?hgB (N := 3) ?hdB (cs := #[.slice A0 l0.length c0]) (t := 31) ?hrB ?_; (case hdB => rfl); (case hgB => rfl); (case hrB => first | (go_simp; done) | (go_simp; rfl)); intro gT hg w5 hT0 hb0; have hF2 := Aside0.mk (hF1.out.below hb0); have HB2 := Aside0.mk (below_step HB1.out hb0); have hT2 := Aside0.mk hT0; have y0 : _ = some (Value.string key) := (blk_cell hF2.out.blk 0).trans rfl; have y1 : _ = some (Value.int .i64 kind) := (blk_cell hF2.out.blk 1).trans rfl; have y2 : _ = some (Value.slice vA vs.length vc) := (blk_cell hF2.out.blk 2).trans rfl; clear hb0 hT0 hg)
      | ((with_reducible refine gate_dst (N := 2) rfl ?_); refine box_event ?hgA (N := 2) ?hdA (cs := #[.string key, .int .i64 kind, .slice vA vs.length vc]) (t := 29) ?hrA ?_; (case hdA => rfl); (case hgA => rfl); (case hrA => first | (go_simp; done) | (go_simp; rfl)); intro gF hg w4 hI0 hb0; have hF1 := Aside0.mk (⟨hI0, Kd.C_below hrv hb0, hcv⟩ : HasF gF key kind vA vc vs w4); have HB1 := Aside0.mk hb0; clear hb0 hI0 hg))
    go_ret
    exact ⟨rfl, HB3⟩
  | true =>
    rw [if_pos rfl] at h
    obtain ⟨t, ht, h⟩ := Option.bind_eq_some_iff.mp h
    obtain ⟨u, hu, h⟩ := Option.bind_eq_some_iff.mp h
    have h := Option.some.inj h
    have ht := Aside0.mk ht
    have hu := Aside0.mk hu
    have h1 : (kind == 1) = decide (kind = 1) := by by_cases e : kind = 1 <;> simp [e]
    have h2 : (kind == 2) = decide (kind = 2) := by by_cases e : kind = 2 <;> simp [e]
    have h3 : (kind == 3) = decide (kind = 3) := by by_cases e : kind = 3 <;> simp [e]
    by_cases k1 : kind = 1
    · rw [if_pos k1] at h
      subst h
      have q1 : (kind == 1) = true := by rw [h1]; exact decide_eq_true k1
      clear h1 h2 h3 k1
      go_enter Try.func9, Try.ntmps9
      go_wp2_with (first
        | (go_at_call 20; (with_reducible refine (some_calls_true k gF gT key kind vA vc vs A0 c0 l0 u _ hF4.out hT4.out (Kd.C_below hr0 HB4.out) hc0 hl hu.out).mono ?_); rintro e w12 ⟨rfl, hb2⟩; have HB5 := below_step HB4.out hb2; have hF5 := hF4.out.below hb2; have y1 : _ = some (Value.int .i64 kind) := (blk_cell hF5.blk 1).trans rfl; clear hb2)
        | (go_at_call 20; (with_reducible refine (some_calls_false k gF gT key kind vA vc vs A0 c0 l0 t _ hF3.out hT3.out (Kd.C_below hr0 HB3.out) hc0 hl ht.out).mono ?_); rintro e w11 ⟨rfl, hb2⟩; have HB4 := Aside0.mk (below_step HB3.out hb2); have hF4 := Aside0.mk (hF3.out.below hb2); have hT4 := Aside0.mk (blk_below hT3.out hb2); clear hb2)
        | (go_at_call 19; (with_reducible refine (filter_Right.calls k key kind vA vc vs true _ hF2.out.row hF2.out.cap hr.out).mono ?_); rintro e w9 ⟨rfl, hb2⟩; have HB3 := Aside0.mk (below_step HB2.out hb2); have hF3 := Aside0.mk (hF2.out.below hb2); have hT3 := Aside0.mk (blk_below hT2.out hb2); clear hb2)
        | ((with_reducible refine gate_dst (N := 3) rfl ?_); refine box_event ?hgBp (N := 3) ?hdBp (cs := #[.slice A0 l0.length c0]) (t := 31) ?hrBp ?_; (case hdBp => rfl); (case hgBp => rfl); (case hrBp => first | (go_simp; done) | (go_simp; rfl)); intro gT hg w5 hT0 hb0; have hF2 := Aside0.mk (hF1.out.below hb0); have HB2 := Aside0.mk (below_step HB1.out hb0); have hT2 := Aside0.mk hT0; have y0 : _ = some (Value.string key) := (blk_cell hF2.out.blk 0).trans rfl; have y1 : _ = some (Value.int .i64 kind) := (blk_cell hF2.out.blk 1).trans rfl; have y2 : _ = some (Value.slice vA vs.length vc) := (blk_cell hF2.out.blk 2).trans rfl; clear hb0 hT0 hg)
        | ((with_reducible refine gate_dst (N := 2) rfl ?_); refine box_event ?hgAp (N := 2) ?hdAp (cs := #[.string key, .int .i64 kind, .slice vA vs.length vc]) (t := 29) ?hrAp ?_; (case hdAp => rfl); (case hgAp => rfl); (case hrAp => first | (go_simp; done) | (go_simp; rfl)); intro gF hg w4 hI0 hb0; have hF1 := Aside0.mk (⟨hI0, Kd.C_below hrv hb0, hcv⟩ : HasF gF key kind vA vc vs w4); have HB1 := Aside0.mk hb0; clear hb0 hI0 hg))
      go_ret
      exact ⟨rfl, HB5⟩
    · rw [if_neg k1] at h
      have q1 : (kind == 1) = false := by rw [h1]; exact decide_eq_false k1
      by_cases k2 : kind = 2
      · rw [if_pos k2] at h
        have q2 : (kind == 2) = true := by rw [h2]; exact decide_eq_true k2
        clear h1 h2 h3 k1 k2
        cases t
        · obtain rfl : false = b := h
          go_enter Try.func9, Try.ntmps9
          go_wp2_with (first
            | (go_at_call 20; (with_reducible refine (some_calls_true k gF gT key kind vA vc vs A0 c0 l0 u _ hF4.out hT4.out (Kd.C_below hr0 HB4.out) hc0 hl hu.out).mono ?_); rintro e w12 ⟨rfl, hb2⟩; have HB5 := below_step HB4.out hb2; have hF5 := hF4.out.below hb2; have y1 : _ = some (Value.int .i64 kind) := (blk_cell hF5.blk 1).trans rfl; clear hb2)
            | (go_at_call 20; (with_reducible refine (some_calls_false k gF gT key kind vA vc vs A0 c0 l0 false _ hF3.out hT3.out (Kd.C_below hr0 HB3.out) hc0 hl ht.out).mono ?_); rintro e w11 ⟨rfl, hb2⟩; have HB4 := Aside0.mk (below_step HB3.out hb2); have hF4 := Aside0.mk (hF3.out.below hb2); have hT4 := Aside0.mk (blk_below hT3.out hb2); clear hb2)
            | (go_at_call 19; (with_reducible refine (filter_Right.calls k key kind vA vc vs true _ hF2.out.row hF2.out.cap hr.out).mono ?_); rintro e w9 ⟨rfl, hb2⟩; have HB3 := Aside0.mk (below_step HB2.out hb2); have hF3 := Aside0.mk (hF2.out.below hb2); have hT3 := Aside0.mk (blk_below hT2.out hb2); clear hb2)
            | ((with_reducible refine gate_dst (N := 3) rfl ?_); refine box_event ?hgBq (N := 3) ?hdBq (cs := #[.slice A0 l0.length c0]) (t := 31) ?hrBq ?_; (case hdBq => rfl); (case hgBq => rfl); (case hrBq => first | (go_simp; done) | (go_simp; rfl)); intro gT hg w5 hT0 hb0; have hF2 := Aside0.mk (hF1.out.below hb0); have HB2 := Aside0.mk (below_step HB1.out hb0); have hT2 := Aside0.mk hT0; have y0 : _ = some (Value.string key) := (blk_cell hF2.out.blk 0).trans rfl; have y1 : _ = some (Value.int .i64 kind) := (blk_cell hF2.out.blk 1).trans rfl; have y2 : _ = some (Value.slice vA vs.length vc) := (blk_cell hF2.out.blk 2).trans rfl; clear hb0 hT0 hg)
            | ((with_reducible refine gate_dst (N := 2) rfl ?_); refine box_event ?hgAq (N := 2) ?hdAq (cs := #[.string key, .int .i64 kind, .slice vA vs.length vc]) (t := 29) ?hrAq ?_; (case hdAq => rfl); (case hgAq => rfl); (case hrAq => first | (go_simp; done) | (go_simp; rfl)); intro gF hg w4 hI0 hb0; have hF1 := Aside0.mk (⟨hI0, Kd.C_below hrv hb0, hcv⟩ : HasF gF key kind vA vc vs w4); have HB1 := Aside0.mk hb0; clear hb0 hI0 hg))
          go_ret
          exact ⟨rfl, HB5⟩
        · obtain rfl : (!u) = b := h
          go_enter Try.func9, Try.ntmps9
          go_wp2_with (first
            | (go_at_call 20; (with_reducible refine (some_calls_true k gF gT key kind vA vc vs A0 c0 l0 u _ hF4.out hT4.out (Kd.C_below hr0 HB4.out) hc0 hl hu.out).mono ?_); rintro e w12 ⟨rfl, hb2⟩; have HB5 := below_step HB4.out hb2; have hF5 := hF4.out.below hb2; have y1 : _ = some (Value.int .i64 kind) := (blk_cell hF5.blk 1).trans rfl; clear hb2)
            | (go_at_call 20; (with_reducible refine (some_calls_false k gF gT key kind vA vc vs A0 c0 l0 true _ hF3.out hT3.out (Kd.C_below hr0 HB3.out) hc0 hl ht.out).mono ?_); rintro e w11 ⟨rfl, hb2⟩; have HB4 := Aside0.mk (below_step HB3.out hb2); have hF4 := Aside0.mk (hF3.out.below hb2); have hT4 := Aside0.mk (blk_below hT3.out hb2); clear hb2)
            | (go_at_call 19; (with_reducible refine (filter_Right.calls k key kind vA vc vs true _ hF2.out.row hF2.out.cap hr.out).mono ?_); rintro e w9 ⟨rfl, hb2⟩; have HB3 := Aside0.mk (below_step HB2.out hb2); have hF3 := Aside0.mk (hF2.out.below hb2); have hT3 := Aside0.mk (blk_below hT2.out hb2); clear hb2)
            | ((with_reducible refine gate_dst (N := 3) rfl ?_); refine box_event ?hgBr (N := 3) ?hdBr (cs := #[.slice A0 l0.length c0]) (t := 31) ?hrBr ?_; (case hdBr => rfl); (case hgBr => rfl); (case hrBr => first | (go_simp; done) | (go_simp; rfl)); intro gT hg w5 hT0 hb0; have hF2 := Aside0.mk (hF1.out.below hb0); have HB2 := Aside0.mk (below_step HB1.out hb0); have hT2 := Aside0.mk hT0; have y0 : _ = some (Value.string key) := (blk_cell hF2.out.blk 0).trans rfl; have y1 : _ = some (Value.int .i64 kind) := (blk_cell hF2.out.blk 1).trans rfl; have y2 : _ = some (Value.slice vA vs.length vc) := (blk_cell hF2.out.blk 2).trans rfl; clear hb0 hT0 hg)
            | ((with_reducible refine gate_dst (N := 2) rfl ?_); refine box_event ?hgAr (N := 2) ?hdAr (cs := #[.string key, .int .i64 kind, .slice vA vs.length vc]) (t := 29) ?hrAr ?_; (case hdAr => rfl); (case hgAr => rfl); (case hrAr => first | (go_simp; done) | (go_simp; rfl)); intro gF hg w4 hI0 hb0; have hF1 := Aside0.mk (⟨hI0, Kd.C_below hrv hb0, hcv⟩ : HasF gF key kind vA vc vs w4); have HB1 := Aside0.mk hb0; clear hb0 hI0 hg))
          go_ret
          exact ⟨rfl, HB5⟩
      · rw [if_neg k2] at h
        have q2 : (kind == 2) = false := by rw [h2]; exact decide_eq_false k2
        obtain rfl : (t == (kind == 3)) = b := by rw [h3]; exact h
        clear h1 h2 h3 k1 k2 h
        go_enter Try.func9, Try.ntmps9
        go_wp2_with (first
          | (go_at_call 20; (with_reducible refine (some_calls_true k gF gT key kind vA vc vs A0 c0 l0 u _ hF4.out hT4.out (Kd.C_below hr0 HB4.out) hc0 hl hu.out).mono ?_); rintro e w12 ⟨rfl, hb2⟩; have HB5 := below_step HB4.out hb2; have hF5 := hF4.out.below hb2; have y1 : _ = some (Value.int .i64 kind) := (blk_cell hF5.blk 1).trans rfl; clear hb2)
          | (go_at_call 20; (with_reducible refine (some_calls_false k gF gT key kind vA vc vs A0 c0 l0 t _ hF3.out hT3.out (Kd.C_below hr0 HB3.out) hc0 hl ht.out).mono ?_); rintro e w11 ⟨rfl, hb2⟩; have HB4 := Aside0.mk (below_step HB3.out hb2); have hF4 := Aside0.mk (hF3.out.below hb2); have hT4 := Aside0.mk (blk_below hT3.out hb2); clear hb2)
          | (go_at_call 19; (with_reducible refine (filter_Right.calls k key kind vA vc vs true _ hF2.out.row hF2.out.cap hr.out).mono ?_); rintro e w9 ⟨rfl, hb2⟩; have HB3 := Aside0.mk (below_step HB2.out hb2); have hF3 := Aside0.mk (hF2.out.below hb2); have hT3 := Aside0.mk (blk_below hT2.out hb2); clear hb2)
          | ((with_reducible refine gate_dst (N := 3) rfl ?_); refine box_event ?hgBs (N := 3) ?hdBs (cs := #[.slice A0 l0.length c0]) (t := 31) ?hrBs ?_; (case hdBs => rfl); (case hgBs => rfl); (case hrBs => first | (go_simp; done) | (go_simp; rfl)); intro gT hg w5 hT0 hb0; have hF2 := Aside0.mk (hF1.out.below hb0); have HB2 := Aside0.mk (below_step HB1.out hb0); have hT2 := Aside0.mk hT0; have y0 : _ = some (Value.string key) := (blk_cell hF2.out.blk 0).trans rfl; have y1 : _ = some (Value.int .i64 kind) := (blk_cell hF2.out.blk 1).trans rfl; have y2 : _ = some (Value.slice vA vs.length vc) := (blk_cell hF2.out.blk 2).trans rfl; clear hb0 hT0 hg)
          | ((with_reducible refine gate_dst (N := 2) rfl ?_); refine box_event ?hgAs (N := 2) ?hdAs (cs := #[.string key, .int .i64 kind, .slice vA vs.length vc]) (t := 29) ?hrAs ?_; (case hdAs => rfl); (case hgAs => rfl); (case hrAs => first | (go_simp; done) | (go_simp; rfl)); intro gF hg w4 hI0 hb0; have hF1 := Aside0.mk (⟨hI0, Kd.C_below hrv hb0, hcv⟩ : HasF gF key kind vA vc vs w4); have HB1 := Aside0.mk hb0; clear hb0 hI0 hg))
        go_ret
        exact ⟨rfl, HB5⟩
theorem isF_mono (o : Bool) (vs : List ByteArray) (x : S44) (k : Nat) : LeO (isF k o vs x) (isF (k + 1) o vs x) := by
  unfold isF
  exact LeO.ite (slices_Contains_string_string.mono _ _ _) (LeO.refl _)
theorem someF_mono (o : Bool) (key : ByteArray) (vs : List ByteArray) (l : List S44) (k : Nat) : LeO (someF k o key vs l) (someF (k + 1) o key vs l) := by
  induction l with
  | nil => exact LeO.refl _
  | cons x l ih =>
    unfold someF
    exact LeO.bind (isF_mono _ _ _ _) fun _ => LeO.ite (LeO.refl _) ih
theorem matchF_mono (key : ByteArray) (kind : Int) (vs : List ByteArray) (l : List S44) (k : Nat) : LeO (matchF k key kind vs l) (matchF (k + 1) key kind vs l) := by
  unfold matchF
  exact LeO.bind (filter_Right.mono _ _ _ _) fun _ => LeO.ite (LeO.bind (someF_mono _ _ _ _ _) fun _ => LeO.bind (someF_mono _ _ _ _ _) fun _ => LeO.refl _) (LeO.refl _)
def filter_Match.f (k : Nat) (a0_0 : ByteArray) (a0_1 : Int) (l0_2 : List ByteArray) (l1 : List (S44)) : Option Bool := if l1.length < 4611686014132420609 then matchF k a0_0 a0_1 l0_2 l1 else none
theorem filter_Match.mono : ∀ a0 a1 a2 a3 k, LeO (filter_Match.f k a0 a1 a2 a3) (filter_Match.f (k + 1) a0 a1 a2 a3) := by
  intro a0 a1 a2 a3 k
  unfold filter_Match.f
  exact LeO.ite (matchF_mono _ _ _ _ _) (LeO.refl _)
theorem filter_Match.calls (k : Nat) (a0_0 : ByteArray) (a0_1 : Int) (A0_2 : Option Addr) (c0_2 : Nat) (l0_2 : List ByteArray) (A1 : Option Addr) (c1 : Nat) (l1 : List (S44)) (r : Bool) (w : World) (hr0_2 : Kd.C Kd.string w A0_2 l0_2.length l0_2) (hc0_2 : l0_2.length ≤ c0_2) (hr1 : Kd.C k44 w A1 l1.length l1) (hc1 : l1.length ≤ c1) (h : filter_Match.f k a0_0 a0_1 l0_2 l1 = some r) :
    Calls Try.prog 9 #[.agg #[.string a0_0, .int .i64 a0_1, .slice A0_2 l0_2.length c0_2], .slice A1 l1.length c1] w fun e w' => e = .returned (.bool r) ∧ Below w.heap.size w w' := by
  unfold filter_Match.f at h
  by_cases hl : l1.length < 4611686014132420609
  · rw [if_pos hl] at h
    exact match_calls k a0_0 a0_1 A0_2 c0_2 l0_2 A1 c1 l1 r w hr0_2 hc0_2 hr1 hc1 hl h
  · rw [if_neg hl] at h
    cases h

-- NOT PRINTED: function 36 (api_Filter_36)

-- NOT PRINTED: function 26 (api_Filter_26)

-- NOT PRINTED: function 27 (filter_All_1)

/-! ### filter.All: function 11, by hand -/
set_option maxHeartbeats 8000000
set_option maxRecDepth 100000
def notAll (k : Nat) (tags : List S44) : List S29 → Option Bool
  | [] => some false
  | x :: l => (matchF k x.f0 x.f1 x.f2 tags).bind fun t => if t = true then notAll k tags l else some true
theorem all1_calls (k : Nat) (gT : Nat) (x : S29) (A2 : Option Addr) (c2 : Nat) (A0 : Option Addr) (c0 : Nat) (l0 : List S44) (b : Bool) (w : World) (hT : w.heap[gT]? = some (.cells #[.slice A0 l0.length c0] 31 (0, 0))) (hrv : Kd.C Kd.string w A2 x.f2.length x.f2) (hcv : x.f2.length ≤ c2) (hr0 : Kd.C k44 w A0 l0.length l0) (hc0 : l0.length ≤ c0) (hl : l0.length < 4611686014132420609) (h : matchF k x.f0 x.f1 x.f2 l0 = some b) :
    Calls Try.prog 27 #[.agg #[.string x.f0, .int .i64 x.f1, .slice A2 x.f2.length c2], .pointer (some ⟨gT, 0, none⟩)] w fun e w' => e = .returned (.bool !b) ∧ Below w.heap.size w w' := by
  have hu29 := Try.underlying29
  have HB := below_alloc (Below.refl w.heap.size w) (Obj.cells #[.string x.f0, .int .i64 x.f1, .slice A2 x.f2.length c2] 29)
  have hT1 := blk_alloc hT (Obj.cells #[.string x.f0, .int .i64 x.f1, .slice A2 x.f2.length c2] 29)
  obtain ⟨d0, d1, d2, -, -, -⟩ := blk3 (blk_new w (Obj.cells #[.string x.f0, .int .i64 x.f1, .slice A2 x.f2.length c2] 29))
  have e0 : _ = some (Value.slice A0 l0.length c0) := (blk_cell hT1 0).trans rfl
  have h := Aside0.mk h
  replace hrv := Kd.C_alloc hrv (Obj.cells #[.string x.f0, .int .i64 x.f1, .slice A2 x.f2.length c2] 29)
  replace hr0 := Kd.C_alloc hr0 (Obj.cells #[.string x.f0, .int .i64 x.f1, .slice A2 x.f2.length c2] 29)
  clear hT hT1
  go_enter Try.func27, Try.ntmps27
  go_wp2_with (go_at_call 9; (with_reducible refine (match_calls k x.f0 x.f1 A2 c2 x.f2 A0 c0 l0 b _ hrv hcv hr0 hc0 hl h.out).mono ?_); rintro e w2 ⟨rfl, hb⟩)
  go_ret
  exact ⟨rfl, below_step HB hb⟩
theorem indexA (k : Nat) (gT : Nat) (AF : Option Addr) (cF : Nat) (lF : List S29) (A0 : Option Addr) (c0 : Nat) (l0 : List S44) (b : Bool) (w : World) (hT : w.heap[gT]? = some (.cells #[.slice A0 l0.length c0] 31 (0, 0))) (hrF : Kd.C k29 w AF lF.length lF) (hcF : lF.length ≤ cF) (hlF : lF.length < 4611686014132420609) (hr0 : Kd.C k44 w A0 l0.length l0) (hc0 : l0.length ≤ c0) (hl : l0.length < 4611686014132420609) (h : notAll k l0 lF = some b) :
    Calls Try.prog 36 #[.slice AF lF.length cF, .func (.func 27) #[] #[.pointer (some ⟨gT, 0, none⟩)]] w fun e w' => (∃ i : Int, e = .returned (.int .i64 i) ∧ (0 ≤ i ↔ b = true)) ∧ Below w.heap.size w w' := by
  have hu29 := Try.underlying29
  have HB := Below.refl w.heap.size w
  have hT := Aside0.mk hT
  go_enter Try.func36, Try.ntmps36
  go_wp2
  go_loopg [8] (lF.length + 1) (fun kq v8 w' => ∃ j : Nat, v8 = .int .i64 (j : Int) ∧ Aside0 (lF.length - j < kq ∧ j ≤ lF.length) ∧ Aside0 (notAll k l0 (lF.drop j) = some b) ∧ Aside0 (Below w.heap.size w w'))
  case atStart => exact ⟨0, rfl, ⟨by omega⟩, ⟨h⟩, ⟨HB⟩⟩
  case round =>
    clear h HB
    obtain ⟨j, rfl, hj, hbad, hb⟩ := hrel
    have hj := hj.out
    have hbad := hbad.out
    have hb := hb.out
    by_cases hlt_ : ¬ j < lF.length
    · have hjl : j = lF.length := by omega
      rw [hjl, List.drop_length] at hbad
      obtain rfl : b = false := (Option.some.inj hbad).symm
      have hd0 : decide ((j : Int) < (lF.length : Int)) = false := decide_eq_false (by omega)
      go_wp2
      repeat (go_quiet (fail); try go_wp2)
      exact ⟨rfl, _, results_tmp (t := 4) rfl _ _ _, ⟨⟨-1, rfl, by simp⟩, hb⟩⟩
    · have hlt : j < lF.length := by omega
      clear hlt_
      obtain ⟨ad, A2, c2, rfl, hx0, hx1, hx2, hc2, hC2⟩ := at_T29 (Kd.C_below hrF hb) (j : Int) (Int.natCast_nonneg j) (by omega)
      have hrd : rd_T29 lF (j : Int) = lF[j] := by
        unfold rd_T29
        rw [Int.toNat_natCast, List.getD_eq_getElem?_getD, List.getElem?_eq_getElem hlt]
        rfl
      rw [hrd] at hx0 hx1 hx2 hc2 hC2
      rw [Int.toNat_natCast] at hx0 hx1 hx2
      rw [List.drop_eq_getElem_cons hlt, notAll] at hbad
      obtain ⟨t, ht, hbad⟩ := Option.bind_eq_some_iff.mp hbad
      have hm3 : lF.length - j < gk := hj.1
      have hm1 : lF.length - (j + 1) < lF.length - j := by omega
      have hnx : wrap64 ((j : Int) + 1) = ((j + 1 : Nat) : Int) := by unfold wrap64; omega
      have hd1 : decide ((j : Int) < (lF.length : Int)) = true := decide_eq_true (by clear hnx; omega)
      have hTw := Aside0.mk (blk_below hT.out hb)
      have hr0w := Kd.C_below hr0 hb
      clear hrd
      generalize lF[j] = x at hx0 hx1 hx2 hc2 hC2 ht hbad
      have ht := Aside0.mk ht
      cases t with
      | true =>
        rw [if_pos rfl] at hbad
        go_wp2_with (go_at_call 27; (with_reducible refine (all1_calls k gT x A2 c2 A0 c0 l0 true _ hTw.out hC2 hc2 hr0w hc0 hl ht.out).mono ?_); rintro e w2 ⟨rfl, hb2⟩)
        go_roundg (lF.length - j)
        case measure => exact hm3
        case rel => exact ⟨j + 1, (by first | rfl | exact congrArg (Value.int .i64) (by clear hnx; omega)), ⟨hm1, hlt⟩, ⟨hbad⟩, ⟨below_step hb hb2⟩⟩
      | false =>
        rw [if_neg (by decide)] at hbad
        obtain rfl : b = true := (Option.some.inj hbad).symm
        go_wp2_with (go_at_call 27; (with_reducible refine (all1_calls k gT x A2 c2 A0 c0 l0 false _ hTw.out hC2 hc2 hr0w hc0 hl ht.out).mono ?_); rintro e w2 ⟨rfl, hb2⟩)
        repeat (go_quiet (fail); try go_wp2)
        exact ⟨rfl, _, results_tmp (t := 4) rfl _ _ _, ⟨⟨_, rfl, by simp⟩, below_step hb hb2⟩⟩
theorem containsA (k : Nat) (gT : Nat) (AF : Option Addr) (cF : Nat) (lF : List S29) (A0 : Option Addr) (c0 : Nat) (l0 : List S44) (b : Bool) (w : World) (hT : w.heap[gT]? = some (.cells #[.slice A0 l0.length c0] 31 (0, 0))) (hrF : Kd.C k29 w AF lF.length lF) (hcF : lF.length ≤ cF) (hlF : lF.length < 4611686014132420609) (hr0 : Kd.C k44 w A0 l0.length l0) (hc0 : l0.length ≤ c0) (hl : l0.length < 4611686014132420609) (h : notAll k l0 lF = some b) :
    Calls Try.prog 26 #[.slice AF lF.length cF, .func (.func 27) #[] #[.pointer (some ⟨gT, 0, none⟩)]] w fun e w' => e = .returned (.bool b) ∧ Below w.heap.size w w' := by
  have hT := Aside0.mk hT
  go_enter Try.func26, Try.ntmps26
  go_wp2_with (go_at_call 36; (with_reducible refine (indexA k gT AF cF lF A0 c0 l0 b _ hT.out hrF hcF hlF hr0 hc0 hl h).mono ?_); rintro e w2 ⟨⟨i, rfl, hi⟩, hb2⟩)
  have hd : decide (0 ≤ i) = b := by
    cases b with
    | true => exact decide_eq_true (hi.2 rfl)
    | false => exact decide_eq_false (fun h0 => by have := hi.1 h0; cases this)
  subst hd
  exact ⟨rfl, _, results_tmp rfl _ _ _, ⟨rfl, hb2⟩⟩
theorem notAll_mono (tags : List S44) (l : List S29) (k : Nat) : LeO (notAll k tags l) (notAll (k + 1) tags l) := by
  induction l with
  | nil => exact LeO.refl _
  | cons x l ih =>
    unfold notAll
    exact LeO.bind (matchF_mono _ _ _ _ _) fun _ => LeO.ite ih (LeO.refl _)
def filter_All.f (k : Nat) (l0 : List (S29)) (l1 : List (S44)) : Option Bool := if l0.length < 4611686014132420609 then (if l1.length < 4611686014132420609 then (notAll k l1 l0).bind fun t => some (!t) else none) else none
theorem filter_All.mono : ∀ a0 a1 k, LeO (filter_All.f k a0 a1) (filter_All.f (k + 1) a0 a1) := by
  intro a0 a1 k
  unfold filter_All.f
  exact LeO.ite (LeO.ite (LeO.bind (notAll_mono _ _ _) fun _ => LeO.refl _) (LeO.refl _)) (LeO.refl _)
theorem filter_All.calls (k : Nat) (A0 : Option Addr) (c0 : Nat) (l0 : List (S29)) (A1 : Option Addr) (c1 : Nat) (l1 : List (S44)) (r : Bool) (w : World) (hr0 : Kd.C k29 w A0 l0.length l0) (hc0 : l0.length ≤ c0) (hr1 : Kd.C k44 w A1 l1.length l1) (hc1 : l1.length ≤ c1) (h : filter_All.f k l0 l1 = some r) :
    Calls Try.prog 11 #[.slice A0 l0.length c0, .slice A1 l1.length c1] w fun e w' => e = .returned (.bool r) ∧ Below w.heap.size w w' := by
  unfold filter_All.f at h
  by_cases hl0 : l0.length < 4611686014132420609
  case neg => rw [if_neg hl0] at h; cases h
  rw [if_pos hl0] at h
  by_cases hl1 : l1.length < 4611686014132420609
  case neg => rw [if_neg hl1] at h; cases h
  rw [if_pos hl1] at h
  obtain ⟨t, ht, h⟩ := Option.bind_eq_some_iff.mp h
  obtain rfl := Option.some.inj h
  clear h
  have ht := Aside0.mk ht
  have HB := below_alloc (Below.refl w.heap.size w) (Obj.cells #[.slice A1 l1.length c1] 31)
  have hT := Aside0.mk (blk_new w (Obj.cells #[.slice A1 l1.length c1] 31))
  replace hr0 := Kd.C_alloc hr0 (Obj.cells #[.slice A1 l1.length c1] 31)
  replace hr1 := Kd.C_alloc hr1 (Obj.cells #[.slice A1 l1.length c1] 31)
  go_enter Try.func11, Try.ntmps11
  go_wp2_with (go_at_call 26; (with_reducible refine (containsA k w.heap.size A0 c0 l0 A1 c1 l1 t _ hT.out hr0 hc0 hl0 hr1 hc1 hl1 ht.out).mono ?_); rintro e w2 ⟨rfl, hb2⟩)
  go_ret
  exact ⟨rfl, below_step HB hb2⟩

/-! ### marigraphlaw19.known: function 10, by hand -/
set_option maxHeartbeats 8000000
set_option maxRecDepth 100000
theorem all_nil_calls (k : Nat) (A0 : Option Addr) (c0 : Nat) (x : S44) (w : World) (hr : Kd.C k44 w A0 ([x] : List S44).length [x]) (hc : ([x] : List S44).length ≤ c0) : Calls Try.prog 11 #[.slice none 0 0, .slice A0 1 c0] w fun e w' => e = .returned (.bool true) ∧ Below w.heap.size w w' :=
  filter_All.calls k none 0 [] A0 c0 [x] true w (Kd.C_nil k29 w) (Nat.le_refl _) hr hc (by unfold filter_All.f; rw [if_pos (by simp), if_pos (by simp)]; rfl)
theorem lit_R (W : World) (x : ByteArray) : Kd.R Kd.string 9 (W.alloc (.cells #[.string x] 9)) W.heap.size (fun _ => True) (.slice (some ⟨W.heap.size, 0, none⟩) 1 1) [x] :=
  ⟨fun _ _ => trivial, [.string x], by have h3 : (W.alloc (.cells #[.string x] 9)).ownsRow W.heap.size 9 1 (.slice (some ⟨W.heap.size, 0, none⟩) 1 1) 1 [.string x] := (by have h2 := World.ownsRow_lit (base := W.heap.size) (e := 9) (size := 1) W #[.string x] 1 (Nat.le_refl _) (by decide) (by simp); simpa using h2); exact h3, Reps.one (show Kd.M Kd.string _ _ _ x [.string x] from rfl) (Reps.none _ _)⟩
theorem match_calls_n (k : Nat) (key : ByteArray) (kind : Int) (A0 : Option Addr) (c0 : Nat) (x : S44) (b : Bool) (w : World) (hr0 : Kd.C k44 w A0 ([x] : List S44).length [x]) (hc0 : ([x] : List S44).length ≤ c0) (h : matchF k key kind [] [x] = some b) :
    Calls Try.prog 9 #[.agg #[.string key, .int .i64 kind, .slice none 0 0], .slice A0 1 c0] w fun e w' => e = .returned (.bool b) ∧ Below w.heap.size w w' :=
  match_calls k key kind none 0 [] A0 c0 [x] b w (Kd.R_reads' (Kd.R_nil Kd.string 9 w 0 (fun _ => True))).2.2 (Nat.le_refl _) hr0 hc0 (by simp) h
theorem match_calls_x (k : Nat) (key : ByteArray) (kind : Int) (vA : Option Addr) (vc : Nat) (v : ByteArray) (A0 : Option Addr) (c0 : Nat) (x : S44) (b : Bool) (w : World) (hrv : Kd.C Kd.string w vA ([v] : List ByteArray).length [v]) (hcv : ([v] : List ByteArray).length ≤ vc) (hr0 : Kd.C k44 w A0 ([x] : List S44).length [x]) (hc0 : ([x] : List S44).length ≤ c0) (h : matchF k key kind [v] [x] = some b) :
    Calls Try.prog 9 #[.agg #[.string key, .int .i64 kind, .slice vA 1 vc], .slice A0 1 c0] w fun e w' => e = .returned (.bool b) ∧ Below w.heap.size w w' :=
  match_calls k key kind vA vc [v] A0 c0 [x] b w hrv hcv hr0 hc0 (by simp) h
theorem known19_calls (k : Nat) (h1 : matchF k ⟨#[97]⟩ 4 [] [⟨⟨#[98]⟩, ⟨#[49]⟩⟩] = some true) (h2 : matchF k ⟨#[97]⟩ 9 [] [⟨⟨#[98]⟩, ⟨#[49]⟩⟩] = some false) (h3 : matchF k ⟨#[97]⟩ 2 [⟨#[120]⟩] [⟨⟨#[98]⟩, ⟨#[49]⟩⟩] = some false) (w : World) :
    Calls Try.prog 10 #[] w fun e w' => e = .returned (.bool true) ∧ Below w.heap.size w w' := by
  have HB := Below.refl w.heap.size w
  have hu25 := Try.underlying44
  have hu30 := Try.underlying29
  have h1 := Aside0.mk h1
  have h2 := Aside0.mk h2
  have h3 := Aside0.mk h3
  go_enter Try.func10, Try.ntmps10
  go_wp2_with (first
    | (go_at_call 11; (with_reducible refine (all_nil_calls k At ct ⟨⟨#[98]⟩, ⟨#[49]⟩⟩ _ HT5 hct).mono ?_); rintro e w9 ⟨rfl, hb⟩; have HB6 := below_step HB5 hb; clear hb)
    | (go_at_call 9; (with_reducible refine (match_calls_x k ⟨#[97]⟩ 2 (some ⟨w6.heap.size, 0, none⟩) 1 ⟨#[120]⟩ At ct ⟨⟨#[98]⟩, ⟨#[49]⟩⟩ false _ (Kd.R_reads' (lit_R w6 ⟨#[120]⟩)).2.2 (Nat.le_refl _) (Kd.C_alloc HT3 _) hct h3.out).mono ?_); rintro e w8 ⟨rfl, hb⟩; have HB5 := below_step (below_alloc HB3 _) hb; have HT5 := Kd.C_below (Kd.C_alloc HT3 _) hb; clear hb)
    | (go_at_call 9; (with_reducible refine (match_calls_n k ⟨#[97]⟩ 9 At ct ⟨⟨#[98]⟩, ⟨#[49]⟩⟩ false _ HT2 hct h2.out).mono ?_); rintro e w6 ⟨rfl, hb⟩; have HB3 := below_step HB2 hb; have HT3 := Kd.C_below HT2 hb; clear hb)
    | (go_at_call 9; (with_reducible refine (match_calls_n k ⟨#[97]⟩ 4 At ct ⟨⟨#[98]⟩, ⟨#[49]⟩⟩ true _ HT1 hct h1.out).mono ?_); rintro e w5 ⟨rfl, hb⟩; have HB2 := below_step HB1 hb; have HT2 := Kd.C_below HT1 hb; clear hb)
    | ((with_reducible refine gate_dst (N := 3) rfl ?_); refine Kd.R_lit k44 (w0 := w) w.heap.size 44 ?hgT (N := 3) ?hdT (xs := ([⟨⟨#[98]⟩, ⟨#[49]⟩⟩] : List S44)) (inner := [.string ⟨#[98]⟩, .string ⟨#[49]⟩]) (ok := fun _ => True) (okp := fun _ => True) ?hrT ?hpT (fun _ hk => hk) trivial HB (below_size HB) (by simp) ?_; (case hdT => rfl); (case hgT => rfl); (case hrT => first | (go_simp; done) | (go_simp; rfl)); (case hpT => exact (Reps.c2 (show Kd.M k44 _ _ _ (⟨⟨#[98]⟩, ⟨#[49]⟩⟩ : S44) [.string ⟨#[98]⟩, .string ⟨#[49]⟩] from (k44_mkM _ _ _ (⟨⟨#[98]⟩, ⟨#[49]⟩⟩ : S44))) (Reps.none _ _))); intro vT w4 HT HBn hg4 _; obtain ⟨At, ct, rfl⟩ := Kd.R_slice HT; have HB1 := HBn; have HT1 := (Kd.R_reads' HT).2.2; have hct := (Kd.R_reads' HT).2.1; clear HT HBn hg4))
  go_ret
  exact ⟨rfl, HB6⟩
def marigraphlaw19_known.f (k : Nat) : Option Bool := (matchF k ⟨#[97]⟩ 4 [] [⟨⟨#[98]⟩, ⟨#[49]⟩⟩]).bind fun a => (matchF k ⟨#[97]⟩ 9 [] [⟨⟨#[98]⟩, ⟨#[49]⟩⟩]).bind fun b => (matchF k ⟨#[97]⟩ 2 [⟨#[120]⟩] [⟨⟨#[98]⟩, ⟨#[49]⟩⟩]).bind fun c => if (a && (!b && !c)) = true then some true else none
theorem marigraphlaw19_known.mono : ∀ k, LeO (marigraphlaw19_known.f k) (marigraphlaw19_known.f (k + 1)) := by
  intro k
  unfold marigraphlaw19_known.f
  exact LeO.bind (matchF_mono _ _ _ _ _) fun _ => LeO.bind (matchF_mono _ _ _ _ _) fun _ => LeO.bind (matchF_mono _ _ _ _ _) fun _ => LeO.refl _
theorem marigraphlaw19_known.calls (k : Nat) (r : Bool) (w : World) (h : marigraphlaw19_known.f k = some r) :
    Calls Try.prog 10 #[] w fun e w' => e = .returned (.bool r) ∧ Below w.heap.size w w' := by
  unfold marigraphlaw19_known.f at h
  obtain ⟨a, ha, h⟩ := Option.bind_eq_some_iff.mp h
  obtain ⟨b, hb, h⟩ := Option.bind_eq_some_iff.mp h
  obtain ⟨c, hc, h⟩ := Option.bind_eq_some_iff.mp h
  by_cases hq : (a && (!b && !c)) = true
  · rw [if_pos hq] at h
    obtain rfl := Option.some.inj h
    obtain ⟨rfl, rfl, rfl⟩ : a = true ∧ b = false ∧ c = false := by simpa using hq
    exact known19_calls k ha hb hc w
  · rw [if_neg hq] at h
    cases h

/-! ### slices_Clone_string_string: function 37 -/
def slices_Clone_string_string.f (l0 : List ByteArray) : Option (List ByteArray) := if l0.length < 8796093022208 then (some l0) else (none)
set_option maxHeartbeats 8000000 in
set_option maxRecDepth 100000 in
theorem slices_Clone_string_string.calls (A0 : Option Addr) (c0 : Nat) (l0 : List ByteArray) (r : List ByteArray) (w : World) (hr0 : Kd.C Kd.string w A0 l0.length l0) (hc0 : l0.length ≤ c0) (h : slices_Clone_string_string.f l0 = some r) :
    Calls Try.prog 37 #[.slice A0 l0.length c0] w fun e w' => ∃ v0_ : Value, e = .returned (v0_) ∧ Kd.R Kd.string 9 w' w.heap.size (fun _ => True) v0_ r ∧ Below w.heap.size w w' := by
  have H : (if l0.length < 8796093022208 then (some l0) else (none)) = some r := h
  clear h
  by_cases c1 : l0.length < 8796093022208
  · rw [if_pos c1] at H
    have LMc1 := Aside0.mk c1
    clear c1
    obtain rfl := Option.some.inj H
    have qT : ∀ (w : World) (a : Option Addr) (n c n' c' : Nat), (binOp .eql 27 (.slice a n c) (.slice none n' c')).run Try.prog w = .ok (.bool a.isNone) w := fun w a n c n' c' => Lib.run_eql_slice_nil w _ _ a n c n' c' Try.underlying27
    have HB := Aside0.mk (Below.refl w.heap.size w)
    cases A0 with
    | none =>
      have hz : l0 = [] := by
        cases l0 with
        | nil => rfl
        | cons x xs =>
          obtain ⟨ad, he, _⟩ := hr0.2.2 (by simp)
          cases he
      subst hz
      clear hr0 hc0
      go_enter Try.func37, Try.ntmps37
      go_wp2
      go_ret
      exact ⟨_, rfl, Kd.R_nil _ _ _ _ _, HB.out⟩
    | some ad0 =>
      have HR0 := Aside0.mk hr0
      clear hr0 hc0
      obtain ⟨y112, hy112⟩ : ∃ y_ : List ByteArray, y_ = (([] : List ByteArray)) := ⟨_, rfl⟩
      have Ny112 := Aside0.mk hy112
      clear hy112
      obtain ⟨y115, hy115⟩ : ∃ y_ : List ByteArray, y_ = (y112 ++ l0) := ⟨_, rfl⟩
      have Ny115 := Aside0.mk hy115
      clear hy115
      go_enter Try.func37, Try.ntmps37
      go_wp2_with (first | ((with_reducible refine gate_dst (N := 5) rfl ?_); refine Kd.R_lit Kd.string _ 9 ?hg (N := 5) ?hd (xs := ([] : List ByteArray)) (inner := []) (ok := fun _ => True) (okp := fun _ => True) ?hr ?hp (fun _ hk => hk) trivial (Below.refl _ _) (Nat.le_refl _) (by simp) ?_; (case hd => rfl); (case hg => rfl); (case hr => first | (go_simp; done) | (go_simp; rfl)); (case hp => exact (Reps.none _ _)); intro v113 w7 ho8 hb hg_ hnew_; clear hg_ hnew_; (first | rw [← Ny112.out] at ho8 | (simp only [Int.reduceToNat] at ho8; rw [← Ny112.out] at ho8)); have n0_ := Aside0.mk (Kd.R_lower ho8 (below_size (by repeat (first | (with_reducible first | exact HB.out | apply below_alloc | apply pw_below_drewN | apply below_drew1) | exact HB.out)))); have n1_ := Aside0.mk (below_step (by repeat (first | (with_reducible first | exact HB.out | apply below_alloc | apply pw_below_drewN | apply below_drew1) | exact HB.out)) hb); clear HB; have HO114 := n0_; have HB := n1_; clear n0_ n1_; clear hb ho8) | ((with_reducible refine gate_builtin (b := .append) (xs := #[.tmp 5, .tmp 6]) rfl ?_); at_builtin; refine Kd.R_append_rows Kd.string (w0 := w) w.heap.size rfl (.tmp 5) (.tmp 6) 27 9 (.string ⟨#[]⟩) 16 rfl Try.underlying27 info9 rfl (by decide) (by omega) v113 y112 l0 _ _ _ (fun _ => True) (fun _ => False) rfl rfl ?aO ?aR (fun _ _ h => h) (fun _ h => h.elim) ?aF ?aB ?aS ?aL ?_; (case aR => repeat (first | exact (Kd.C_below HR0.out HB.out) | (with_reducible refine Kd.C_alloc ?_ _) | (with_reducible refine Kd.C_drewN ?_ _) | (with_reducible refine Kd.C_drew ?_))); (case aB => exact (by repeat (first | (with_reducible first | exact HB.out | apply below_alloc | apply pw_below_drewN | apply below_drew1) | exact HB.out))); (case aF => exact (fun _ _ => trivial)); (case aO => exact (by (with_reducible repeat (first | apply Kd.R_alloc | apply Kd.R_drewN | apply Kd.R_drew)); exact HO114.out)); (case aS => exact (below_size (by repeat (first | (with_reducible first | exact HB.out | apply below_alloc | apply pw_below_drewN | apply below_drew1) | exact HB.out)))); (case aL => have := LMc1.out; have := Ny112.out; subst this; simp only [List.length_nil]; omega); intro v116 w9 ho hb hg hat; rw [← Ny115.out] at ho; have n0_ := Aside0.mk (hb); have n1_ := Aside0.mk (ho); clear HB; clear HO114; have HB := n0_; have HO117 := n1_; clear n0_ n1_; clear ho hb hg hat))
      go_ret
      exact ⟨_, rfl, by rw [show l0 = y115 from by rw [Ny115.out, Ny112.out]; rfl]; exact HO117.out, HB.out⟩
  · rw [if_neg c1] at H
    exact absurd H (by simp)

-- NOT PRINTED: function 38 (filter_Func_1)

-- NOT PRINTED: function 28 (filter_Func)

end Go.Proofs.Yteghihdcagbmbaa.PFilterTells

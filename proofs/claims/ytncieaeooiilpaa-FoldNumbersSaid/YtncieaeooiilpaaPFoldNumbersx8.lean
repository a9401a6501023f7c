/- The walk of the Go functions that a law reaches, told as plain functions; a program of this session has written it. No condition beyond the statement's own. -/
import Derived.Test.YtncieaeooiilpaaPFoldNumbersx0
import Derived.Test.YtncieaeooiilpaaPFoldNumbersx1
import Derived.Test.YtncieaeooiilpaaPFoldNumbersx2
import Derived.Test.YtncieaeooiilpaaPFoldNumbersx4
import Derived.Test.YtncieaeooiilpaaPFoldNumbersx5
import Derived.Test.YtncieaeooiilpaaPFoldNumbersx7
namespace Go.Proofs.Ytncieaeooiilpaa.PFoldNumbers
open Go.RowKit Go.Proofs.YtncieaeooiilpaaW.PrintWords Go.Proofs.YtncieaeooiilpaaW.PrintLast Go.Proofs.YtncieaeooiilpaaW.PrintMore
attribute [local go_sem] max2_int min2_int max_two min_two max_three min_three max_four min_four   -- for this text's walks alone
set_option linter.unusedVariables false
set_option linter.unusedSimpArgs false

attribute [local go_sem high] eqA23
/-! ### marigraphref20_Name: function 18 -/
def marigraphref20_Name.f (a0 : Int) : Option (ByteArray) := if a0 = 1 then (some (⟨#[115, 117, 109]⟩ : ByteArray)) else (if a0 = 2 then (some (⟨#[109, 105, 110]⟩ : ByteArray)) else (if a0 = 3 then (some (⟨#[109, 97, 120]⟩ : ByteArray)) else (if a0 = 4 then (some (⟨#[97, 118, 103]⟩ : ByteArray)) else (if a0 = 5 then (some (⟨#[99, 111, 117, 110, 116]⟩ : ByteArray)) else (if a0 = 6 then (some (⟨#[102, 105, 114, 115, 116]⟩ : ByteArray)) else (if a0 = 7 then (some (⟨#[108, 97, 115, 116]⟩ : ByteArray)) else (some (⟨#[]⟩ : ByteArray))))))))
set_option maxHeartbeats 8000000 in
set_option maxRecDepth 100000 in
theorem marigraphref20_Name.calls (a0 : Int) (r : ByteArray) (w : World) (h : marigraphref20_Name.f a0 = some r) :
  Calls Try.prog 18 #[.int .i64 a0] w fun e w' => e = .returned (.string r) ∧ Drawn0 w w' := by
 have H : (if a0 = 1 then (some (⟨#[115, 117, 109]⟩ : ByteArray)) else (if a0 = 2 then (some (⟨#[109, 105, 110]⟩ : ByteArray)) else (if a0 = 3 then (some (⟨#[109, 97, 120]⟩ : ByteArray)) else (if a0 = 4 then (some (⟨#[97, 118, 103]⟩ : ByteArray)) else (if a0 = 5 then (some (⟨#[99, 111, 117, 110, 116]⟩ : ByteArray)) else (if a0 = 6 then (some (⟨#[102, 105, 114, 115, 116]⟩ : ByteArray)) else (if a0 = 7 then (some (⟨#[108, 97, 115, 116]⟩ : ByteArray)) else (some (⟨#[]⟩ : ByteArray))))))))) = some r := h
 clear h
 by_cases c2 : a0 = 1
 ·rw [if_pos c2] at H
  have c2b0 : (a0 == 1) = true := beq_iff_eq.mpr c2
  have c2b1 : (a0 != 1) = false := bne_eq_false_iff_eq.mpr c2
  clear c2
  obtain rfl := Option.some.inj H
  go_enter Try.func18, Try.ntmps18
  go_wp2
  go_ret
  exact ⟨by first | rfl | (simp; done) | (simp [*]; done), by repeat (first | exact Drawn0.refl _ | apply Drawn0.step)⟩
 ·rw [if_neg c2] at H
  have c2b0 : (a0 == 1) = false := beq_eq_false_iff_ne.mpr c2
  have c2b1 : (a0 != 1) = true := bne_iff_ne.mpr c2
  by_cases c3 : a0 = 2
  ·rw [if_pos c3] at H
   have c3b0 : (a0 == 2) = true := beq_iff_eq.mpr c3
   have c3b1 : (a0 != 2) = false := bne_eq_false_iff_eq.mpr c3
   clear c3
   obtain rfl := Option.some.inj H
   go_enter Try.func18, Try.ntmps18
   go_wp2
   go_ret
   exact ⟨by first | rfl | (simp; done) | (simp [*]; done), by repeat (first | exact Drawn0.refl _ | apply Drawn0.step)⟩
  ·rw [if_neg c3] at H
   have c3b0 : (a0 == 2) = false := beq_eq_false_iff_ne.mpr c3
   have c3b1 : (a0 != 2) = true := bne_iff_ne.mpr c3
   by_cases c4 : a0 = 3
   ·rw [if_pos c4] at H
    have c4b0 : (a0 == 3) = true := beq_iff_eq.mpr c4
    have c4b1 : (a0 != 3) = false := bne_eq_false_iff_eq.mpr c4
    clear c4
    obtain rfl := Option.some.inj H
    go_enter Try.func18, Try.ntmps18
    go_wp2
    go_ret
    exact ⟨by first | rfl | (simp; done) | (simp [*]; done), by repeat (first | exact Drawn0.refl _ | apply Drawn0.step)⟩
   ·rw [if_neg c4] at H
    have c4b0 : (a0 == 3) = false := beq_eq_false_iff_ne.mpr c4
    have c4b1 : (a0 != 3) = true := bne_iff_ne.mpr c4
    by_cases c5 : a0 = 4
    ·rw [if_pos c5] at H
     have c5b0 : (a0 == 4) = true := beq_iff_eq.mpr c5
     have c5b1 : (a0 != 4) = false := bne_eq_false_iff_eq.mpr c5
     clear c5
     obtain rfl := Option.some.inj H
     go_enter Try.func18, Try.ntmps18
     go_wp2
     go_ret
     exact ⟨by first | rfl | (simp; done) | (simp [*]; done), by repeat (first | exact Drawn0.refl _ | apply Drawn0.step)⟩
    ·rw [if_neg c5] at H
     have c5b0 : (a0 == 4) = false := beq_eq_false_iff_ne.mpr c5
     have c5b1 : (a0 != 4) = true := bne_iff_ne.mpr c5
     by_cases c6 : a0 = 5
     ·rw [if_pos c6] at H
      have c6b0 : (a0 == 5) = true := beq_iff_eq.mpr c6
      have c6b1 : (a0 != 5) = false := bne_eq_false_iff_eq.mpr c6
      clear c6
      obtain rfl := Option.some.inj H
      go_enter Try.func18, Try.ntmps18
      go_wp2
      go_ret
      exact ⟨by first | rfl | (simp; done) | (simp [*]; done), by repeat (first | exact Drawn0.refl _ | apply Drawn0.step)⟩
     ·rw [if_neg c6] at H
      have c6b0 : (a0 == 5) = false := beq_eq_false_iff_ne.mpr c6
      have c6b1 : (a0 != 5) = true := bne_iff_ne.mpr c6
      by_cases c7 : a0 = 6
      ·rw [if_pos c7] at H
       have c7b0 : (a0 == 6) = true := beq_iff_eq.mpr c7
       have c7b1 : (a0 != 6) = false := bne_eq_false_iff_eq.mpr c7
       clear c7
       obtain rfl := Option.some.inj H
       go_enter Try.func18, Try.ntmps18
       go_wp2
       go_ret
       exact ⟨by first | rfl | (simp; done) | (simp [*]; done), by repeat (first | exact Drawn0.refl _ | apply Drawn0.step)⟩
      ·rw [if_neg c7] at H
       have c7b0 : (a0 == 6) = false := beq_eq_false_iff_ne.mpr c7
       have c7b1 : (a0 != 6) = true := bne_iff_ne.mpr c7
       by_cases c8 : a0 = 7
       ·rw [if_pos c8] at H
        have c8b0 : (a0 == 7) = true := beq_iff_eq.mpr c8
        have c8b1 : (a0 != 7) = false := bne_eq_false_iff_eq.mpr c8
        clear c8
        obtain rfl := Option.some.inj H
        go_enter Try.func18, Try.ntmps18
        go_wp2
        go_ret
        exact ⟨by first | rfl | (simp; done) | (simp [*]; done), by repeat (first | exact Drawn0.refl _ | apply Drawn0.step)⟩
       ·rw [if_neg c8] at H
        have c8b0 : (a0 == 7) = false := beq_eq_false_iff_ne.mpr c8
        have c8b1 : (a0 != 7) = true := bne_iff_ne.mpr c8
        obtain rfl := Option.some.inj H
        go_enter Try.func18, Try.ntmps18
        go_wp2
        go_ret
        exact ⟨by first | rfl | (simp; done) | (simp [*]; done), by repeat (first | exact Drawn0.refl _ | apply Drawn0.step)⟩

/-! ### marigraphlaw20_same: function 6 -/
def marigraphlaw20_same.f (k : Nat) (a0 : Int) (l1 : List (S23)) : Option (Bool) := (fold_Do.f k a0 l1).bind fun bt233 => ((marigraphref20_Do.f k a0 l1).bind fun bt237 => (if (bt233.1 == bt237.1 && (bt233.2.1 == bt237.2.1)) = true then (if bt233.2.2 = bt237.2.2 then ((fold_Right.f a0).bind fun t241 => ((marigraphref20_Right.f a0).bind fun t242 => (if (t241 == t242) = true then ((fold_Name.f a0).bind fun t243 => ((marigraphref20_Name.f a0).bind fun t244 => (some (t243.toList == t244.toList)))) else (some false)))) else (some false)) else (some false)))
theorem marigraphlaw20_same.mono : ∀ a0 a1 k, LeO (marigraphlaw20_same.f k a0 a1) (marigraphlaw20_same.f (k + 1) a0 a1) := by
 intro a0 a1 k
 unfold marigraphlaw20_same.f
 repeat' first
   | (with_reducible exact fold_Do.mono _ _ _)
   | (with_reducible exact marigraphref20_Do.mono _ _ _)
   | (with_reducible exact LeO.refl _)
   | (with_reducible exact LeO.none _)
   | (with_reducible refine LeO.ite ?_ ?_)
   | (with_reducible refine LeO.bind ?_ (fun _ => ?_))
   | exact fold_Do.mono _ _ _
   | exact marigraphref20_Do.mono _ _ _
   | exact LeO.none _
   | refine LeO.ite ?_ ?_
   | refine LeO.bind ?_ (fun _ => ?_)
set_option maxHeartbeats 8000000 in
set_option maxRecDepth 100000 in
theorem marigraphlaw20_same.calls (k : Nat) (a0 : Int) (A1 : Option Addr) (c1 : Nat) (l1 : List (S23)) (r : Bool) (w : World) (hr1 : Kd.C k23 w A1 l1.length l1) (hc1 : l1.length ≤ c1) (h : marigraphlaw20_same.f k a0 l1 = some r) :
  Calls Try.prog 6 #[.int .i64 a0, .slice A1 l1.length c1] w fun e w' => e = .returned (.bool r) ∧ Below w.heap.size w w' := by
 have hu23 := Try.underlying23
 have HR1 := Aside0.mk hr1
 have HC1 := Aside0.mk hc1
 clear hr1 hc1
 have HB := Aside0.mk (Below.refl w.heap.size w)
 have H : ((fold_Do.f k a0 l1).bind fun bt233 => ((marigraphref20_Do.f k a0 l1).bind fun bt237 => (if (bt233.1 == bt237.1 && (bt233.2.1 == bt237.2.1)) = true then (if bt233.2.2 = bt237.2.2 then ((fold_Right.f a0).bind fun t241 => ((marigraphref20_Right.f a0).bind fun t242 => (if (t241 == t242) = true then ((fold_Name.f a0).bind fun t243 => ((marigraphref20_Name.f a0).bind fun t244 => (some (t243.toList == t244.toList)))) else (some false)))) else (some false)) else (some false)))) = some r := h
 clear h
 replace H := Option.bind_eq_some_iff.mp H
 obtain ⟨⟨t233, t234, t235⟩, A30, H⟩ := H
 replace H : ((marigraphref20_Do.f k a0 l1).bind fun bt237 => (if (t233 == bt237.1 && (t234 == bt237.2.1)) = true then (if t235 = bt237.2.2 then ((fold_Right.f a0).bind fun t241 => ((marigraphref20_Right.f a0).bind fun t242 => (if (t241 == t242) = true then ((fold_Name.f a0).bind fun t243 => ((marigraphref20_Name.f a0).bind fun t244 => (some (t243.toList == t244.toList)))) else (some false)))) else (some false)) else (some false))) = some r := H
 have A3 := Aside0.mk A30
 clear A30
 replace H := Option.bind_eq_some_iff.mp H
 obtain ⟨⟨t237, t238, t239⟩, A40, H⟩ := H
 replace H : (if (t233 == t237 && (t234 == t238)) = true then (if t235 = t239 then ((fold_Right.f a0).bind fun t241 => ((marigraphref20_Right.f a0).bind fun t242 => (if (t241 == t242) = true then ((fold_Name.f a0).bind fun t243 => ((marigraphref20_Name.f a0).bind fun t244 => (some (t243.toList == t244.toList)))) else (some false)))) else (some false)) else (some false)) = some r := H
 have A4 := Aside0.mk A40
 clear A40
 by_cases c5 : (t233 == t237 && (t234 == t238)) = true
 ·rw [if_pos c5] at H
  have c5b0 : (t233 == t237 && (t234 == t238)) = true := c5
  (try (have c5b1 : decide (t233 = t237 && (t234 == t238)) = true := by simpa using c5))
  (try (have c5b2 : (t233 == t237 && (t234 == t238)) = true := by simpa using c5))
  clear c5
  by_cases c6 : t235 = t239
  ·rw [if_pos c6] at H
   have c6b0 : (t235 == t239) = true := beq_iff_eq.mpr c6
   have c6b1 : (t235 != t239) = false := bne_eq_false_iff_eq.mpr c6
   clear c6
   replace H := Option.bind_eq_some_iff.mp H
   obtain ⟨t241, A70, H⟩ := H
   replace H : ((marigraphref20_Right.f a0).bind fun t242 => (if (t241 == t242) = true then ((fold_Name.f a0).bind fun t243 => ((marigraphref20_Name.f a0).bind fun t244 => (some (t243.toList == t244.toList)))) else (some false))) = some r := H
   have A7 := Aside0.mk A70
   clear A70
   replace H := Option.bind_eq_some_iff.mp H
   obtain ⟨t242, A80, H⟩ := H
   replace H : (if (t241 == t242) = true then ((fold_Name.f a0).bind fun t243 => ((marigraphref20_Name.f a0).bind fun t244 => (some (t243.toList == t244.toList)))) else (some false)) = some r := H
   have A8 := Aside0.mk A80
   clear A80
   by_cases c9 : (t241 == t242) = true
   ·rw [if_pos c9] at H
    have c9b0 : (t241 == t242) = true := c9
    (try (have c9b1 : decide (t241 = t242) = true := by simpa using c9))
    (try (have c9b2 : (t241 == t242) = true := by simpa using c9))
    clear c9
    replace H := Option.bind_eq_some_iff.mp H
    obtain ⟨t243, A100, H⟩ := H
    replace H : ((marigraphref20_Name.f a0).bind fun t244 => (some (t243.toList == t244.toList))) = some r := H
    have A10 := Aside0.mk A100
    clear A100
    replace H := Option.bind_eq_some_iff.mp H
    obtain ⟨t244, A110, H⟩ := H
    replace H : (some (t243.toList == t244.toList)) = some r := H
    have A11 := Aside0.mk A110
    clear A110
    obtain rfl := Option.some.inj H
    go_enter Try.func6, Try.ntmps6
    go_wp2_with (first | ((with_reducible refine gate_callee (f := 13) rfl ?_); refine goesL_ (some 12) rfl rfl Try.func13 (by kernel_rfl) rfl #[.int .i64 a0, .slice A1 l1.length c1] rfl argN ?_; (with_reducible refine (fold_Do.calls k a0 _ _ l1 t233 t234 t235 _ ?side1 ?side2 A3.out).mono ?_); (case side1 => repeat (first | exact HR1.out | (with_reducible refine Kd.C_alloc ?_ _) | (with_reducible refine Kd.C_drewN ?_ _) | (with_reducible refine Kd.C_drew ?_))); (case side2 => exact HC1.out); rintro e w12 ⟨rfl, hb⟩; refine ⟨_, rfl, ?_⟩; have n0_ := Aside0.mk (below_step (belN HB.out) hb); clear HB; have HB := n0_; clear n0_; (try clear hb)) | ((with_reducible refine gate_dst (N := 5) rfl ?_); refine box_event ?hg (N := 5) ?hd (cs := #[.int .i64 0, .int .i64 0]) (t := 23) ?hr ?_; (case hd => rfl); (case hg => rfl); (case hr => first | (go_simp; done) | (go_simp; rfl)); intro gb236 hg w13 hbox hb; have n0_ := Aside0.mk (below_step (belN HB.out) hb); have n1_ := Aside0.mk (hbox); have n2_ := Aside0.mk (szB hg HB.out); have n3_ := Aside0.mk (szB hg HB.out); clear HB; have HB := n0_; have BK236 := n1_; have GW236 := n2_; have GE236 := n3_; clear n0_ n1_ n2_ n3_; clear hb hbox hg; have hcz14_0 : w13.cell? ⟨gb236, 0, none⟩ = some (.int .i64 0) := (blk_cell BK236.out 0).trans rfl; have hcz14_1 : w13.cell? ⟨gb236, 1, none⟩ = some (.int .i64 0) := (blk_cell BK236.out 1).trans rfl; have hfz14_0 := blk_frozen BK236.out 0; have hfz14_1 := blk_frozen BK236.out 1) | ((with_reducible refine gate_callee (f := 16) rfl ?_); refine goesL_ (some 18) rfl rfl Try.func16 (by kernel_rfl) rfl #[.int .i64 a0, .slice A1 l1.length c1] rfl argN ?_; (with_reducible refine (marigraphref20_Do.calls k a0 _ _ l1 t237 t238 t239 _ ?side1 ?side2 A4.out).mono ?_); (case side1 => exact Kd.C_below HR1.out (belS HB.out)); (case side2 => exact HC1.out); rintro e w15 ⟨rfl, hb⟩; refine ⟨_, rfl, ?_⟩; have n0_ := Aside0.mk (blk_below (g := gb236) (o := .cells #[.int .i64 t233, .int .i64 t234] 23 (0, 0)) (by (with_reducible repeat (first | refine blk_drewN ?_ _ | refine blk_drew ?_ | refine blk_alloc ?_ _)); refine blk_put (cs := #[.int .i64 t233, .int .i64 0]) ?_ 1 _ rfl; (with_reducible repeat (first | refine blk_drewN ?_ _ | refine blk_drew ?_ | refine blk_alloc ?_ _)); refine blk_put (cs := #[.int .i64 0, .int .i64 0]) ?_ 0 _ rfl; (with_reducible repeat (first | refine blk_drewN ?_ _ | refine blk_drew ?_ | refine blk_alloc ?_ _)); exact BK236.out) hb); have n1_ := Aside0.mk (below_step (belS HB.out) hb); clear BK236; clear HB; have BK236 := n0_; have HB := n1_; clear n0_ n1_; (try clear hb)) | ((with_reducible refine gate_dst (N := 7) rfl ?_); refine box_event ?hg (N := 7) ?hd (cs := #[.int .i64 0, .int .i64 0]) (t := 23) ?hr ?_; (case hd => rfl); (case hg => rfl); (case hr => first | (go_simp; done) | (go_simp; rfl)); intro gb240 hg w16 hbox hb; have n0_ := Aside0.mk (bkB BK236.out hb); have n1_ := Aside0.mk (below_step (belS HB.out) hb); have n2_ := Aside0.mk (hbox); have n3_ := Aside0.mk (szB hg HB.out); have n4_ := Aside0.mk (szB hg HB.out); have n5_ := Aside0.mk ((bk1 hg BK236.out)); have n6_ := Aside0.mk ((bk2 hg BK236.out)); clear BK236; clear HB; have BK236 := n0_; have HB := n1_; have BK240 := n2_; have GW240 := n3_; have GE240 := n4_; have NB236_240 := n5_; have NB240_236 := n6_; clear n0_ n1_ n2_ n3_ n4_ n5_ n6_; clear hb hbox hg; have hnb17 := NB240_236.out; have hnc17 := NB236_240.out; have hcz18_0 : w16.cell? ⟨gb240, 0, none⟩ = some (.int .i64 0) := (blk_cell BK240.out 0).trans rfl; have hcz18_1 : w16.cell? ⟨gb240, 1, none⟩ = some (.int .i64 0) := (blk_cell BK240.out 1).trans rfl; have hfz18_0 := blk_frozen BK240.out 0; have hfz18_1 := blk_frozen BK240.out 1; have hcz19_0 : w16.cell? ⟨gb236, 0, none⟩ = some (.int .i64 t233) := (blk_cell BK236.out 0).trans rfl; have hcz19_1 : w16.cell? ⟨gb236, 1, none⟩ = some (.int .i64 t234) := (blk_cell BK236.out 1).trans rfl; have hfz19_0 := blk_frozen BK236.out 0; have hfz19_1 := blk_frozen BK236.out 1) | (go_at_call 9; (with_reducible refine (fold_Right.calls a0 t241 _ A7.out).mono ?_); rintro e w' ⟨rfl, ⟨nd, rfl⟩⟩) | (go_at_call 17; (with_reducible refine (marigraphref20_Right.calls a0 t242 _ A8.out).mono ?_); rintro e w' ⟨rfl, ⟨nd, rfl⟩⟩) | (go_at_call 8; (with_reducible refine (fold_Name.calls a0 t243 _ A10.out).mono ?_); rintro e w20 ⟨rfl, hb⟩; have n0_ := Aside0.mk (bkBF BK236.out hb); have n1_ := Aside0.mk (blk_below (g := gb240) (o := .cells #[.int .i64 t237, .int .i64 t238] 23 (0, 0)) (by (with_reducible repeat (first | refine blk_drewN ?_ _ | refine blk_drew ?_ | refine blk_alloc ?_ _)); refine blk_put (cs := #[.int .i64 t237, .int .i64 0]) ?_ 1 _ rfl; (with_reducible repeat (first | refine blk_drewN ?_ _ | refine blk_drew ?_ | refine blk_alloc ?_ _)); refine blk_put (cs := #[.int .i64 0, .int .i64 0]) ?_ 0 _ rfl; (with_reducible repeat (first | refine blk_drewN ?_ _ | refine blk_drew ?_ | refine blk_alloc ?_ _)); exact BK240.out) hb); have n2_ := Aside0.mk (below_step (belS HB.out) hb); clear BK236; clear BK240; clear HB; have BK236 := n0_; have BK240 := n1_; have HB := n2_; clear n0_ n1_ n2_; (try clear hb)) | (go_at_call 18; (with_reducible refine (marigraphref20_Name.calls a0 t244 _ A11.out).mono ?_); rintro e w' ⟨rfl, ⟨nd, rfl⟩⟩))
    go_ret
    exact ⟨by first | rfl | (simp [errW_none, errW_some] <;> rfl) | (simp [*, errW_none, errW_some] <;> rfl), (belS HB.out)⟩
   ·rw [if_neg c9] at H
    have c9b0 : (t241 == t242) = false := by simpa using c9
    (try (have c9b1 : decide (t241 = t242) = false := by simpa using c9))
    (try (have c9b2 : (t241 == t242) = false := by simpa using c9))
    (try (have c9b3 : ¬ (t241 = t242) := by simpa using c9))
    clear c9
    obtain rfl := Option.some.inj H
    go_enter Try.func6, Try.ntmps6
    go_wp2_with (first | ((with_reducible refine gate_callee (f := 13) rfl ?_); refine goesL_ (some 12) rfl rfl Try.func13 (by kernel_rfl) rfl #[.int .i64 a0, .slice A1 l1.length c1] rfl argN ?_; (with_reducible refine (fold_Do.calls k a0 _ _ l1 t233 t234 t235 _ ?side1 ?side2 A3.out).mono ?_); (case side1 => repeat (first | exact HR1.out | (with_reducible refine Kd.C_alloc ?_ _) | (with_reducible refine Kd.C_drewN ?_ _) | (with_reducible refine Kd.C_drew ?_))); (case side2 => exact HC1.out); rintro e w21 ⟨rfl, hb⟩; refine ⟨_, rfl, ?_⟩; have n0_ := Aside0.mk (below_step (belN HB.out) hb); clear HB; have HB := n0_; clear n0_; (try clear hb)) | ((with_reducible refine gate_dst (N := 5) rfl ?_); refine box_event ?hg (N := 5) ?hd (cs := #[.int .i64 0, .int .i64 0]) (t := 23) ?hr ?_; (case hd => rfl); (case hg => rfl); (case hr => first | (go_simp; done) | (go_simp; rfl)); intro gb236 hg w22 hbox hb; have n0_ := Aside0.mk (below_step (belN HB.out) hb); have n1_ := Aside0.mk (hbox); have n2_ := Aside0.mk (szB hg HB.out); have n3_ := Aside0.mk (szB hg HB.out); clear HB; have HB := n0_; have BK236 := n1_; have GW236 := n2_; have GE236 := n3_; clear n0_ n1_ n2_ n3_; clear hb hbox hg; have hcz23_0 : w22.cell? ⟨gb236, 0, none⟩ = some (.int .i64 0) := (blk_cell BK236.out 0).trans rfl; have hcz23_1 : w22.cell? ⟨gb236, 1, none⟩ = some (.int .i64 0) := (blk_cell BK236.out 1).trans rfl; have hfz23_0 := blk_frozen BK236.out 0; have hfz23_1 := blk_frozen BK236.out 1) | ((with_reducible refine gate_callee (f := 16) rfl ?_); refine goesL_ (some 18) rfl rfl Try.func16 (by kernel_rfl) rfl #[.int .i64 a0, .slice A1 l1.length c1] rfl argN ?_; (with_reducible refine (marigraphref20_Do.calls k a0 _ _ l1 t237 t238 t239 _ ?side1 ?side2 A4.out).mono ?_); (case side1 => exact Kd.C_below HR1.out (belS HB.out)); (case side2 => exact HC1.out); rintro e w24 ⟨rfl, hb⟩; refine ⟨_, rfl, ?_⟩; have n0_ := Aside0.mk (blk_below (g := gb236) (o := .cells #[.int .i64 t233, .int .i64 t234] 23 (0, 0)) (by (with_reducible repeat (first | refine blk_drewN ?_ _ | refine blk_drew ?_ | refine blk_alloc ?_ _)); refine blk_put (cs := #[.int .i64 t233, .int .i64 0]) ?_ 1 _ rfl; (with_reducible repeat (first | refine blk_drewN ?_ _ | refine blk_drew ?_ | refine blk_alloc ?_ _)); refine blk_put (cs := #[.int .i64 0, .int .i64 0]) ?_ 0 _ rfl; (with_reducible repeat (first | refine blk_drewN ?_ _ | refine blk_drew ?_ | refine blk_alloc ?_ _)); exact BK236.out) hb); have n1_ := Aside0.mk (below_step (belS HB.out) hb); clear BK236; clear HB; have BK236 := n0_; have HB := n1_; clear n0_ n1_; (try clear hb)) | ((with_reducible refine gate_dst (N := 7) rfl ?_); refine box_event ?hg (N := 7) ?hd (cs := #[.int .i64 0, .int .i64 0]) (t := 23) ?hr ?_; (case hd => rfl); (case hg => rfl); (case hr => first | (go_simp; done) | (go_simp; rfl)); intro gb240 hg w25 hbox hb; have n0_ := Aside0.mk (bkB BK236.out hb); have n1_ := Aside0.mk (below_step (belS HB.out) hb); have n2_ := Aside0.mk (hbox); have n3_ := Aside0.mk (szB hg HB.out); have n4_ := Aside0.mk (szB hg HB.out); have n5_ := Aside0.mk ((bk1 hg BK236.out)); have n6_ := Aside0.mk ((bk2 hg BK236.out)); clear BK236; clear HB; have BK236 := n0_; have HB := n1_; have BK240 := n2_; have GW240 := n3_; have GE240 := n4_; have NB236_240 := n5_; have NB240_236 := n6_; clear n0_ n1_ n2_ n3_ n4_ n5_ n6_; clear hb hbox hg; have hnb26 := NB240_236.out; have hnc26 := NB236_240.out; have hcz27_0 : w25.cell? ⟨gb240, 0, none⟩ = some (.int .i64 0) := (blk_cell BK240.out 0).trans rfl; have hcz27_1 : w25.cell? ⟨gb240, 1, none⟩ = some (.int .i64 0) := (blk_cell BK240.out 1).trans rfl; have hfz27_0 := blk_frozen BK240.out 0; have hfz27_1 := blk_frozen BK240.out 1; have hcz28_0 : w25.cell? ⟨gb236, 0, none⟩ = some (.int .i64 t233) := (blk_cell BK236.out 0).trans rfl; have hcz28_1 : w25.cell? ⟨gb236, 1, none⟩ = some (.int .i64 t234) := (blk_cell BK236.out 1).trans rfl; have hfz28_0 := blk_frozen BK236.out 0; have hfz28_1 := blk_frozen BK236.out 1) | (go_at_call 9; (with_reducible refine (fold_Right.calls a0 t241 _ A7.out).mono ?_); rintro e w' ⟨rfl, ⟨nd, rfl⟩⟩) | (go_at_call 17; (with_reducible refine (marigraphref20_Right.calls a0 t242 _ A8.out).mono ?_); rintro e w' ⟨rfl, ⟨nd, rfl⟩⟩))
    go_ret
    exact ⟨by first | rfl | (simp [errW_none, errW_some] <;> rfl) | (simp [*, errW_none, errW_some] <;> rfl), (belS HB.out)⟩
  ·rw [if_neg c6] at H
   have c6b0 : (t235 == t239) = false := beq_eq_false_iff_ne.mpr c6
   have c6b1 : (t235 != t239) = true := bne_iff_ne.mpr c6
   obtain rfl := Option.some.inj H
   go_enter Try.func6, Try.ntmps6
   go_wp2_with (first | ((with_reducible refine gate_callee (f := 13) rfl ?_); refine goesL_ (some 12) rfl rfl Try.func13 (by kernel_rfl) rfl #[.int .i64 a0, .slice A1 l1.length c1] rfl argN ?_; (with_reducible refine (fold_Do.calls k a0 _ _ l1 t233 t234 t235 _ ?side1 ?side2 A3.out).mono ?_); (case side1 => repeat (first | exact HR1.out | (with_reducible refine Kd.C_alloc ?_ _) | (with_reducible refine Kd.C_drewN ?_ _) | (with_reducible refine Kd.C_drew ?_))); (case side2 => exact HC1.out); rintro e w29 ⟨rfl, hb⟩; refine ⟨_, rfl, ?_⟩; have n0_ := Aside0.mk (below_step (belN HB.out) hb); clear HB; have HB := n0_; clear n0_; (try clear hb)) | ((with_reducible refine gate_dst (N := 5) rfl ?_); refine box_event ?hg (N := 5) ?hd (cs := #[.int .i64 0, .int .i64 0]) (t := 23) ?hr ?_; (case hd => rfl); (case hg => rfl); (case hr => first | (go_simp; done) | (go_simp; rfl)); intro gb236 hg w30 hbox hb; have n0_ := Aside0.mk (below_step (belN HB.out) hb); have n1_ := Aside0.mk (hbox); have n2_ := Aside0.mk (szB hg HB.out); have n3_ := Aside0.mk (szB hg HB.out); clear HB; have HB := n0_; have BK236 := n1_; have GW236 := n2_; have GE236 := n3_; clear n0_ n1_ n2_ n3_; clear hb hbox hg; have hcz31_0 : w30.cell? ⟨gb236, 0, none⟩ = some (.int .i64 0) := (blk_cell BK236.out 0).trans rfl; have hcz31_1 : w30.cell? ⟨gb236, 1, none⟩ = some (.int .i64 0) := (blk_cell BK236.out 1).trans rfl; have hfz31_0 := blk_frozen BK236.out 0; have hfz31_1 := blk_frozen BK236.out 1) | ((with_reducible refine gate_callee (f := 16) rfl ?_); refine goesL_ (some 18) rfl rfl Try.func16 (by kernel_rfl) rfl #[.int .i64 a0, .slice A1 l1.length c1] rfl argN ?_; (with_reducible refine (marigraphref20_Do.calls k a0 _ _ l1 t237 t238 t239 _ ?side1 ?side2 A4.out).mono ?_); (case side1 => exact Kd.C_below HR1.out (belS HB.out)); (case side2 => exact HC1.out); rintro e w32 ⟨rfl, hb⟩; refine ⟨_, rfl, ?_⟩; have n0_ := Aside0.mk (blk_below (g := gb236) (o := .cells #[.int .i64 t233, .int .i64 t234] 23 (0, 0)) (by (with_reducible repeat (first | refine blk_drewN ?_ _ | refine blk_drew ?_ | refine blk_alloc ?_ _)); refine blk_put (cs := #[.int .i64 t233, .int .i64 0]) ?_ 1 _ rfl; (with_reducible repeat (first | refine blk_drewN ?_ _ | refine blk_drew ?_ | refine blk_alloc ?_ _)); refine blk_put (cs := #[.int .i64 0, .int .i64 0]) ?_ 0 _ rfl; (with_reducible repeat (first | refine blk_drewN ?_ _ | refine blk_drew ?_ | refine blk_alloc ?_ _)); exact BK236.out) hb); have n1_ := Aside0.mk (below_step (belS HB.out) hb); clear BK236; clear HB; have BK236 := n0_; have HB := n1_; clear n0_ n1_; (try clear hb)) | ((with_reducible refine gate_dst (N := 7) rfl ?_); refine box_event ?hg (N := 7) ?hd (cs := #[.int .i64 0, .int .i64 0]) (t := 23) ?hr ?_; (case hd => rfl); (case hg => rfl); (case hr => first | (go_simp; done) | (go_simp; rfl)); intro gb240 hg w33 hbox hb; have n0_ := Aside0.mk (bkB BK236.out hb); have n1_ := Aside0.mk (below_step (belS HB.out) hb); have n2_ := Aside0.mk (hbox); have n3_ := Aside0.mk (szB hg HB.out); have n4_ := Aside0.mk (szB hg HB.out); have n5_ := Aside0.mk ((bk1 hg BK236.out)); have n6_ := Aside0.mk ((bk2 hg BK236.out)); clear BK236; clear HB; have BK236 := n0_; have HB := n1_; have BK240 := n2_; have GW240 := n3_; have GE240 := n4_; have NB236_240 := n5_; have NB240_236 := n6_; clear n0_ n1_ n2_ n3_ n4_ n5_ n6_; clear hb hbox hg; have hnb34 := NB240_236.out; have hnc34 := NB236_240.out; have hcz35_0 : w33.cell? ⟨gb240, 0, none⟩ = some (.int .i64 0) := (blk_cell BK240.out 0).trans rfl; have hcz35_1 : w33.cell? ⟨gb240, 1, none⟩ = some (.int .i64 0) := (blk_cell BK240.out 1).trans rfl; have hfz35_0 := blk_frozen BK240.out 0; have hfz35_1 := blk_frozen BK240.out 1; have hcz36_0 : w33.cell? ⟨gb236, 0, none⟩ = some (.int .i64 t233) := (blk_cell BK236.out 0).trans rfl; have hcz36_1 : w33.cell? ⟨gb236, 1, none⟩ = some (.int .i64 t234) := (blk_cell BK236.out 1).trans rfl; have hfz36_0 := blk_frozen BK236.out 0; have hfz36_1 := blk_frozen BK236.out 1))
   go_ret
   exact ⟨by first | rfl | (simp [errW_none, errW_some] <;> rfl) | (simp [*, errW_none, errW_some] <;> rfl), (belS HB.out)⟩
 ·rw [if_neg c5] at H
  have c5b0 : (t233 == t237 && (t234 == t238)) = false := by simpa using c5
  (try (have c5b1 : decide (t233 = t237 && (t234 == t238)) = false := by simpa using c5))
  (try (have c5b2 : (t233 == t237 && (t234 == t238)) = false := by simpa using c5))
  (try (have c5b3 : ¬ (t233 = t237 && (t234 == t238)) := by simpa using c5))
  clear c5
  obtain rfl := Option.some.inj H
  go_enter Try.func6, Try.ntmps6
  go_wp2_with (first | ((with_reducible refine gate_callee (f := 13) rfl ?_); refine goesL_ (some 12) rfl rfl Try.func13 (by kernel_rfl) rfl #[.int .i64 a0, .slice A1 l1.length c1] rfl argN ?_; (with_reducible refine (fold_Do.calls k a0 _ _ l1 t233 t234 t235 _ ?side1 ?side2 A3.out).mono ?_); (case side1 => repeat (first | exact HR1.out | (with_reducible refine Kd.C_alloc ?_ _) | (with_reducible refine Kd.C_drewN ?_ _) | (with_reducible refine Kd.C_drew ?_))); (case side2 => exact HC1.out); rintro e w37 ⟨rfl, hb⟩; refine ⟨_, rfl, ?_⟩; have n0_ := Aside0.mk (below_step (belN HB.out) hb); clear HB; have HB := n0_; clear n0_; (try clear hb)) | ((with_reducible refine gate_dst (N := 5) rfl ?_); refine box_event ?hg (N := 5) ?hd (cs := #[.int .i64 0, .int .i64 0]) (t := 23) ?hr ?_; (case hd => rfl); (case hg => rfl); (case hr => first | (go_simp; done) | (go_simp; rfl)); intro gb236 hg w38 hbox hb; have n0_ := Aside0.mk (below_step (belN HB.out) hb); have n1_ := Aside0.mk (hbox); have n2_ := Aside0.mk (szB hg HB.out); have n3_ := Aside0.mk (szB hg HB.out); clear HB; have HB := n0_; have BK236 := n1_; have GW236 := n2_; have GE236 := n3_; clear n0_ n1_ n2_ n3_; clear hb hbox hg; have hcz39_0 : w38.cell? ⟨gb236, 0, none⟩ = some (.int .i64 0) := (blk_cell BK236.out 0).trans rfl; have hcz39_1 : w38.cell? ⟨gb236, 1, none⟩ = some (.int .i64 0) := (blk_cell BK236.out 1).trans rfl; have hfz39_0 := blk_frozen BK236.out 0; have hfz39_1 := blk_frozen BK236.out 1) | ((with_reducible refine gate_callee (f := 16) rfl ?_); refine goesL_ (some 18) rfl rfl Try.func16 (by kernel_rfl) rfl #[.int .i64 a0, .slice A1 l1.length c1] rfl argN ?_; (with_reducible refine (marigraphref20_Do.calls k a0 _ _ l1 t237 t238 t239 _ ?side1 ?side2 A4.out).mono ?_); (case side1 => exact Kd.C_below HR1.out (belS HB.out)); (case side2 => exact HC1.out); rintro e w40 ⟨rfl, hb⟩; refine ⟨_, rfl, ?_⟩; have n0_ := Aside0.mk (blk_below (g := gb236) (o := .cells #[.int .i64 t233, .int .i64 t234] 23 (0, 0)) (by (with_reducible repeat (first | refine blk_drewN ?_ _ | refine blk_drew ?_ | refine blk_alloc ?_ _)); refine blk_put (cs := #[.int .i64 t233, .int .i64 0]) ?_ 1 _ rfl; (with_reducible repeat (first | refine blk_drewN ?_ _ | refine blk_drew ?_ | refine blk_alloc ?_ _)); refine blk_put (cs := #[.int .i64 0, .int .i64 0]) ?_ 0 _ rfl; (with_reducible repeat (first | refine blk_drewN ?_ _ | refine blk_drew ?_ | refine blk_alloc ?_ _)); exact BK236.out) hb); have n1_ := Aside0.mk (below_step (belS HB.out) hb); clear BK236; clear HB; have BK236 := n0_; have HB := n1_; clear n0_ n1_; (try clear hb)) | ((with_reducible refine gate_dst (N := 7) rfl ?_); refine box_event ?hg (N := 7) ?hd (cs := #[.int .i64 0, .int .i64 0]) (t := 23) ?hr ?_; (case hd => rfl); (case hg => rfl); (case hr => first | (go_simp; done) | (go_simp; rfl)); intro gb240 hg w41 hbox hb; have n0_ := Aside0.mk (bkB BK236.out hb); have n1_ := Aside0.mk (below_step (belS HB.out) hb); have n2_ := Aside0.mk (hbox); have n3_ := Aside0.mk (szB hg HB.out); have n4_ := Aside0.mk (szB hg HB.out); have n5_ := Aside0.mk ((bk1 hg BK236.out)); have n6_ := Aside0.mk ((bk2 hg BK236.out)); clear BK236; clear HB; have BK236 := n0_; have HB := n1_; have BK240 := n2_; have GW240 := n3_; have GE240 := n4_; have NB236_240 := n5_; have NB240_236 := n6_; clear n0_ n1_ n2_ n3_ n4_ n5_ n6_; clear hb hbox hg; have hnb42 := NB240_236.out; have hnc42 := NB236_240.out; have hcz43_0 : w41.cell? ⟨gb240, 0, none⟩ = some (.int .i64 0) := (blk_cell BK240.out 0).trans rfl; have hcz43_1 : w41.cell? ⟨gb240, 1, none⟩ = some (.int .i64 0) := (blk_cell BK240.out 1).trans rfl; have hfz43_0 := blk_frozen BK240.out 0; have hfz43_1 := blk_frozen BK240.out 1; have hcz44_0 : w41.cell? ⟨gb236, 0, none⟩ = some (.int .i64 t233) := (blk_cell BK236.out 0).trans rfl; have hcz44_1 : w41.cell? ⟨gb236, 1, none⟩ = some (.int .i64 t234) := (blk_cell BK236.out 1).trans rfl; have hfz44_0 := blk_frozen BK236.out 0; have hfz44_1 := blk_frozen BK236.out 1))
  go_ret
  exact ⟨by first | rfl | (simp [errW_none, errW_some] <;> rfl) | (simp [*, errW_none, errW_some] <;> rfl), (belS HB.out)⟩

/-! ### slices_Index_string_string: function 19 -/
def slices_Index_string_string.l0 : Nat → List ByteArray → ByteArray → Int → Int → Option (Int)
 | 0, _, _, _, _ => none
 | k + 1, x0, x1, x7, x8 => if x8 < x7 then (if 0 ≤ x8 then (if x8 < (x0.length : Int) then (if x1.toList = (rdOf ByteArray.empty x0 x8).toList then (some x8) else (slices_Index_string_string.l0 k x0 x1 x7 (wrap64 (x8 + 1)))) else (none)) else (none)) else (some (-1))
def slices_Index_string_string.f (k : Nat) (l0 : List ByteArray) (a1 : ByteArray) : Option (Int) := slices_Index_string_string.l0 k l0 a1 (l0.length : Int) 0
theorem slices_Index_string_string.mono_l : ∀ k, (∀ y0 y1 y2 y3, LeO (slices_Index_string_string.l0 k y0 y1 y2 y3) (slices_Index_string_string.l0 (k + 1) y0 y1 y2 y3))
 | 0 => fun _ _ _ _ r h => by simp [slices_Index_string_string.l0] at h
 | k + 1 => by
  have ih0 := slices_Index_string_string.mono_l k
  ·intro y0 y1 y2 y3
   unfold slices_Index_string_string.l0
   repeat' first
   | (with_reducible exact ih0 _ _ _ _)
   | (with_reducible exact LeO.refl _)
   | (with_reducible exact LeO.none _)
   | (with_reducible refine LeO.ite ?_ ?_)
   | (with_reducible refine LeO.bind ?_ (fun _ => ?_))
   | exact ih0 _ _ _ _
   | exact LeO.none _
   | refine LeO.ite ?_ ?_
   | refine LeO.bind ?_ (fun _ => ?_)
theorem slices_Index_string_string.mono : ∀ a0 a1 k, LeO (slices_Index_string_string.f k a0 a1) (slices_Index_string_string.f (k + 1) a0 a1) := by
 intro a0 a1 k
 have ih0 := slices_Index_string_string.mono_l k
 unfold slices_Index_string_string.f
 repeat' first
   | (with_reducible exact ih0 _ _ _ _)
   | (with_reducible exact LeO.refl _)
   | (with_reducible exact LeO.none _)
   | (with_reducible refine LeO.ite ?_ ?_)
   | (with_reducible refine LeO.bind ?_ (fun _ => ?_))
   | exact ih0 _ _ _ _
   | exact LeO.none _
   | refine LeO.ite ?_ ?_
   | refine LeO.bind ?_ (fun _ => ?_)
set_option maxHeartbeats 8000000 in
set_option maxRecDepth 100000 in
theorem slices_Index_string_string.calls (k : Nat) (A0 : Option Addr) (c0 : Nat) (l0 : List ByteArray) (a1 : ByteArray) (r : Int) (w : World) (hr0 : Kd.C Kd.string w A0 l0.length l0) (hc0 : l0.length ≤ c0) (h : slices_Index_string_string.f k l0 a1 = some r) :
  Calls Try.prog 19 #[.slice A0 l0.length c0, .string a1] w fun e w' => e = .returned (.int .i64 r) ∧ Drawn0 w w' := by
 have HR0 := Aside0.mk hr0
 have HC0 := Aside0.mk hc0
 clear hr0 hc0
 have H : (slices_Index_string_string.l0 k l0 a1 (l0.length : Int) 0) = some r := h
 clear h
 have H' := Aside0.mk H
 clear H
 go_enter Try.func19, Try.ntmps19
 go_wp2
 go_loopg [8] k (fun kq v8 w' => ∃ (x8_1 : Int), v8 = .int .i64 x8_1 ∧ Aside0 (slices_Index_string_string.l0 kq l0 a1 (l0.length : Int) x8_1 = some r) ∧ Aside0 (kq ≤ k) ∧ Drawn0 w w')
 case atStart => exact ⟨(0), (by first | rfl | (simp; done) | (simp [*]; done)), H', ⟨Nat.le_refl _⟩, by repeat (first | exact Drawn0.refl _ | apply Drawn0.step)⟩
 case round =>
  clear H'
  try clear c1
  try clear p2
  obtain ⟨x8_1, rfl, HA, HK1, ⟨m1, rfl⟩⟩ := hrel
  cases gk with
  | zero => exact absurd HA.out (by simp [slices_Index_string_string.l0])
  | succ k1 =>
   have H := HA.out
   clear HA
   simp only [slices_Index_string_string.l0] at H
   by_cases c3 : x8_1 < (l0.length : Int)
   ·rw [if_pos c3] at H
    have c3b0 : decide (x8_1 < (l0.length : Int)) = true := decide_eq_true c3
    clear c3
    by_cases c4 : 0 ≤ x8_1
    ·rw [if_pos c4] at H
     have c4b0 : decide (0 ≤ x8_1) = true := decide_eq_true c4
     clear c4
     by_cases c5 : x8_1 < (l0.length : Int)
     ·rw [if_pos c5] at H
      have c5b0 : decide (x8_1 < (l0.length : Int)) = true := decide_eq_true c5
      clear c5
      by_cases c6 : a1.toList = (rdOf ByteArray.empty l0 x8_1).toList
      ·rw [if_pos c6] at H
       have c6b0 : (a1.toList == (rdOf ByteArray.empty l0 x8_1).toList) = true := beq_iff_eq.mpr c6
       have c6b1 : (a1.toList != (rdOf ByteArray.empty l0 x8_1).toList) = false := bne_eq_false_iff_eq.mpr c6
       clear c6
       obtain rfl := Option.some.inj H
       have p245 : 0 ≤ (x8_1 : Int) := of_decide_eq_true (by first | (with_reducible assumption) | assumption)
       have q245 : x8_1 < (l0.length : Int) := of_decide_eq_true (by first | (with_reducible assumption) | assumption)
       obtain ⟨ad245, e245, hx245_0⟩ := Kd.at_string HR0.out x8_1 p245 q245
       cases e245
       replace p245 := eq_true p245
       replace q245 := eq_true q245
       go_wp2
       go_ret
       exact ⟨by first | rfl | (simp; done) | (simp [*]; done), by repeat (first | exact Drawn0.refl _ | apply Drawn0.step)⟩
      ·rw [if_neg c6] at H
       have c6b0 : (a1.toList == (rdOf ByteArray.empty l0 x8_1).toList) = false := beq_eq_false_iff_ne.mpr c6
       have c6b1 : (a1.toList != (rdOf ByteArray.empty l0 x8_1).toList) = true := bne_iff_ne.mpr c6
       have H' := Aside0.mk H
       clear H
       have p245 : 0 ≤ (x8_1 : Int) := of_decide_eq_true (by first | (with_reducible assumption) | assumption)
       have q245 : x8_1 < (l0.length : Int) := of_decide_eq_true (by first | (with_reducible assumption) | assumption)
       obtain ⟨ad245, e245, hx245_0⟩ := Kd.at_string HR0.out x8_1 p245 q245
       cases e245
       replace p245 := eq_true p245
       replace q245 := eq_true q245
       go_wp2
       go_roundg k1
       case measure => have := HK1.out; omega
       case rel => exact ⟨(wrap64 (x8_1 + 1)), (by first | rfl | (simp; done) | (simp [*]; done)), H', ⟨by have := HK1.out; omega⟩, by repeat (first | exact Drawn0.refl _ | apply Drawn0.step)⟩
     ·rw [if_neg c5] at H
      exact absurd H (by simp)
    ·rw [if_neg c4] at H
     exact absurd H (by simp)
   ·rw [if_neg c3] at H
    have c3b0 : decide (x8_1 < (l0.length : Int)) = false := decide_eq_false c3
    clear c3
    obtain rfl := Option.some.inj H
    go_wp2
    go_ret
    exact ⟨by first | rfl | (simp; done) | (simp [*]; done), by repeat (first | exact Drawn0.refl _ | apply Drawn0.step)⟩

/-! ### fold_Named: function 7 -/
def fold_Named.f (k : Nat) (a0 : ByteArray) : Option (Int × Bool) := (fold_names.f).bind fun t246 => ((slices_Index_string_string.f k t246 a0).bind fun t249 => (if t249 < 0 then (some (0, false)) else (some (wrap64 (t249 + 1), true))))
theorem fold_Named.mono : ∀ a0 k, LeO (fold_Named.f k a0) (fold_Named.f (k + 1) a0) := by
 intro a0 k
 unfold fold_Named.f
 repeat' first
   | (with_reducible exact slices_Index_string_string.mono _ _ _)
   | (with_reducible exact LeO.refl _)
   | (with_reducible exact LeO.none _)
   | (with_reducible refine LeO.ite ?_ ?_)
   | (with_reducible refine LeO.bind ?_ (fun _ => ?_))
   | exact slices_Index_string_string.mono _ _ _
   | exact LeO.none _
   | refine LeO.ite ?_ ?_
   | refine LeO.bind ?_ (fun _ => ?_)
set_option maxHeartbeats 8000000 in
set_option maxRecDepth 100000 in
theorem fold_Named.calls (k : Nat) (a0 : ByteArray) (r1 : Int) (r2 : Bool) (w : World) (h : fold_Named.f k a0 = some (r1, r2)) :
  Calls Try.prog 7 #[.string a0] w fun e w' => e = .returned (.tuple #[.int .i64 r1, .bool r2]) ∧ Below w.heap.size w w' := by
 have HB := Aside0.mk (Below.refl w.heap.size w)
 have H : ((fold_names.f).bind fun t246 => ((slices_Index_string_string.f k t246 a0).bind fun t249 => (if t249 < 0 then (some (0, false)) else (some (wrap64 (t249 + 1), true))))) = some (r1, r2) := h
 clear h
 replace H := Option.bind_eq_some_iff.mp H
 obtain ⟨t246, A20, H⟩ := H
 replace H : ((slices_Index_string_string.f k t246 a0).bind fun t249 => (if t249 < 0 then (some (0, false)) else (some (wrap64 (t249 + 1), true)))) = some (r1, r2) := H
 have A2 := Aside0.mk A20
 clear A20
 replace H := Option.bind_eq_some_iff.mp H
 obtain ⟨t249, A30, H⟩ := H
 replace H : (if t249 < 0 then (some (0, false)) else (some (wrap64 (t249 + 1), true))) = some (r1, r2) := H
 have A3 := Aside0.mk A30
 clear A30
 by_cases c4 : t249 < 0
 ·rw [if_pos c4] at H
  have c4b0 : decide (t249 < 0) = true := decide_eq_true c4
  clear c4
  simp only [Option.some.injEq, Prod.mk.injEq] at H
  obtain ⟨rfl, rfl⟩ := H
  go_enter Try.func7, Try.ntmps7
  go_wp2_with (first | ((with_reducible refine gate_callee (f := 20) rfl ?_); refine goesL_ (some 5) rfl rfl Try.func20 (by kernel_rfl) rfl #[] rfl argN ?_; (with_reducible refine (fold_names.calls  t246 _ A2.out).mono ?_); rintro e w5 ⟨v247, rfl, ho0, hb⟩; refine ⟨_, rfl, ?_⟩; have n0_ := Aside0.mk (Kd.R_lower ho0 (below_size (belN HB.out))); have n1_ := Aside0.mk (below_step (belN HB.out) hb); clear HB; have HO248 := n0_; have HB := n1_; clear n0_ n1_; (try clear hb); (try clear ho0); obtain ⟨Ao6, co6, eo6⟩ := Kd.R_slice HO248.out; subst eo6) | ((with_reducible refine gate_callee (f := 19) rfl ?_); refine goesL_ (some 7) rfl rfl Try.func19 (by kernel_rfl) rfl #[.slice Ao6 t246.length co6, .string a0] rfl argN ?_; (with_reducible refine (slices_Index_string_string.calls k _ _ t246 a0 t249 _ ?side1 ?side2 A3.out).mono ?_); (case side1 => repeat (first | exact (Kd.R_reads' HO248.out).2.2 | (with_reducible refine Kd.C_alloc ?_ _) | (with_reducible refine Kd.C_drewN ?_ _) | (with_reducible refine Kd.C_drew ?_))); (case side2 => exact (Kd.R_reads' HO248.out).2.1); rintro e w' ⟨rfl, ⟨nd, rfl⟩⟩; refine ⟨_, rfl, ?_⟩))
  go_ret2
  exact ⟨by first | rfl | (simp [errW_none, errW_some] <;> rfl) | (simp [*, errW_none, errW_some] <;> rfl), (belN HB.out)⟩
 ·rw [if_neg c4] at H
  have c4b0 : decide (t249 < 0) = false := decide_eq_false c4
  clear c4
  simp only [Option.some.injEq, Prod.mk.injEq] at H
  obtain ⟨rfl, rfl⟩ := H
  go_enter Try.func7, Try.ntmps7
  go_wp2_with (first | ((with_reducible refine gate_callee (f := 20) rfl ?_); refine goesL_ (some 5) rfl rfl Try.func20 (by kernel_rfl) rfl #[] rfl argN ?_; (with_reducible refine (fold_names.calls  t246 _ A2.out).mono ?_); rintro e w7 ⟨v247, rfl, ho0, hb⟩; refine ⟨_, rfl, ?_⟩; have n0_ := Aside0.mk (Kd.R_lower ho0 (below_size (belN HB.out))); have n1_ := Aside0.mk (below_step (belN HB.out) hb); clear HB; have HO248 := n0_; have HB := n1_; clear n0_ n1_; (try clear hb); (try clear ho0); obtain ⟨Ao8, co8, eo8⟩ := Kd.R_slice HO248.out; subst eo8) | ((with_reducible refine gate_callee (f := 19) rfl ?_); refine goesL_ (some 7) rfl rfl Try.func19 (by kernel_rfl) rfl #[.slice Ao8 t246.length co8, .string a0] rfl argN ?_; (with_reducible refine (slices_Index_string_string.calls k _ _ t246 a0 t249 _ ?side1 ?side2 A3.out).mono ?_); (case side1 => repeat (first | exact (Kd.R_reads' HO248.out).2.2 | (with_reducible refine Kd.C_alloc ?_ _) | (with_reducible refine Kd.C_drewN ?_ _) | (with_reducible refine Kd.C_drew ?_))); (case side2 => exact (Kd.R_reads' HO248.out).2.1); rintro e w' ⟨rfl, ⟨nd, rfl⟩⟩; refine ⟨_, rfl, ?_⟩))
  go_ret2
  exact ⟨by first | rfl | (simp [errW_none, errW_some] <;> rfl) | (simp [*, errW_none, errW_some] <;> rfl), (belN HB.out)⟩

/-! ### marigraphlaw20_known: function 10 -/
def marigraphlaw20_known.f (k : Nat)  : Option (Bool) := (fold_Do.f k 4 (([(⟨1, 1⟩ : S23), (⟨2, 1⟩ : S23)] : List (S23)))).bind fun bt253 => ((fold_Do.f k 1 ([] : List (S23))).bind fun bt257 => ((fold_Named.f k (⟨#[83, 85, 77]⟩ : ByteArray)).bind fun bt261 => (if bt253.2.2 = 0 then (if (bt253.1 == 3 && (bt253.2.1 == 2)) = true then (if bt257.2.2 = 1 then (if bt261.2 = true then (some false) else ((fold_Name.f 7).bind fun t263 => (some (t263.toList == ([108, 97, 115, 116] : List UInt8))))) else (some false)) else (some false)) else (some false))))
theorem marigraphlaw20_known.mono : ∀ k, LeO (marigraphlaw20_known.f k ) (marigraphlaw20_known.f (k + 1) ) := by
 intro  k
 unfold marigraphlaw20_known.f
 repeat' first
   | (with_reducible exact fold_Do.mono _ _ _)
   | (with_reducible exact fold_Named.mono _ _)
   | (with_reducible exact LeO.refl _)
   | (with_reducible exact LeO.none _)
   | (with_reducible refine LeO.ite ?_ ?_)
   | (with_reducible refine LeO.bind ?_ (fun _ => ?_))
   | exact fold_Do.mono _ _ _
   | exact fold_Named.mono _ _
   | exact LeO.none _
   | refine LeO.ite ?_ ?_
   | refine LeO.bind ?_ (fun _ => ?_)
set_option maxHeartbeats 8000000 in
set_option maxRecDepth 100000 in
theorem marigraphlaw20_known.calls (k : Nat)  (r : Bool) (w : World) (h : marigraphlaw20_known.f k  = some r) :
  Calls Try.prog 10 #[] w fun e w' => e = .returned (.bool r) ∧ Below w.heap.size w w' := by
 have hu23 := Try.underlying23
 have HB := Aside0.mk (Below.refl w.heap.size w)
 have H : ((fold_Do.f k 4 (([(⟨1, 1⟩ : S23), (⟨2, 1⟩ : S23)] : List (S23)))).bind fun bt253 => ((fold_Do.f k 1 ([] : List (S23))).bind fun bt257 => ((fold_Named.f k (⟨#[83, 85, 77]⟩ : ByteArray)).bind fun bt261 => (if bt253.2.2 = 0 then (if (bt253.1 == 3 && (bt253.2.1 == 2)) = true then (if bt257.2.2 = 1 then (if bt261.2 = true then (some false) else ((fold_Name.f 7).bind fun t263 => (some (t263.toList == ([108, 97, 115, 116] : List UInt8))))) else (some false)) else (some false)) else (some false))))) = some r := h
 clear h
 obtain ⟨y250, hy250⟩ : ∃ y_ : List (S23), y_ = (([(⟨1, 1⟩ : S23), (⟨2, 1⟩ : S23)] : List (S23))) := ⟨_, rfl⟩
 replace H : ((fold_Do.f k 4 y250).bind fun bt253 => ((fold_Do.f k 1 ([] : List (S23))).bind fun bt257 => ((fold_Named.f k (⟨#[83, 85, 77]⟩ : ByteArray)).bind fun bt261 => (if bt253.2.2 = 0 then (if (bt253.1 == 3 && (bt253.2.1 == 2)) = true then (if bt257.2.2 = 1 then (if bt261.2 = true then (some false) else ((fold_Name.f 7).bind fun t263 => (some (t263.toList == ([108, 97, 115, 116] : List UInt8))))) else (some false)) else (some false)) else (some false))))) = some r := by first | (rw [hy250]; with_reducible exact H) | (have H2_ := (Option.bind_some _ _).symm.trans H; rw [hy250]; with_reducible exact H2_) | (have H2_ := (Option.bind_some _ _).symm.trans H; with_reducible exact H2_) | with_reducible exact H | (rw [hy250]; exact H) | exact H
 have Ny250 := Aside0.mk hy250
 clear hy250
 replace H := Option.bind_eq_some_iff.mp H
 obtain ⟨⟨t253, t254, t255⟩, A10, H⟩ := H
 replace H : ((fold_Do.f k 1 ([] : List (S23))).bind fun bt257 => ((fold_Named.f k (⟨#[83, 85, 77]⟩ : ByteArray)).bind fun bt261 => (if t255 = 0 then (if (t253 == 3 && (t254 == 2)) = true then (if bt257.2.2 = 1 then (if bt261.2 = true then (some false) else ((fold_Name.f 7).bind fun t263 => (some (t263.toList == ([108, 97, 115, 116] : List UInt8))))) else (some false)) else (some false)) else (some false)))) = some r := H
 have A1 := Aside0.mk A10
 clear A10
 replace H := Option.bind_eq_some_iff.mp H
 obtain ⟨⟨t257, t258, t259⟩, A20, H⟩ := H
 replace H : ((fold_Named.f k (⟨#[83, 85, 77]⟩ : ByteArray)).bind fun bt261 => (if t255 = 0 then (if (t253 == 3 && (t254 == 2)) = true then (if t259 = 1 then (if bt261.2 = true then (some false) else ((fold_Name.f 7).bind fun t263 => (some (t263.toList == ([108, 97, 115, 116] : List UInt8))))) else (some false)) else (some false)) else (some false))) = some r := H
 have A2 := Aside0.mk A20
 clear A20
 replace H := Option.bind_eq_some_iff.mp H
 obtain ⟨⟨t261, t262⟩, A30, H⟩ := H
 replace H : (if t255 = 0 then (if (t253 == 3 && (t254 == 2)) = true then (if t259 = 1 then (if t262 = true then (some false) else ((fold_Name.f 7).bind fun t263 => (some (t263.toList == ([108, 97, 115, 116] : List UInt8))))) else (some false)) else (some false)) else (some false)) = some r := H
 have A3 := Aside0.mk A30
 clear A30
 by_cases c4 : t255 = 0
 ·rw [if_pos c4] at H
  have c4b0 : (t255 == 0) = true := beq_iff_eq.mpr c4
  have c4b1 : (t255 != 0) = false := bne_eq_false_iff_eq.mpr c4
  clear c4
  by_cases c5 : (t253 == 3 && (t254 == 2)) = true
  ·rw [if_pos c5] at H
   have c5b0 : (t253 == 3 && (t254 == 2)) = true := c5
   (try (have c5b1 : decide (t253 = 3 && (t254 == 2)) = true := by simpa using c5))
   (try (have c5b2 : (t253 == 3 && (t254 == 2)) = true := by simpa using c5))
   clear c5
   by_cases c6 : t259 = 1
   ·rw [if_pos c6] at H
    have c6b0 : (t259 == 1) = true := beq_iff_eq.mpr c6
    have c6b1 : (t259 != 1) = false := bne_eq_false_iff_eq.mpr c6
    clear c6
    by_cases c7 : t262 = true
    ·subst c7
     have H1 : (some false) = some r := by rw [if_pos rfl] at H; exact H
     clear H
     have H := H1
     clear H1
     obtain rfl := Option.some.inj H
     go_enter Try.func10, Try.ntmps10
     go_wp2_with (first | ((with_reducible refine gate_dst (N := 10) rfl ?_); refine Kd.R_lit k23 _ 23 ?hg (N := 10) ?hd (xs := ([(⟨1, 1⟩ : S23), (⟨2, 1⟩ : S23)] : List (S23))) (inner := [.int .i64 1, .int .i64 1, .int .i64 2, .int .i64 1]) (ok := fun _ => True) (okp := fun _ => True) ?hr ?hp (fun _ hk => hk) trivial (Below.refl _ _) (Nat.le_refl _) (by simp) ?_; (case hd => rfl); (case hg => rfl); (case hr => first | (go_simp; done) | (go_simp; rfl)); (case hp => exact (Reps.c2 (show Kd.M k23 _ _ _ (⟨1, 1⟩ : S23) [.int .i64 1, .int .i64 1] from (k23_mkM _ _ _ (⟨1, 1⟩ : S23) )) (Reps.c2 (show Kd.M k23 _ _ _ (⟨2, 1⟩ : S23) [.int .i64 2, .int .i64 1] from (k23_mkM _ _ _ (⟨2, 1⟩ : S23) )) (Reps.none _ _)))); intro v251 w8 ho9 hb hg_ hnew_; clear hg_ hnew_; (first | rw [← Ny250.out] at ho9 | (simp only [Int.reduceToNat] at ho9; rw [← Ny250.out] at ho9)); have n0_ := Aside0.mk (Kd.R_lower ho9 (below_size (belN HB.out))); have n1_ := Aside0.mk (below_step (belN HB.out) hb); clear HB; have HO252 := n0_; have HB := n1_; clear n0_ n1_; clear hb ho9; obtain ⟨Ao10, co10, eo10⟩ := Kd.R_slice HO252.out; subst eo10) | ((with_reducible refine gate_callee (f := 13) rfl ?_); refine goesL_ (some 11) rfl rfl Try.func13 (by kernel_rfl) rfl #[.int .i64 4, .slice Ao10 y250.length co10] rfl argN ?_; (with_reducible refine (fold_Do.calls k 4 _ _ y250 t253 t254 t255 _ ?side1 ?side2 A1.out).mono ?_); (case side1 => repeat (first | exact (Kd.R_reads' HO252.out).2.2 | (with_reducible refine Kd.C_alloc ?_ _) | (with_reducible refine Kd.C_drewN ?_ _) | (with_reducible refine Kd.C_drew ?_))); (case side2 => exact (Kd.R_reads' HO252.out).2.1); rintro e w11 ⟨rfl, hb⟩; refine ⟨_, rfl, ?_⟩; have n0_ := Aside0.mk (Kd.R_below (rowN HO252.out) hb); have n1_ := Aside0.mk (below_step (belN HB.out) hb); clear HO252; clear HB; have HO252 := n0_; have HB := n1_; clear n0_ n1_; (try clear hb); (try clear hk)) | ((with_reducible refine gate_dst (N := 1) rfl ?_); refine box_event ?hg (N := 1) ?hd (cs := #[.int .i64 0, .int .i64 0]) (t := 23) ?hr ?_; (case hd => rfl); (case hg => rfl); (case hr => first | (go_simp; done) | (go_simp; rfl)); intro gb256 hg w12 hbox hb; have n0_ := Aside0.mk (Kd.R_below (Kd.R_elderB (rowN HO252.out) gb256 (Nat.le_of_eq hg.symm)) hb); have n1_ := Aside0.mk (below_step (belN HB.out) hb); have n2_ := Aside0.mk (hbox); have n3_ := Aside0.mk (szB hg HB.out); have n4_ := Aside0.mk (szB hg HB.out); clear HO252; clear HB; have HO252 := n0_; have HB := n1_; have BK256 := n2_; have GW256 := n3_; have GE256 := n4_; clear n0_ n1_ n2_ n3_ n4_; clear hb hbox hg; have hcz13_0 : w12.cell? ⟨gb256, 0, none⟩ = some (.int .i64 0) := (blk_cell BK256.out 0).trans rfl; have hcz13_1 : w12.cell? ⟨gb256, 1, none⟩ = some (.int .i64 0) := (blk_cell BK256.out 1).trans rfl; have hfz13_0 := blk_frozen BK256.out 0; have hfz13_1 := blk_frozen BK256.out 1) | ((with_reducible refine gate_callee (f := 13) rfl ?_); refine goesL_ (some 15) rfl rfl Try.func13 (by kernel_rfl) rfl #[.int .i64 1, .slice none 0 0] rfl argN ?_; (refine (fold_Do.calls k 1 _ _ ([] : List (S23)) t257 t258 t259 _ ?side1 ?side2 A2.out).mono ?_); (case side1 => exact Kd.C_nil _ _); (case side2 => exact Nat.le_refl _); rintro e w14 ⟨rfl, hb⟩; refine ⟨_, rfl, ?_⟩; have n0_ := Aside0.mk (Kd.R_below (by (with_reducible repeat (first | apply Kd.R_alloc | apply Kd.R_drewN | apply Kd.R_drew)); exact (Kd.R_mono (Kd.R_far (p := ⟨gb256, 1, none⟩) (Kd.R_far (p := ⟨gb256, 0, none⟩) (Kd.R_mono HO252.out (fun k_ hk => (⟨hk, hk.2⟩ : _ ∧ k_ ≠ gb256))) (fun _ hk => hk.2) (.int .i64 t253)) (fun _ hk => hk.2) (.int .i64 t254)) (fun _ h_ => h_.1))) hb); have n1_ := Aside0.mk (blk_below (g := gb256) (o := .cells #[.int .i64 t253, .int .i64 t254] 23 (0, 0)) (by (with_reducible repeat (first | refine blk_drewN ?_ _ | refine blk_drew ?_ | refine blk_alloc ?_ _)); refine blk_put (cs := #[.int .i64 t253, .int .i64 0]) ?_ 1 _ rfl; (with_reducible repeat (first | refine blk_drewN ?_ _ | refine blk_drew ?_ | refine blk_alloc ?_ _)); refine blk_put (cs := #[.int .i64 0, .int .i64 0]) ?_ 0 _ rfl; (with_reducible repeat (first | refine blk_drewN ?_ _ | refine blk_drew ?_ | refine blk_alloc ?_ _)); exact BK256.out) hb); have n2_ := Aside0.mk (below_step (belS HB.out) hb); clear HO252; clear BK256; clear HB; have HO252 := n0_; have BK256 := n1_; have HB := n2_; clear n0_ n1_ n2_; (try clear hb); (try clear hk)) | ((with_reducible refine gate_dst (N := 3) rfl ?_); refine box_event ?hg (N := 3) ?hd (cs := #[.int .i64 0, .int .i64 0]) (t := 23) ?hr ?_; (case hd => rfl); (case hg => rfl); (case hr => first | (go_simp; done) | (go_simp; rfl)); intro gb260 hg w15 hbox hb; have n0_ := Aside0.mk (Kd.R_below (Kd.R_elderB (rowN HO252.out) gb260 (Nat.le_of_eq hg.symm)) hb); have n1_ := Aside0.mk (bkB BK256.out hb); have n2_ := Aside0.mk (below_step (belS HB.out) hb); have n3_ := Aside0.mk (hbox); have n4_ := Aside0.mk (szB hg HB.out); have n5_ := Aside0.mk (szB hg HB.out); have n6_ := Aside0.mk ((bk1 hg BK256.out)); have n7_ := Aside0.mk ((bk2 hg BK256.out)); clear HO252; clear BK256; clear HB; have HO252 := n0_; have BK256 := n1_; have HB := n2_; have BK260 := n3_; have GW260 := n4_; have GE260 := n5_; have NB256_260 := n6_; have NB260_256 := n7_; clear n0_ n1_ n2_ n3_ n4_ n5_ n6_ n7_; clear hb hbox hg; have hnb16 := NB260_256.out; have hnc16 := NB256_260.out; have hcz17_0 : w15.cell? ⟨gb260, 0, none⟩ = some (.int .i64 0) := (blk_cell BK260.out 0).trans rfl; have hcz17_1 : w15.cell? ⟨gb260, 1, none⟩ = some (.int .i64 0) := (blk_cell BK260.out 1).trans rfl; have hfz17_0 := blk_frozen BK260.out 0; have hfz17_1 := blk_frozen BK260.out 1) | ((with_reducible refine gate_callee (f := 7) rfl ?_); refine goesL_ (some 19) rfl rfl Try.func7 (by kernel_rfl) rfl #[.string (⟨#[83, 85, 77]⟩ : ByteArray)] rfl argN ?_; (with_reducible refine (fold_Named.calls k (⟨#[83, 85, 77]⟩ : ByteArray) t261 true _ A3.out).mono ?_); rintro e w18 ⟨rfl, hb⟩; refine ⟨_, rfl, ?_⟩; have n0_ := Aside0.mk (Kd.R_below (by (with_reducible repeat (first | apply Kd.R_alloc | apply Kd.R_drewN | apply Kd.R_drew)); exact (Kd.R_mono (Kd.R_far (p := ⟨gb260, 1, none⟩) (Kd.R_far (p := ⟨gb260, 0, none⟩) (Kd.R_mono HO252.out (fun k_ hk => (⟨hk, hk.2⟩ : _ ∧ k_ ≠ gb260))) (fun _ hk => hk.2) (.int .i64 t257)) (fun _ hk => hk.2) (.int .i64 t258)) (fun _ h_ => h_.1))) hb); have n1_ := Aside0.mk (bkBF BK256.out hb); have n2_ := Aside0.mk (blk_below (g := gb260) (o := .cells #[.int .i64 t257, .int .i64 t258] 23 (0, 0)) (by (with_reducible repeat (first | refine blk_drewN ?_ _ | refine blk_drew ?_ | refine blk_alloc ?_ _)); refine blk_put (cs := #[.int .i64 t257, .int .i64 0]) ?_ 1 _ rfl; (with_reducible repeat (first | refine blk_drewN ?_ _ | refine blk_drew ?_ | refine blk_alloc ?_ _)); refine blk_put (cs := #[.int .i64 0, .int .i64 0]) ?_ 0 _ rfl; (with_reducible repeat (first | refine blk_drewN ?_ _ | refine blk_drew ?_ | refine blk_alloc ?_ _)); exact BK260.out) hb); have n3_ := Aside0.mk (below_step (belS HB.out) hb); clear HO252; clear BK256; clear BK260; clear HB; have HO252 := n0_; have BK256 := n1_; have BK260 := n2_; have HB := n3_; clear n0_ n1_ n2_ n3_; (try clear hb); (try clear hk); have hcz19_0 : w18.cell? ⟨gb256, 0, none⟩ = some (.int .i64 t253) := (blk_cell BK256.out 0).trans rfl; have hcz19_1 : w18.cell? ⟨gb256, 1, none⟩ = some (.int .i64 t254) := (blk_cell BK256.out 1).trans rfl; have hfz19_0 := blk_frozen BK256.out 0; have hfz19_1 := blk_frozen BK256.out 1))
     go_ret
     exact ⟨by first | rfl | (simp [errW_none, errW_some] <;> rfl) | (simp [*, errW_none, errW_some] <;> rfl), (belS HB.out)⟩
    ·replace c7 := Bool.eq_false_iff.mpr c7
     subst c7
     have H1 : ((fold_Name.f 7).bind fun t263 => (some (t263.toList == ([108, 97, 115, 116] : List UInt8)))) = some r := by rw [if_neg (show ¬ (false = true) by decide)] at H; exact H
     clear H
     have H := H1
     clear H1
     replace H := Option.bind_eq_some_iff.mp H
     obtain ⟨t263, A200, H⟩ := H
     replace H : (some (t263.toList == ([108, 97, 115, 116] : List UInt8))) = some r := H
     have A20 := Aside0.mk A200
     clear A200
     obtain rfl := Option.some.inj H
     go_enter Try.func10, Try.ntmps10
     go_wp2_with (first | ((with_reducible refine gate_dst (N := 10) rfl ?_); refine Kd.R_lit k23 _ 23 ?hg (N := 10) ?hd (xs := ([(⟨1, 1⟩ : S23), (⟨2, 1⟩ : S23)] : List (S23))) (inner := [.int .i64 1, .int .i64 1, .int .i64 2, .int .i64 1]) (ok := fun _ => True) (okp := fun _ => True) ?hr ?hp (fun _ hk => hk) trivial (Below.refl _ _) (Nat.le_refl _) (by simp) ?_; (case hd => rfl); (case hg => rfl); (case hr => first | (go_simp; done) | (go_simp; rfl)); (case hp => exact (Reps.c2 (show Kd.M k23 _ _ _ (⟨1, 1⟩ : S23) [.int .i64 1, .int .i64 1] from (k23_mkM _ _ _ (⟨1, 1⟩ : S23) )) (Reps.c2 (show Kd.M k23 _ _ _ (⟨2, 1⟩ : S23) [.int .i64 2, .int .i64 1] from (k23_mkM _ _ _ (⟨2, 1⟩ : S23) )) (Reps.none _ _)))); intro v251 w21 ho22 hb hg_ hnew_; clear hg_ hnew_; (first | rw [← Ny250.out] at ho22 | (simp only [Int.reduceToNat] at ho22; rw [← Ny250.out] at ho22)); have n0_ := Aside0.mk (Kd.R_lower ho22 (below_size (belN HB.out))); have n1_ := Aside0.mk (below_step (belN HB.out) hb); clear HB; have HO252 := n0_; have HB := n1_; clear n0_ n1_; clear hb ho22; obtain ⟨Ao23, co23, eo23⟩ := Kd.R_slice HO252.out; subst eo23) | ((with_reducible refine gate_callee (f := 13) rfl ?_); refine goesL_ (some 11) rfl rfl Try.func13 (by kernel_rfl) rfl #[.int .i64 4, .slice Ao23 y250.length co23] rfl argN ?_; (with_reducible refine (fold_Do.calls k 4 _ _ y250 t253 t254 t255 _ ?side1 ?side2 A1.out).mono ?_); (case side1 => repeat (first | exact (Kd.R_reads' HO252.out).2.2 | (with_reducible refine Kd.C_alloc ?_ _) | (with_reducible refine Kd.C_drewN ?_ _) | (with_reducible refine Kd.C_drew ?_))); (case side2 => exact (Kd.R_reads' HO252.out).2.1); rintro e w24 ⟨rfl, hb⟩; refine ⟨_, rfl, ?_⟩; have n0_ := Aside0.mk (Kd.R_below (rowN HO252.out) hb); have n1_ := Aside0.mk (below_step (belN HB.out) hb); clear HO252; clear HB; have HO252 := n0_; have HB := n1_; clear n0_ n1_; (try clear hb); (try clear hk)) | ((with_reducible refine gate_dst (N := 1) rfl ?_); refine box_event ?hg (N := 1) ?hd (cs := #[.int .i64 0, .int .i64 0]) (t := 23) ?hr ?_; (case hd => rfl); (case hg => rfl); (case hr => first | (go_simp; done) | (go_simp; rfl)); intro gb256 hg w25 hbox hb; have n0_ := Aside0.mk (Kd.R_below (Kd.R_elderB (rowN HO252.out) gb256 (Nat.le_of_eq hg.symm)) hb); have n1_ := Aside0.mk (below_step (belN HB.out) hb); have n2_ := Aside0.mk (hbox); have n3_ := Aside0.mk (szB hg HB.out); have n4_ := Aside0.mk (szB hg HB.out); clear HO252; clear HB; have HO252 := n0_; have HB := n1_; have BK256 := n2_; have GW256 := n3_; have GE256 := n4_; clear n0_ n1_ n2_ n3_ n4_; clear hb hbox hg; have hcz26_0 : w25.cell? ⟨gb256, 0, none⟩ = some (.int .i64 0) := (blk_cell BK256.out 0).trans rfl; have hcz26_1 : w25.cell? ⟨gb256, 1, none⟩ = some (.int .i64 0) := (blk_cell BK256.out 1).trans rfl; have hfz26_0 := blk_frozen BK256.out 0; have hfz26_1 := blk_frozen BK256.out 1) | ((with_reducible refine gate_callee (f := 13) rfl ?_); refine goesL_ (some 15) rfl rfl Try.func13 (by kernel_rfl) rfl #[.int .i64 1, .slice none 0 0] rfl argN ?_; (refine (fold_Do.calls k 1 _ _ ([] : List (S23)) t257 t258 t259 _ ?side1 ?side2 A2.out).mono ?_); (case side1 => exact Kd.C_nil _ _); (case side2 => exact Nat.le_refl _); rintro e w27 ⟨rfl, hb⟩; refine ⟨_, rfl, ?_⟩; have n0_ := Aside0.mk (Kd.R_below (by (with_reducible repeat (first | apply Kd.R_alloc | apply Kd.R_drewN | apply Kd.R_drew)); exact (Kd.R_mono (Kd.R_far (p := ⟨gb256, 1, none⟩) (Kd.R_far (p := ⟨gb256, 0, none⟩) (Kd.R_mono HO252.out (fun k_ hk => (⟨hk, hk.2⟩ : _ ∧ k_ ≠ gb256))) (fun _ hk => hk.2) (.int .i64 t253)) (fun _ hk => hk.2) (.int .i64 t254)) (fun _ h_ => h_.1))) hb); have n1_ := Aside0.mk (blk_below (g := gb256) (o := .cells #[.int .i64 t253, .int .i64 t254] 23 (0, 0)) (by (with_reducible repeat (first | refine blk_drewN ?_ _ | refine blk_drew ?_ | refine blk_alloc ?_ _)); refine blk_put (cs := #[.int .i64 t253, .int .i64 0]) ?_ 1 _ rfl; (with_reducible repeat (first | refine blk_drewN ?_ _ | refine blk_drew ?_ | refine blk_alloc ?_ _)); refine blk_put (cs := #[.int .i64 0, .int .i64 0]) ?_ 0 _ rfl; (with_reducible repeat (first | refine blk_drewN ?_ _ | refine blk_drew ?_ | refine blk_alloc ?_ _)); exact BK256.out) hb); have n2_ := Aside0.mk (below_step (belS HB.out) hb); clear HO252; clear BK256; clear HB; have HO252 := n0_; have BK256 := n1_; have HB := n2_; clear n0_ n1_ n2_; (try clear hb); (try clear hk)) | ((with_reducible refine gate_dst (N := 3) rfl ?_); refine box_event ?hg (N := 3) ?hd (cs := #[.int .i64 0, .int .i64 0]) (t := 23) ?hr ?_; (case hd => rfl); (case hg => rfl); (case hr => first | (go_simp; done) | (go_simp; rfl)); intro gb260 hg w28 hbox hb; have n0_ := Aside0.mk (Kd.R_below (Kd.R_elderB (rowN HO252.out) gb260 (Nat.le_of_eq hg.symm)) hb); have n1_ := Aside0.mk (bkB BK256.out hb); have n2_ := Aside0.mk (below_step (belS HB.out) hb); have n3_ := Aside0.mk (hbox); have n4_ := Aside0.mk (szB hg HB.out); have n5_ := Aside0.mk (szB hg HB.out); have n6_ := Aside0.mk ((bk1 hg BK256.out)); have n7_ := Aside0.mk ((bk2 hg BK256.out)); clear HO252; clear BK256; clear HB; have HO252 := n0_; have BK256 := n1_; have HB := n2_; have BK260 := n3_; have GW260 := n4_; have GE260 := n5_; have NB256_260 := n6_; have NB260_256 := n7_; clear n0_ n1_ n2_ n3_ n4_ n5_ n6_ n7_; clear hb hbox hg; have hnb29 := NB260_256.out; have hnc29 := NB256_260.out; have hcz30_0 : w28.cell? ⟨gb260, 0, none⟩ = some (.int .i64 0) := (blk_cell BK260.out 0).trans rfl; have hcz30_1 : w28.cell? ⟨gb260, 1, none⟩ = some (.int .i64 0) := (blk_cell BK260.out 1).trans rfl; have hfz30_0 := blk_frozen BK260.out 0; have hfz30_1 := blk_frozen BK260.out 1) | ((with_reducible refine gate_callee (f := 7) rfl ?_); refine goesL_ (some 19) rfl rfl Try.func7 (by kernel_rfl) rfl #[.string (⟨#[83, 85, 77]⟩ : ByteArray)] rfl argN ?_; (with_reducible refine (fold_Named.calls k (⟨#[83, 85, 77]⟩ : ByteArray) t261 false _ A3.out).mono ?_); rintro e w31 ⟨rfl, hb⟩; refine ⟨_, rfl, ?_⟩; have n0_ := Aside0.mk (Kd.R_below (by (with_reducible repeat (first | apply Kd.R_alloc | apply Kd.R_drewN | apply Kd.R_drew)); exact (Kd.R_mono (Kd.R_far (p := ⟨gb260, 1, none⟩) (Kd.R_far (p := ⟨gb260, 0, none⟩) (Kd.R_mono HO252.out (fun k_ hk => (⟨hk, hk.2⟩ : _ ∧ k_ ≠ gb260))) (fun _ hk => hk.2) (.int .i64 t257)) (fun _ hk => hk.2) (.int .i64 t258)) (fun _ h_ => h_.1))) hb); have n1_ := Aside0.mk (bkBF BK256.out hb); have n2_ := Aside0.mk (blk_below (g := gb260) (o := .cells #[.int .i64 t257, .int .i64 t258] 23 (0, 0)) (by (with_reducible repeat (first | refine blk_drewN ?_ _ | refine blk_drew ?_ | refine blk_alloc ?_ _)); refine blk_put (cs := #[.int .i64 t257, .int .i64 0]) ?_ 1 _ rfl; (with_reducible repeat (first | refine blk_drewN ?_ _ | refine blk_drew ?_ | refine blk_alloc ?_ _)); refine blk_put (cs := #[.int .i64 0, .int .i64 0]) ?_ 0 _ rfl; (with_reducible repeat (first | refine blk_drewN ?_ _ | refine blk_drew ?_ | refine blk_alloc ?_ _)); exact BK260.out) hb); have n3_ := Aside0.mk (below_step (belS HB.out) hb); clear HO252; clear BK256; clear BK260; clear HB; have HO252 := n0_; have BK256 := n1_; have BK260 := n2_; have HB := n3_; clear n0_ n1_ n2_ n3_; (try clear hb); (try clear hk); have hcz32_0 : w31.cell? ⟨gb256, 0, none⟩ = some (.int .i64 t253) := (blk_cell BK256.out 0).trans rfl; have hcz32_1 : w31.cell? ⟨gb256, 1, none⟩ = some (.int .i64 t254) := (blk_cell BK256.out 1).trans rfl; have hfz32_0 := blk_frozen BK256.out 0; have hfz32_1 := blk_frozen BK256.out 1) | (go_at_call 8; (with_reducible refine (fold_Name.calls 7 t263 _ A20.out).mono ?_); rintro e w33 ⟨rfl, hb⟩; have n0_ := Aside0.mk (Kd.R_below (rowN HO252.out) hb); have n1_ := Aside0.mk (bkB BK256.out hb); have n2_ := Aside0.mk (bkB BK260.out hb); have n3_ := Aside0.mk (below_step (belS HB.out) hb); clear HO252; clear BK256; clear BK260; clear HB; have HO252 := n0_; have BK256 := n1_; have BK260 := n2_; have HB := n3_; clear n0_ n1_ n2_ n3_; (try clear hb); (try clear hk)))
     go_ret
     exact ⟨by first | rfl | (simp [errW_none, errW_some] <;> rfl) | (simp [*, errW_none, errW_some] <;> rfl), (belS HB.out)⟩
   ·rw [if_neg c6] at H
    have c6b0 : (t259 == 1) = false := beq_eq_false_iff_ne.mpr c6
    have c6b1 : (t259 != 1) = true := bne_iff_ne.mpr c6
    obtain rfl := Option.some.inj H
    go_enter Try.func10, Try.ntmps10
    go_wp2_with (first | ((with_reducible refine gate_dst (N := 10) rfl ?_); refine Kd.R_lit k23 _ 23 ?hg (N := 10) ?hd (xs := ([(⟨1, 1⟩ : S23), (⟨2, 1⟩ : S23)] : List (S23))) (inner := [.int .i64 1, .int .i64 1, .int .i64 2, .int .i64 1]) (ok := fun _ => True) (okp := fun _ => True) ?hr ?hp (fun _ hk => hk) trivial (Below.refl _ _) (Nat.le_refl _) (by simp) ?_; (case hd => rfl); (case hg => rfl); (case hr => first | (go_simp; done) | (go_simp; rfl)); (case hp => exact (Reps.c2 (show Kd.M k23 _ _ _ (⟨1, 1⟩ : S23) [.int .i64 1, .int .i64 1] from (k23_mkM _ _ _ (⟨1, 1⟩ : S23) )) (Reps.c2 (show Kd.M k23 _ _ _ (⟨2, 1⟩ : S23) [.int .i64 2, .int .i64 1] from (k23_mkM _ _ _ (⟨2, 1⟩ : S23) )) (Reps.none _ _)))); intro v251 w34 ho35 hb hg_ hnew_; clear hg_ hnew_; (first | rw [← Ny250.out] at ho35 | (simp only [Int.reduceToNat] at ho35; rw [← Ny250.out] at ho35)); have n0_ := Aside0.mk (Kd.R_lower ho35 (below_size (belN HB.out))); have n1_ := Aside0.mk (below_step (belN HB.out) hb); clear HB; have HO252 := n0_; have HB := n1_; clear n0_ n1_; clear hb ho35; obtain ⟨Ao36, co36, eo36⟩ := Kd.R_slice HO252.out; subst eo36) | ((with_reducible refine gate_callee (f := 13) rfl ?_); refine goesL_ (some 11) rfl rfl Try.func13 (by kernel_rfl) rfl #[.int .i64 4, .slice Ao36 y250.length co36] rfl argN ?_; (with_reducible refine (fold_Do.calls k 4 _ _ y250 t253 t254 t255 _ ?side1 ?side2 A1.out).mono ?_); (case side1 => repeat (first | exact (Kd.R_reads' HO252.out).2.2 | (with_reducible refine Kd.C_alloc ?_ _) | (with_reducible refine Kd.C_drewN ?_ _) | (with_reducible refine Kd.C_drew ?_))); (case side2 => exact (Kd.R_reads' HO252.out).2.1); rintro e w37 ⟨rfl, hb⟩; refine ⟨_, rfl, ?_⟩; have n0_ := Aside0.mk (Kd.R_below (rowN HO252.out) hb); have n1_ := Aside0.mk (below_step (belN HB.out) hb); clear HO252; clear HB; have HO252 := n0_; have HB := n1_; clear n0_ n1_; (try clear hb); (try clear hk)) | ((with_reducible refine gate_dst (N := 1) rfl ?_); refine box_event ?hg (N := 1) ?hd (cs := #[.int .i64 0, .int .i64 0]) (t := 23) ?hr ?_; (case hd => rfl); (case hg => rfl); (case hr => first | (go_simp; done) | (go_simp; rfl)); intro gb256 hg w38 hbox hb; have n0_ := Aside0.mk (Kd.R_below (Kd.R_elderB (rowN HO252.out) gb256 (Nat.le_of_eq hg.symm)) hb); have n1_ := Aside0.mk (below_step (belN HB.out) hb); have n2_ := Aside0.mk (hbox); have n3_ := Aside0.mk (szB hg HB.out); have n4_ := Aside0.mk (szB hg HB.out); clear HO252; clear HB; have HO252 := n0_; have HB := n1_; have BK256 := n2_; have GW256 := n3_; have GE256 := n4_; clear n0_ n1_ n2_ n3_ n4_; clear hb hbox hg; have hcz39_0 : w38.cell? ⟨gb256, 0, none⟩ = some (.int .i64 0) := (blk_cell BK256.out 0).trans rfl; have hcz39_1 : w38.cell? ⟨gb256, 1, none⟩ = some (.int .i64 0) := (blk_cell BK256.out 1).trans rfl; have hfz39_0 := blk_frozen BK256.out 0; have hfz39_1 := blk_frozen BK256.out 1) | ((with_reducible refine gate_callee (f := 13) rfl ?_); refine goesL_ (some 15) rfl rfl Try.func13 (by kernel_rfl) rfl #[.int .i64 1, .slice none 0 0] rfl argN ?_; (refine (fold_Do.calls k 1 _ _ ([] : List (S23)) t257 t258 t259 _ ?side1 ?side2 A2.out).mono ?_); (case side1 => exact Kd.C_nil _ _); (case side2 => exact Nat.le_refl _); rintro e w40 ⟨rfl, hb⟩; refine ⟨_, rfl, ?_⟩; have n0_ := Aside0.mk (Kd.R_below (by (with_reducible repeat (first | apply Kd.R_alloc | apply Kd.R_drewN | apply Kd.R_drew)); exact (Kd.R_mono (Kd.R_far (p := ⟨gb256, 1, none⟩) (Kd.R_far (p := ⟨gb256, 0, none⟩) (Kd.R_mono HO252.out (fun k_ hk => (⟨hk, hk.2⟩ : _ ∧ k_ ≠ gb256))) (fun _ hk => hk.2) (.int .i64 t253)) (fun _ hk => hk.2) (.int .i64 t254)) (fun _ h_ => h_.1))) hb); have n1_ := Aside0.mk (blk_below (g := gb256) (o := .cells #[.int .i64 t253, .int .i64 t254] 23 (0, 0)) (by (with_reducible repeat (first | refine blk_drewN ?_ _ | refine blk_drew ?_ | refine blk_alloc ?_ _)); refine blk_put (cs := #[.int .i64 t253, .int .i64 0]) ?_ 1 _ rfl; (with_reducible repeat (first | refine blk_drewN ?_ _ | refine blk_drew ?_ | refine blk_alloc ?_ _)); refine blk_put (cs := #[.int .i64 0, .int .i64 0]) ?_ 0 _ rfl; (with_reducible repeat (first | refine blk_drewN ?_ _ | refine blk_drew ?_ | refine blk_alloc ?_ _)); exact BK256.out) hb); have n2_ := Aside0.mk (below_step (belS HB.out) hb); clear HO252; clear BK256; clear HB; have HO252 := n0_; have BK256 := n1_; have HB := n2_; clear n0_ n1_ n2_; (try clear hb); (try clear hk)) | ((with_reducible refine gate_dst (N := 3) rfl ?_); refine box_event ?hg (N := 3) ?hd (cs := #[.int .i64 0, .int .i64 0]) (t := 23) ?hr ?_; (case hd => rfl); (case hg => rfl); (case hr => first | (go_simp; done) | (go_simp; rfl)); intro gb260 hg w41 hbox hb; have n0_ := Aside0.mk (Kd.R_below (Kd.R_elderB (rowN HO252.out) gb260 (Nat.le_of_eq hg.symm)) hb); have n1_ := Aside0.mk (bkB BK256.out hb); have n2_ := Aside0.mk (below_step (belS HB.out) hb); have n3_ := Aside0.mk (hbox); have n4_ := Aside0.mk (szB hg HB.out); have n5_ := Aside0.mk (szB hg HB.out); have n6_ := Aside0.mk ((bk1 hg BK256.out)); have n7_ := Aside0.mk ((bk2 hg BK256.out)); clear HO252; clear BK256; clear HB; have HO252 := n0_; have BK256 := n1_; have HB := n2_; have BK260 := n3_; have GW260 := n4_; have GE260 := n5_; have NB256_260 := n6_; have NB260_256 := n7_; clear n0_ n1_ n2_ n3_ n4_ n5_ n6_ n7_; clear hb hbox hg; have hnb42 := NB260_256.out; have hnc42 := NB256_260.out; have hcz43_0 : w41.cell? ⟨gb260, 0, none⟩ = some (.int .i64 0) := (blk_cell BK260.out 0).trans rfl; have hcz43_1 : w41.cell? ⟨gb260, 1, none⟩ = some (.int .i64 0) := (blk_cell BK260.out 1).trans rfl; have hfz43_0 := blk_frozen BK260.out 0; have hfz43_1 := blk_frozen BK260.out 1) | ((with_reducible refine gate_callee (f := 7) rfl ?_); refine goesL_ (some 19) rfl rfl Try.func7 (by kernel_rfl) rfl #[.string (⟨#[83, 85, 77]⟩ : ByteArray)] rfl argN ?_; (with_reducible refine (fold_Named.calls k (⟨#[83, 85, 77]⟩ : ByteArray) t261 t262 _ A3.out).mono ?_); rintro e w44 ⟨rfl, hb⟩; refine ⟨_, rfl, ?_⟩; have n0_ := Aside0.mk (Kd.R_below (by (with_reducible repeat (first | apply Kd.R_alloc | apply Kd.R_drewN | apply Kd.R_drew)); exact (Kd.R_mono (Kd.R_far (p := ⟨gb260, 1, none⟩) (Kd.R_far (p := ⟨gb260, 0, none⟩) (Kd.R_mono HO252.out (fun k_ hk => (⟨hk, hk.2⟩ : _ ∧ k_ ≠ gb260))) (fun _ hk => hk.2) (.int .i64 t257)) (fun _ hk => hk.2) (.int .i64 t258)) (fun _ h_ => h_.1))) hb); have n1_ := Aside0.mk (bkBF BK256.out hb); have n2_ := Aside0.mk (blk_below (g := gb260) (o := .cells #[.int .i64 t257, .int .i64 t258] 23 (0, 0)) (by (with_reducible repeat (first | refine blk_drewN ?_ _ | refine blk_drew ?_ | refine blk_alloc ?_ _)); refine blk_put (cs := #[.int .i64 t257, .int .i64 0]) ?_ 1 _ rfl; (with_reducible repeat (first | refine blk_drewN ?_ _ | refine blk_drew ?_ | refine blk_alloc ?_ _)); refine blk_put (cs := #[.int .i64 0, .int .i64 0]) ?_ 0 _ rfl; (with_reducible repeat (first | refine blk_drewN ?_ _ | refine blk_drew ?_ | refine blk_alloc ?_ _)); exact BK260.out) hb); have n3_ := Aside0.mk (below_step (belS HB.out) hb); clear HO252; clear BK256; clear BK260; clear HB; have HO252 := n0_; have BK256 := n1_; have BK260 := n2_; have HB := n3_; clear n0_ n1_ n2_ n3_; (try clear hb); (try clear hk); have hcz45_0 : w44.cell? ⟨gb256, 0, none⟩ = some (.int .i64 t253) := (blk_cell BK256.out 0).trans rfl; have hcz45_1 : w44.cell? ⟨gb256, 1, none⟩ = some (.int .i64 t254) := (blk_cell BK256.out 1).trans rfl; have hfz45_0 := blk_frozen BK256.out 0; have hfz45_1 := blk_frozen BK256.out 1))
    go_ret
    exact ⟨by first | rfl | (simp [errW_none, errW_some] <;> rfl) | (simp [*, errW_none, errW_some] <;> rfl), (belS HB.out)⟩
  ·rw [if_neg c5] at H
   have c5b0 : (t253 == 3 && (t254 == 2)) = false := by simpa using c5
   (try (have c5b1 : decide (t253 = 3 && (t254 == 2)) = false := by simpa using c5))
   (try (have c5b2 : (t253 == 3 && (t254 == 2)) = false := by simpa using c5))
   (try (have c5b3 : ¬ (t253 = 3 && (t254 == 2)) := by simpa using c5))
   clear c5
   obtain rfl := Option.some.inj H
   go_enter Try.func10, Try.ntmps10
   go_wp2_with (first | ((with_reducible refine gate_dst (N := 10) rfl ?_); refine Kd.R_lit k23 _ 23 ?hg (N := 10) ?hd (xs := ([(⟨1, 1⟩ : S23), (⟨2, 1⟩ : S23)] : List (S23))) (inner := [.int .i64 1, .int .i64 1, .int .i64 2, .int .i64 1]) (ok := fun _ => True) (okp := fun _ => True) ?hr ?hp (fun _ hk => hk) trivial (Below.refl _ _) (Nat.le_refl _) (by simp) ?_; (case hd => rfl); (case hg => rfl); (case hr => first | (go_simp; done) | (go_simp; rfl)); (case hp => exact (Reps.c2 (show Kd.M k23 _ _ _ (⟨1, 1⟩ : S23) [.int .i64 1, .int .i64 1] from (k23_mkM _ _ _ (⟨1, 1⟩ : S23) )) (Reps.c2 (show Kd.M k23 _ _ _ (⟨2, 1⟩ : S23) [.int .i64 2, .int .i64 1] from (k23_mkM _ _ _ (⟨2, 1⟩ : S23) )) (Reps.none _ _)))); intro v251 w46 ho47 hb hg_ hnew_; clear hg_ hnew_; (first | rw [← Ny250.out] at ho47 | (simp only [Int.reduceToNat] at ho47; rw [← Ny250.out] at ho47)); have n0_ := Aside0.mk (Kd.R_lower ho47 (below_size (belN HB.out))); have n1_ := Aside0.mk (below_step (belN HB.out) hb); clear HB; have HO252 := n0_; have HB := n1_; clear n0_ n1_; clear hb ho47; obtain ⟨Ao48, co48, eo48⟩ := Kd.R_slice HO252.out; subst eo48) | ((with_reducible refine gate_callee (f := 13) rfl ?_); refine goesL_ (some 11) rfl rfl Try.func13 (by kernel_rfl) rfl #[.int .i64 4, .slice Ao48 y250.length co48] rfl argN ?_; (with_reducible refine (fold_Do.calls k 4 _ _ y250 t253 t254 t255 _ ?side1 ?side2 A1.out).mono ?_); (case side1 => repeat (first | exact (Kd.R_reads' HO252.out).2.2 | (with_reducible refine Kd.C_alloc ?_ _) | (with_reducible refine Kd.C_drewN ?_ _) | (with_reducible refine Kd.C_drew ?_))); (case side2 => exact (Kd.R_reads' HO252.out).2.1); rintro e w49 ⟨rfl, hb⟩; refine ⟨_, rfl, ?_⟩; have n0_ := Aside0.mk (Kd.R_below (rowN HO252.out) hb); have n1_ := Aside0.mk (below_step (belN HB.out) hb); clear HO252; clear HB; have HO252 := n0_; have HB := n1_; clear n0_ n1_; (try clear hb); (try clear hk)) | ((with_reducible refine gate_dst (N := 1) rfl ?_); refine box_event ?hg (N := 1) ?hd (cs := #[.int .i64 0, .int .i64 0]) (t := 23) ?hr ?_; (case hd => rfl); (case hg => rfl); (case hr => first | (go_simp; done) | (go_simp; rfl)); intro gb256 hg w50 hbox hb; have n0_ := Aside0.mk (Kd.R_below (Kd.R_elderB (rowN HO252.out) gb256 (Nat.le_of_eq hg.symm)) hb); have n1_ := Aside0.mk (below_step (belN HB.out) hb); have n2_ := Aside0.mk (hbox); have n3_ := Aside0.mk (szB hg HB.out); have n4_ := Aside0.mk (szB hg HB.out); clear HO252; clear HB; have HO252 := n0_; have HB := n1_; have BK256 := n2_; have GW256 := n3_; have GE256 := n4_; clear n0_ n1_ n2_ n3_ n4_; clear hb hbox hg; have hcz51_0 : w50.cell? ⟨gb256, 0, none⟩ = some (.int .i64 0) := (blk_cell BK256.out 0).trans rfl; have hcz51_1 : w50.cell? ⟨gb256, 1, none⟩ = some (.int .i64 0) := (blk_cell BK256.out 1).trans rfl; have hfz51_0 := blk_frozen BK256.out 0; have hfz51_1 := blk_frozen BK256.out 1) | ((with_reducible refine gate_callee (f := 13) rfl ?_); refine goesL_ (some 15) rfl rfl Try.func13 (by kernel_rfl) rfl #[.int .i64 1, .slice none 0 0] rfl argN ?_; (refine (fold_Do.calls k 1 _ _ ([] : List (S23)) t257 t258 t259 _ ?side1 ?side2 A2.out).mono ?_); (case side1 => exact Kd.C_nil _ _); (case side2 => exact Nat.le_refl _); rintro e w52 ⟨rfl, hb⟩; refine ⟨_, rfl, ?_⟩; have n0_ := Aside0.mk (Kd.R_below (by (with_reducible repeat (first | apply Kd.R_alloc | apply Kd.R_drewN | apply Kd.R_drew)); exact (Kd.R_mono (Kd.R_far (p := ⟨gb256, 1, none⟩) (Kd.R_far (p := ⟨gb256, 0, none⟩) (Kd.R_mono HO252.out (fun k_ hk => (⟨hk, hk.2⟩ : _ ∧ k_ ≠ gb256))) (fun _ hk => hk.2) (.int .i64 t253)) (fun _ hk => hk.2) (.int .i64 t254)) (fun _ h_ => h_.1))) hb); have n1_ := Aside0.mk (blk_below (g := gb256) (o := .cells #[.int .i64 t253, .int .i64 t254] 23 (0, 0)) (by (with_reducible repeat (first | refine blk_drewN ?_ _ | refine blk_drew ?_ | refine blk_alloc ?_ _)); refine blk_put (cs := #[.int .i64 t253, .int .i64 0]) ?_ 1 _ rfl; (with_reducible repeat (first | refine blk_drewN ?_ _ | refine blk_drew ?_ | refine blk_alloc ?_ _)); refine blk_put (cs := #[.int .i64 0, .int .i64 0]) ?_ 0 _ rfl; (with_reducible repeat (first | refine blk_drewN ?_ _ | refine blk_drew ?_ | refine blk_alloc ?_ _)); exact BK256.out) hb); have n2_ := Aside0.mk (below_step (belS HB.out) hb); clear HO252; clear BK256; clear HB; have HO252 := n0_; have BK256 := n1_; have HB := n2_; clear n0_ n1_ n2_; (try clear hb); (try clear hk)) | ((with_reducible refine gate_dst (N := 3) rfl ?_); refine box_event ?hg (N := 3) ?hd (cs := #[.int .i64 0, .int .i64 0]) (t := 23) ?hr ?_; (case hd => rfl); (case hg => rfl); (case hr => first | (go_simp; done) | (go_simp; rfl)); intro gb260 hg w53 hbox hb; have n0_ := Aside0.mk (Kd.R_below (Kd.R_elderB (rowN HO252.out) gb260 (Nat.le_of_eq hg.symm)) hb); have n1_ := Aside0.mk (bkB BK256.out hb); have n2_ := Aside0.mk (below_step (belS HB.out) hb); have n3_ := Aside0.mk (hbox); have n4_ := Aside0.mk (szB hg HB.out); have n5_ := Aside0.mk (szB hg HB.out); have n6_ := Aside0.mk ((bk1 hg BK256.out)); have n7_ := Aside0.mk ((bk2 hg BK256.out)); clear HO252; clear BK256; clear HB; have HO252 := n0_; have BK256 := n1_; have HB := n2_; have BK260 := n3_; have GW260 := n4_; have GE260 := n5_; have NB256_260 := n6_; have NB260_256 := n7_; clear n0_ n1_ n2_ n3_ n4_ n5_ n6_ n7_; clear hb hbox hg; have hnb54 := NB260_256.out; have hnc54 := NB256_260.out; have hcz55_0 : w53.cell? ⟨gb260, 0, none⟩ = some (.int .i64 0) := (blk_cell BK260.out 0).trans rfl; have hcz55_1 : w53.cell? ⟨gb260, 1, none⟩ = some (.int .i64 0) := (blk_cell BK260.out 1).trans rfl; have hfz55_0 := blk_frozen BK260.out 0; have hfz55_1 := blk_frozen BK260.out 1) | ((with_reducible refine gate_callee (f := 7) rfl ?_); refine goesL_ (some 19) rfl rfl Try.func7 (by kernel_rfl) rfl #[.string (⟨#[83, 85, 77]⟩ : ByteArray)] rfl argN ?_; (with_reducible refine (fold_Named.calls k (⟨#[83, 85, 77]⟩ : ByteArray) t261 t262 _ A3.out).mono ?_); rintro e w56 ⟨rfl, hb⟩; refine ⟨_, rfl, ?_⟩; have n0_ := Aside0.mk (Kd.R_below (by (with_reducible repeat (first | apply Kd.R_alloc | apply Kd.R_drewN | apply Kd.R_drew)); exact (Kd.R_mono (Kd.R_far (p := ⟨gb260, 1, none⟩) (Kd.R_far (p := ⟨gb260, 0, none⟩) (Kd.R_mono HO252.out (fun k_ hk => (⟨hk, hk.2⟩ : _ ∧ k_ ≠ gb260))) (fun _ hk => hk.2) (.int .i64 t257)) (fun _ hk => hk.2) (.int .i64 t258)) (fun _ h_ => h_.1))) hb); have n1_ := Aside0.mk (bkBF BK256.out hb); have n2_ := Aside0.mk (blk_below (g := gb260) (o := .cells #[.int .i64 t257, .int .i64 t258] 23 (0, 0)) (by (with_reducible repeat (first | refine blk_drewN ?_ _ | refine blk_drew ?_ | refine blk_alloc ?_ _)); refine blk_put (cs := #[.int .i64 t257, .int .i64 0]) ?_ 1 _ rfl; (with_reducible repeat (first | refine blk_drewN ?_ _ | refine blk_drew ?_ | refine blk_alloc ?_ _)); refine blk_put (cs := #[.int .i64 0, .int .i64 0]) ?_ 0 _ rfl; (with_reducible repeat (first | refine blk_drewN ?_ _ | refine blk_drew ?_ | refine blk_alloc ?_ _)); exact BK260.out) hb); have n3_ := Aside0.mk (below_step (belS HB.out) hb); clear HO252; clear BK256; clear BK260; clear HB; have HO252 := n0_; have BK256 := n1_; have BK260 := n2_; have HB := n3_; clear n0_ n1_ n2_ n3_; (try clear hb); (try clear hk); have hcz57_0 : w56.cell? ⟨gb256, 0, none⟩ = some (.int .i64 t253) := (blk_cell BK256.out 0).trans rfl; have hcz57_1 : w56.cell? ⟨gb256, 1, none⟩ = some (.int .i64 t254) := (blk_cell BK256.out 1).trans rfl; have hfz57_0 := blk_frozen BK256.out 0; have hfz57_1 := blk_frozen BK256.out 1))
   go_ret
   exact ⟨by first | rfl | (simp [errW_none, errW_some] <;> rfl) | (simp [*, errW_none, errW_some] <;> rfl), (belS HB.out)⟩
 ·rw [if_neg c4] at H
  have c4b0 : (t255 == 0) = false := beq_eq_false_iff_ne.mpr c4
  have c4b1 : (t255 != 0) = true := bne_iff_ne.mpr c4
  obtain rfl := Option.some.inj H
  go_enter Try.func10, Try.ntmps10
  go_wp2_with (first | ((with_reducible refine gate_dst (N := 10) rfl ?_); refine Kd.R_lit k23 _ 23 ?hg (N := 10) ?hd (xs := ([(⟨1, 1⟩ : S23), (⟨2, 1⟩ : S23)] : List (S23))) (inner := [.int .i64 1, .int .i64 1, .int .i64 2, .int .i64 1]) (ok := fun _ => True) (okp := fun _ => True) ?hr ?hp (fun _ hk => hk) trivial (Below.refl _ _) (Nat.le_refl _) (by simp) ?_; (case hd => rfl); (case hg => rfl); (case hr => first | (go_simp; done) | (go_simp; rfl)); (case hp => exact (Reps.c2 (show Kd.M k23 _ _ _ (⟨1, 1⟩ : S23) [.int .i64 1, .int .i64 1] from (k23_mkM _ _ _ (⟨1, 1⟩ : S23) )) (Reps.c2 (show Kd.M k23 _ _ _ (⟨2, 1⟩ : S23) [.int .i64 2, .int .i64 1] from (k23_mkM _ _ _ (⟨2, 1⟩ : S23) )) (Reps.none _ _)))); intro v251 w58 ho59 hb hg_ hnew_; clear hg_ hnew_; (first | rw [← Ny250.out] at ho59 | (simp only [Int.reduceToNat] at ho59; rw [← Ny250.out] at ho59)); have n0_ := Aside0.mk (Kd.R_lower ho59 (below_size (belN HB.out))); have n1_ := Aside0.mk (below_step (belN HB.out) hb); clear HB; have HO252 := n0_; have HB := n1_; clear n0_ n1_; clear hb ho59; obtain ⟨Ao60, co60, eo60⟩ := Kd.R_slice HO252.out; subst eo60) | ((with_reducible refine gate_callee (f := 13) rfl ?_); refine goesL_ (some 11) rfl rfl Try.func13 (by kernel_rfl) rfl #[.int .i64 4, .slice Ao60 y250.length co60] rfl argN ?_; (with_reducible refine (fold_Do.calls k 4 _ _ y250 t253 t254 t255 _ ?side1 ?side2 A1.out).mono ?_); (case side1 => repeat (first | exact (Kd.R_reads' HO252.out).2.2 | (with_reducible refine Kd.C_alloc ?_ _) | (with_reducible refine Kd.C_drewN ?_ _) | (with_reducible refine Kd.C_drew ?_))); (case side2 => exact (Kd.R_reads' HO252.out).2.1); rintro e w61 ⟨rfl, hb⟩; refine ⟨_, rfl, ?_⟩; have n0_ := Aside0.mk (Kd.R_below (rowN HO252.out) hb); have n1_ := Aside0.mk (below_step (belN HB.out) hb); clear HO252; clear HB; have HO252 := n0_; have HB := n1_; clear n0_ n1_; (try clear hb); (try clear hk)) | ((with_reducible refine gate_dst (N := 1) rfl ?_); refine box_event ?hg (N := 1) ?hd (cs := #[.int .i64 0, .int .i64 0]) (t := 23) ?hr ?_; (case hd => rfl); (case hg => rfl); (case hr => first | (go_simp; done) | (go_simp; rfl)); intro gb256 hg w62 hbox hb; have n0_ := Aside0.mk (Kd.R_below (Kd.R_elderB (rowN HO252.out) gb256 (Nat.le_of_eq hg.symm)) hb); have n1_ := Aside0.mk (below_step (belN HB.out) hb); have n2_ := Aside0.mk (hbox); have n3_ := Aside0.mk (szB hg HB.out); have n4_ := Aside0.mk (szB hg HB.out); clear HO252; clear HB; have HO252 := n0_; have HB := n1_; have BK256 := n2_; have GW256 := n3_; have GE256 := n4_; clear n0_ n1_ n2_ n3_ n4_; clear hb hbox hg; have hcz63_0 : w62.cell? ⟨gb256, 0, none⟩ = some (.int .i64 0) := (blk_cell BK256.out 0).trans rfl; have hcz63_1 : w62.cell? ⟨gb256, 1, none⟩ = some (.int .i64 0) := (blk_cell BK256.out 1).trans rfl; have hfz63_0 := blk_frozen BK256.out 0; have hfz63_1 := blk_frozen BK256.out 1) | ((with_reducible refine gate_callee (f := 13) rfl ?_); refine goesL_ (some 15) rfl rfl Try.func13 (by kernel_rfl) rfl #[.int .i64 1, .slice none 0 0] rfl argN ?_; (refine (fold_Do.calls k 1 _ _ ([] : List (S23)) t257 t258 t259 _ ?side1 ?side2 A2.out).mono ?_); (case side1 => exact Kd.C_nil _ _); (case side2 => exact Nat.le_refl _); rintro e w64 ⟨rfl, hb⟩; refine ⟨_, rfl, ?_⟩; have n0_ := Aside0.mk (Kd.R_below (by (with_reducible repeat (first | apply Kd.R_alloc | apply Kd.R_drewN | apply Kd.R_drew)); exact (Kd.R_mono (Kd.R_far (p := ⟨gb256, 1, none⟩) (Kd.R_far (p := ⟨gb256, 0, none⟩) (Kd.R_mono HO252.out (fun k_ hk => (⟨hk, hk.2⟩ : _ ∧ k_ ≠ gb256))) (fun _ hk => hk.2) (.int .i64 t253)) (fun _ hk => hk.2) (.int .i64 t254)) (fun _ h_ => h_.1))) hb); have n1_ := Aside0.mk (blk_below (g := gb256) (o := .cells #[.int .i64 t253, .int .i64 t254] 23 (0, 0)) (by (with_reducible repeat (first | refine blk_drewN ?_ _ | refine blk_drew ?_ | refine blk_alloc ?_ _)); refine blk_put (cs := #[.int .i64 t253, .int .i64 0]) ?_ 1 _ rfl; (with_reducible repeat (first | refine blk_drewN ?_ _ | refine blk_drew ?_ | refine blk_alloc ?_ _)); refine blk_put (cs := #[.int .i64 0, .int .i64 0]) ?_ 0 _ rfl; (with_reducible repeat (first | refine blk_drewN ?_ _ | refine blk_drew ?_ | refine blk_alloc ?_ _)); exact BK256.out) hb); have n2_ := Aside0.mk (below_step (belS HB.out) hb); clear HO252; clear BK256; clear HB; have HO252 := n0_; have BK256 := n1_; have HB := n2_; clear n0_ n1_ n2_; (try clear hb); (try clear hk)) | ((with_reducible refine gate_dst (N := 3) rfl ?_); refine box_event ?hg (N := 3) ?hd (cs := #[.int .i64 0, .int .i64 0]) (t := 23) ?hr ?_; (case hd => rfl); (case hg => rfl); (case hr => first | (go_simp; done) | (go_simp; rfl)); intro gb260 hg w65 hbox hb; have n0_ := Aside0.mk (Kd.R_below (Kd.R_elderB (rowN HO252.out) gb260 (Nat.le_of_eq hg.symm)) hb); have n1_ := Aside0.mk (bkB BK256.out hb); have n2_ := Aside0.mk (below_step (belS HB.out) hb); have n3_ := Aside0.mk (hbox); have n4_ := Aside0.mk (szB hg HB.out); have n5_ := Aside0.mk (szB hg HB.out); have n6_ := Aside0.mk ((bk1 hg BK256.out)); have n7_ := Aside0.mk ((bk2 hg BK256.out)); clear HO252; clear BK256; clear HB; have HO252 := n0_; have BK256 := n1_; have HB := n2_; have BK260 := n3_; have GW260 := n4_; have GE260 := n5_; have NB256_260 := n6_; have NB260_256 := n7_; clear n0_ n1_ n2_ n3_ n4_ n5_ n6_ n7_; clear hb hbox hg; have hnb66 := NB260_256.out; have hnc66 := NB256_260.out; have hcz67_0 : w65.cell? ⟨gb260, 0, none⟩ = some (.int .i64 0) := (blk_cell BK260.out 0).trans rfl; have hcz67_1 : w65.cell? ⟨gb260, 1, none⟩ = some (.int .i64 0) := (blk_cell BK260.out 1).trans rfl; have hfz67_0 := blk_frozen BK260.out 0; have hfz67_1 := blk_frozen BK260.out 1) | ((with_reducible refine gate_callee (f := 7) rfl ?_); refine goesL_ (some 19) rfl rfl Try.func7 (by kernel_rfl) rfl #[.string (⟨#[83, 85, 77]⟩ : ByteArray)] rfl argN ?_; (with_reducible refine (fold_Named.calls k (⟨#[83, 85, 77]⟩ : ByteArray) t261 t262 _ A3.out).mono ?_); rintro e w68 ⟨rfl, hb⟩; refine ⟨_, rfl, ?_⟩; have n0_ := Aside0.mk (Kd.R_below (by (with_reducible repeat (first | apply Kd.R_alloc | apply Kd.R_drewN | apply Kd.R_drew)); exact (Kd.R_mono (Kd.R_far (p := ⟨gb260, 1, none⟩) (Kd.R_far (p := ⟨gb260, 0, none⟩) (Kd.R_mono HO252.out (fun k_ hk => (⟨hk, hk.2⟩ : _ ∧ k_ ≠ gb260))) (fun _ hk => hk.2) (.int .i64 t257)) (fun _ hk => hk.2) (.int .i64 t258)) (fun _ h_ => h_.1))) hb); have n1_ := Aside0.mk (bkBF BK256.out hb); have n2_ := Aside0.mk (blk_below (g := gb260) (o := .cells #[.int .i64 t257, .int .i64 t258] 23 (0, 0)) (by (with_reducible repeat (first | refine blk_drewN ?_ _ | refine blk_drew ?_ | refine blk_alloc ?_ _)); refine blk_put (cs := #[.int .i64 t257, .int .i64 0]) ?_ 1 _ rfl; (with_reducible repeat (first | refine blk_drewN ?_ _ | refine blk_drew ?_ | refine blk_alloc ?_ _)); refine blk_put (cs := #[.int .i64 0, .int .i64 0]) ?_ 0 _ rfl; (with_reducible repeat (first | refine blk_drewN ?_ _ | refine blk_drew ?_ | refine blk_alloc ?_ _)); exact BK260.out) hb); have n3_ := Aside0.mk (below_step (belS HB.out) hb); clear HO252; clear BK256; clear BK260; clear HB; have HO252 := n0_; have BK256 := n1_; have BK260 := n2_; have HB := n3_; clear n0_ n1_ n2_ n3_; (try clear hb); (try clear hk)))
  go_ret
  exact ⟨by first | rfl | (simp [errW_none, errW_some] <;> rfl) | (simp [*, errW_none, errW_some] <;> rfl), (belS HB.out)⟩

/-! ### marigraphlaw20_FoldNumbers: function 3 -/
mutual
def marigraphlaw20_FoldNumbers.l0 : Nat → Int → Int → Int → Option (Bool)
 | 0, _, _, _ => none
 | k + 1, x2, x265000, x265001 => if x2 < 10 then ((some (([[], (([(⟨0, 1⟩ : S23)] : List (S23))), (([(⟨1, 2⟩ : S23), (⟨1, 3⟩ : S23), (⟨(-5), 7⟩ : S23)] : List (S23))), (([(⟨x265000, x265001⟩ : S23), (⟨x265000, x265001⟩ : S23)] : List (S23))), (([(⟨x265000, x265001⟩ : S23), (⟨(-5), 1⟩ : S23), (⟨x265000, x265001⟩ : S23)] : List (S23))), (([(⟨1, 2⟩ : S23), (⟨0, 0⟩ : S23)] : List (S23))), (([(⟨1, 2147483647⟩ : S23), (⟨1, 2⟩ : S23)] : List (S23)))] : List (List (S23))) : List (List (S23)))).bind fun y284 => (marigraphlaw20_FoldNumbers.l1 k x2 y284 (y284.length : Int) 0 x265000 x265001)) else ((marigraphlaw20_known.f k).bind fun t265 => (some t265))
def marigraphlaw20_FoldNumbers.l1 : Nat → Int → List (List (S23)) → Int → Int → Int → Int → Option (Bool)
 | 0, _, _, _, _, _, _ => none
 | k + 1, x2, x31, x32, x33, x265000, x265001 => if x33 < x32 then (if 0 ≤ x33 then (if x33 < (x31.length : Int) then ((marigraphlaw20_same.f k x2 (rd_L3 x31 x33)).bind fun t288 => (if t288 = true then (marigraphlaw20_FoldNumbers.l1 k x2 x31 x32 (wrap64 (x33 + 1)) x265000 x265001) else (some false))) else (none)) else (none)) else ((fold_Name.f x2).bind fun t289 => ((fold_Named.f k t289).bind fun bt290 => ((fold_Right.f x2).bind fun t292 => (if (bt290.2 != t292) = true then (some false) else (if bt290.2 = true then (if bt290.1 = x2 then (marigraphlaw20_FoldNumbers.l0 k (wrap64 (x2 + 1)) x265000 x265001) else (some false)) else (if bt290.1 = 0 then (marigraphlaw20_FoldNumbers.l0 k (wrap64 (x2 + 1)) x265000 x265001) else (some false)))))))
end
def marigraphlaw20_FoldNumbers.f (k : Nat)  : Option (Bool) := marigraphlaw20_FoldNumbers.l0 k (-1) 2147483647 1
theorem marigraphlaw20_FoldNumbers.mono_l : ∀ k, (∀ y0 y1 y2, LeO (marigraphlaw20_FoldNumbers.l0 k y0 y1 y2) (marigraphlaw20_FoldNumbers.l0 (k + 1) y0 y1 y2)) ∧ (∀ y0 y1 y2 y3 y4 y5, LeO (marigraphlaw20_FoldNumbers.l1 k y0 y1 y2 y3 y4 y5) (marigraphlaw20_FoldNumbers.l1 (k + 1) y0 y1 y2 y3 y4 y5))
 | 0 => ⟨fun _ _ _ r h => by simp [marigraphlaw20_FoldNumbers.l0] at h, fun _ _ _ _ _ _ r h => by simp [marigraphlaw20_FoldNumbers.l1] at h⟩
 | k + 1 => by
  obtain ⟨ih0, ih1⟩ := marigraphlaw20_FoldNumbers.mono_l k
  refine ⟨?_, ?_⟩
  ·intro y0 y1 y2
   unfold marigraphlaw20_FoldNumbers.l0
   repeat' first
   | (with_reducible exact ih0 _ _ _)
   | (with_reducible exact ih1 _ _ _ _ _ _)
   | (with_reducible exact fold_Named.mono _ _)
   | (with_reducible exact marigraphlaw20_known.mono _)
   | (with_reducible exact marigraphlaw20_same.mono _ _ _)
   | (with_reducible exact LeO.refl _)
   | (with_reducible exact LeO.none _)
   | (with_reducible refine LeO.ite ?_ ?_)
   | (with_reducible refine LeO.bind ?_ (fun _ => ?_))
   | exact ih0 _ _ _
   | exact ih1 _ _ _ _ _ _
   | exact fold_Named.mono _ _
   | exact marigraphlaw20_known.mono _
   | exact marigraphlaw20_same.mono _ _ _
   | exact LeO.none _
   | refine LeO.ite ?_ ?_
   | refine LeO.bind ?_ (fun _ => ?_)
  ·intro y0 y1 y2 y3 y4 y5
   unfold marigraphlaw20_FoldNumbers.l1
   repeat' first
   | (with_reducible exact ih0 _ _ _)
   | (with_reducible exact ih1 _ _ _ _ _ _)
   | (with_reducible exact fold_Named.mono _ _)
   | (with_reducible exact marigraphlaw20_known.mono _)
   | (with_reducible exact marigraphlaw20_same.mono _ _ _)
   | (with_reducible exact LeO.refl _)
   | (with_reducible exact LeO.none _)
   | (with_reducible refine LeO.ite ?_ ?_)
   | (with_reducible refine LeO.bind ?_ (fun _ => ?_))
   | exact ih0 _ _ _
   | exact ih1 _ _ _ _ _ _
   | exact fold_Named.mono _ _
   | exact marigraphlaw20_known.mono _
   | exact marigraphlaw20_same.mono _ _ _
   | exact LeO.none _
   | refine LeO.ite ?_ ?_
   | refine LeO.bind ?_ (fun _ => ?_)
theorem marigraphlaw20_FoldNumbers.mono : ∀ k, LeO (marigraphlaw20_FoldNumbers.f k ) (marigraphlaw20_FoldNumbers.f (k + 1) ) := by
 intro  k
 obtain ⟨ih0, ih1⟩ := marigraphlaw20_FoldNumbers.mono_l k
 unfold marigraphlaw20_FoldNumbers.f
 repeat' first
   | (with_reducible exact ih0 _ _ _)
   | (with_reducible exact ih1 _ _ _ _ _ _)
   | (with_reducible exact fold_Named.mono _ _)
   | (with_reducible exact marigraphlaw20_known.mono _)
   | (with_reducible exact marigraphlaw20_same.mono _ _ _)
   | (with_reducible exact LeO.refl _)
   | (with_reducible exact LeO.none _)
   | (with_reducible refine LeO.ite ?_ ?_)
   | (with_reducible refine LeO.bind ?_ (fun _ => ?_))
   | exact ih0 _ _ _
   | exact ih1 _ _ _ _ _ _
   | exact fold_Named.mono _ _
   | exact marigraphlaw20_known.mono _
   | exact marigraphlaw20_same.mono _ _ _
   | exact LeO.none _
   | refine LeO.ite ?_ ?_
   | refine LeO.bind ?_ (fun _ => ?_)
set_option maxHeartbeats 8000000 in
set_option maxRecDepth 100000 in
theorem marigraphlaw20_FoldNumbers.calls (k : Nat)  (r : Bool) (w : World) (h : marigraphlaw20_FoldNumbers.f k  = some r) :
  Calls Try.prog 3 #[] w fun e w' => e = .returned (.bool r) ∧ Below w.heap.size w w' := by
 have hu23 := Try.underlying23
 have HB := Aside0.mk (Below.refl w.heap.size w)
 have H : (marigraphlaw20_FoldNumbers.l0 k (-1) 2147483647 1) = some r := h
 clear h
 have H' := Aside0.mk H
 clear H
 go_enter Try.func3, Try.ntmps3
 go_wp2_with (first | ((with_reducible refine gate_dst (N := 1) rfl ?_); refine box_event ?hg (N := 1) ?hd (cs := #[.int .i64 0, .int .i64 0]) (t := 23) ?hr ?_; (case hd => rfl); (case hg => rfl); (case hr => first | (go_simp; done) | (go_simp; rfl)); intro gb264 hg w1 hbox hb; have n0_ := Aside0.mk (below_step (belN HB.out) hb); have n1_ := Aside0.mk (hbox); have n2_ := Aside0.mk (szB hg HB.out); have n3_ := Aside0.mk (szB hg HB.out); clear HB; have HB := n0_; have BK264 := n1_; have GW264 := n2_; have GE264 := n3_; clear n0_ n1_ n2_ n3_; clear hb hbox hg; have hcz2_0 : w1.cell? ⟨gb264, 0, none⟩ = some (.int .i64 0) := (blk_cell BK264.out 0).trans rfl; have hcz2_1 : w1.cell? ⟨gb264, 1, none⟩ = some (.int .i64 0) := (blk_cell BK264.out 1).trans rfl; have hfz2_0 := blk_frozen BK264.out 0; have hfz2_1 := blk_frozen BK264.out 1))
 go_loopg [2] k (fun kq v2 w' => ∃ (x2_1 : Int), v2 = .int .i64 x2_1 ∧ Aside0 (marigraphlaw20_FoldNumbers.l0 kq x2_1 2147483647 1 = some r) ∧ Aside0 (kq ≤ k) ∧ Aside0 (w'.heap[gb264]? = some (.cells #[.int .i64 2147483647, .int .i64 1] 23 (0, 0))) ∧ Aside0 (Below w.heap.size w w'))
 case atStart => exact ⟨((-1)), (by first | rfl | (simp; done) | (simp [*]; done)), H', ⟨Nat.le_refl _⟩, ⟨by (with_reducible repeat (first | refine blk_drewN ?_ _ | refine blk_drew ?_ | refine blk_alloc ?_ _)); refine blk_put (cs := #[.int .i64 2147483647, .int .i64 0]) ?_ 1 _ rfl; (with_reducible repeat (first | refine blk_drewN ?_ _ | refine blk_drew ?_ | refine blk_alloc ?_ _)); refine blk_put (cs := #[.int .i64 0, .int .i64 0]) ?_ 0 _ rfl; (with_reducible repeat (first | refine blk_drewN ?_ _ | refine blk_drew ?_ | refine blk_alloc ?_ _)); exact BK264.out⟩, ⟨(belS HB.out)⟩⟩
 case round =>
  clear H'
  try clear p2
  try clear hcz2_0
  try clear hcz2_1
  try clear hfz2_0
  try clear hfz2_1
  obtain ⟨x2_1, rfl, HA, HK1, BK264, HB⟩ := hrel
  cases gk with
  | zero => exact absurd HA.out (by simp [marigraphlaw20_FoldNumbers.l0])
  | succ k1 =>
   have H := HA.out
   clear HA
   simp only [marigraphlaw20_FoldNumbers.l0] at H
   by_cases c3 : x2_1 < 10
   ·rw [if_pos c3] at H
    have c3b0 : decide (x2_1 < 10) = true := decide_eq_true c3
    clear c3
    obtain ⟨y266, hy266⟩ : ∃ y_ : List (S23), y_ = (([(⟨0, 1⟩ : S23)] : List (S23))) := ⟨_, rfl⟩
    replace H : ((some (([[], y266, (([(⟨1, 2⟩ : S23), (⟨1, 3⟩ : S23), (⟨(-5), 7⟩ : S23)] : List (S23))), (([(⟨2147483647, 1⟩ : S23), (⟨2147483647, 1⟩ : S23)] : List (S23))), (([(⟨2147483647, 1⟩ : S23), (⟨(-5), 1⟩ : S23), (⟨2147483647, 1⟩ : S23)] : List (S23))), (([(⟨1, 2⟩ : S23), (⟨0, 0⟩ : S23)] : List (S23))), (([(⟨1, 2147483647⟩ : S23), (⟨1, 2⟩ : S23)] : List (S23)))] : List (List (S23))) : List (List (S23)))).bind fun y284 => (marigraphlaw20_FoldNumbers.l1 k1 x2_1 y284 (y284.length : Int) 0 2147483647 1)) = some r := by first | (rw [hy266]; with_reducible exact H) | (have H2_ := (Option.bind_some _ _).symm.trans H; rw [hy266]; with_reducible exact H2_) | (have H2_ := (Option.bind_some _ _).symm.trans H; with_reducible exact H2_) | with_reducible exact H | (rw [hy266]; exact H) | exact H
    have Ny266 := Aside0.mk hy266
    clear hy266
    obtain ⟨y269, hy269⟩ : ∃ y_ : List (S23), y_ = (([(⟨1, 2⟩ : S23), (⟨1, 3⟩ : S23), (⟨(-5), 7⟩ : S23)] : List (S23))) := ⟨_, rfl⟩
    replace H : ((some (([[], y266, y269, (([(⟨2147483647, 1⟩ : S23), (⟨2147483647, 1⟩ : S23)] : List (S23))), (([(⟨2147483647, 1⟩ : S23), (⟨(-5), 1⟩ : S23), (⟨2147483647, 1⟩ : S23)] : List (S23))), (([(⟨1, 2⟩ : S23), (⟨0, 0⟩ : S23)] : List (S23))), (([(⟨1, 2147483647⟩ : S23), (⟨1, 2⟩ : S23)] : List (S23)))] : List (List (S23))) : List (List (S23)))).bind fun y284 => (marigraphlaw20_FoldNumbers.l1 k1 x2_1 y284 (y284.length : Int) 0 2147483647 1)) = some r := by first | (rw [hy269]; with_reducible exact H) | (have H2_ := (Option.bind_some _ _).symm.trans H; rw [hy269]; with_reducible exact H2_) | (have H2_ := (Option.bind_some _ _).symm.trans H; with_reducible exact H2_) | with_reducible exact H | (rw [hy269]; exact H) | exact H
    have Ny269 := Aside0.mk hy269
    clear hy269
    obtain ⟨y272, hy272⟩ : ∃ y_ : List (S23), y_ = (([(⟨2147483647, 1⟩ : S23), (⟨2147483647, 1⟩ : S23)] : List (S23))) := ⟨_, rfl⟩
    replace H : ((some (([[], y266, y269, y272, (([(⟨2147483647, 1⟩ : S23), (⟨(-5), 1⟩ : S23), (⟨2147483647, 1⟩ : S23)] : List (S23))), (([(⟨1, 2⟩ : S23), (⟨0, 0⟩ : S23)] : List (S23))), (([(⟨1, 2147483647⟩ : S23), (⟨1, 2⟩ : S23)] : List (S23)))] : List (List (S23))) : List (List (S23)))).bind fun y284 => (marigraphlaw20_FoldNumbers.l1 k1 x2_1 y284 (y284.length : Int) 0 2147483647 1)) = some r := by first | (rw [hy272]; with_reducible exact H) | (have H2_ := (Option.bind_some _ _).symm.trans H; rw [hy272]; with_reducible exact H2_) | (have H2_ := (Option.bind_some _ _).symm.trans H; with_reducible exact H2_) | with_reducible exact H | (rw [hy272]; exact H) | exact H
    have Ny272 := Aside0.mk hy272
    clear hy272
    obtain ⟨y275, hy275⟩ : ∃ y_ : List (S23), y_ = (([(⟨2147483647, 1⟩ : S23), (⟨(-5), 1⟩ : S23), (⟨2147483647, 1⟩ : S23)] : List (S23))) := ⟨_, rfl⟩
    replace H : ((some (([[], y266, y269, y272, y275, (([(⟨1, 2⟩ : S23), (⟨0, 0⟩ : S23)] : List (S23))), (([(⟨1, 2147483647⟩ : S23), (⟨1, 2⟩ : S23)] : List (S23)))] : List (List (S23))) : List (List (S23)))).bind fun y284 => (marigraphlaw20_FoldNumbers.l1 k1 x2_1 y284 (y284.length : Int) 0 2147483647 1)) = some r := by first | (rw [hy275]; with_reducible exact H) | (have H2_ := (Option.bind_some _ _).symm.trans H; rw [hy275]; with_reducible exact H2_) | (have H2_ := (Option.bind_some _ _).symm.trans H; with_reducible exact H2_) | with_reducible exact H | (rw [hy275]; exact H) | exact H
    have Ny275 := Aside0.mk hy275
    clear hy275
    obtain ⟨y278, hy278⟩ : ∃ y_ : List (S23), y_ = (([(⟨1, 2⟩ : S23), (⟨0, 0⟩ : S23)] : List (S23))) := ⟨_, rfl⟩
    replace H : ((some (([[], y266, y269, y272, y275, y278, (([(⟨1, 2147483647⟩ : S23), (⟨1, 2⟩ : S23)] : List (S23)))] : List (List (S23))) : List (List (S23)))).bind fun y284 => (marigraphlaw20_FoldNumbers.l1 k1 x2_1 y284 (y284.length : Int) 0 2147483647 1)) = some r := by first | (rw [hy278]; with_reducible exact H) | (have H2_ := (Option.bind_some _ _).symm.trans H; rw [hy278]; with_reducible exact H2_) | (have H2_ := (Option.bind_some _ _).symm.trans H; with_reducible exact H2_) | with_reducible exact H | (rw [hy278]; exact H) | exact H
    have Ny278 := Aside0.mk hy278
    clear hy278
    obtain ⟨y281, hy281⟩ : ∃ y_ : List (S23), y_ = (([(⟨1, 2147483647⟩ : S23), (⟨1, 2⟩ : S23)] : List (S23))) := ⟨_, rfl⟩
    replace H : ((some (([[], y266, y269, y272, y275, y278, y281] : List (List (S23))) : List (List (S23)))).bind fun y284 => (marigraphlaw20_FoldNumbers.l1 k1 x2_1 y284 (y284.length : Int) 0 2147483647 1)) = some r := by first | (rw [hy281]; with_reducible exact H) | (have H2_ := (Option.bind_some _ _).symm.trans H; rw [hy281]; with_reducible exact H2_) | (have H2_ := (Option.bind_some _ _).symm.trans H; with_reducible exact H2_) | with_reducible exact H | (rw [hy281]; exact H) | exact H
    have Ny281 := Aside0.mk hy281
    clear hy281
    obtain ⟨y284, hy284⟩ : ∃ y_ : List (List (S23)), y_ = (([[], y266, y269, y272, y275, y278, y281] : List (List (S23)))) := ⟨_, rfl⟩
    replace H : (marigraphlaw20_FoldNumbers.l1 k1 x2_1 y284 (y284.length : Int) 0 2147483647 1) = some r := by first | (rw [hy284]; with_reducible exact H) | (have H2_ := (Option.bind_some _ _).symm.trans H; rw [hy284]; with_reducible exact H2_) | (have H2_ := (Option.bind_some _ _).symm.trans H; with_reducible exact H2_) | with_reducible exact H | (rw [hy284]; exact H) | exact H
    have Ny284 := Aside0.mk hy284
    clear hy284
    have H' := Aside0.mk H
    clear H
    go_wp2_with (first | ((with_reducible refine gate_dst (N := 13) rfl ?_); refine Kd.R_lit k23 _ 23 ?hg (N := 13) ?hd (xs := ([(⟨0, 1⟩ : S23)] : List (S23))) (inner := [.int .i64 0, .int .i64 1]) (ok := fun _ => True) (okp := fun _ => True) ?hr ?hp (fun _ hk => hk) trivial (Below.refl _ _) (Nat.le_refl _) (by simp) ?_; (case hd => rfl); (case hg => rfl); (case hr => first | (go_simp; done) | (go_simp; rfl)); (case hp => exact (Reps.c2 (show Kd.M k23 _ _ _ (⟨0, 1⟩ : S23) [.int .i64 0, .int .i64 1] from (k23_mkM _ _ _ (⟨0, 1⟩ : S23) )) (Reps.none _ _))); intro v267 w4 ho5 hb hg_ hnew_; clear hg_ hnew_; (first | rw [← Ny266.out] at ho5 | (simp only [Int.reduceToNat] at ho5; rw [← Ny266.out] at ho5)); have n0_ := Aside0.mk (Kd.R_lower (Kd.R_newB ho5 (g := gb264) (o := .cells #[.int .i64 2147483647, .int .i64 1] 23 (0, 0)) (blkN BK264.out)) (below_size (belS HB.out))); have n1_ := Aside0.mk (bkB BK264.out hb); have n2_ := Aside0.mk (below_step (belS HB.out) hb); clear BK264; clear HB; have HO268 := n0_; have BK264 := n1_; have HB := n2_; clear n0_ n1_ n2_; clear hb ho5) | ((with_reducible refine gate_dst (N := 17) rfl ?_); refine Kd.R_lit k23 _ 23 ?hg (N := 17) ?hd (xs := ([(⟨1, 2⟩ : S23), (⟨1, 3⟩ : S23), (⟨(-5), 7⟩ : S23)] : List (S23))) (inner := [.int .i64 1, .int .i64 2, .int .i64 1, .int .i64 3, .int .i64 (-5), .int .i64 7]) (ok := fun _ => True) (okp := fun _ => True) ?hr ?hp (fun _ hk => hk) trivial (Below.refl _ _) (Nat.le_refl _) (by simp) ?_; (case hd => rfl); (case hg => rfl); (case hr => first | (go_simp; done) | (go_simp; rfl)); (case hp => exact (Reps.c2 (show Kd.M k23 _ _ _ (⟨1, 2⟩ : S23) [.int .i64 1, .int .i64 2] from (k23_mkM _ _ _ (⟨1, 2⟩ : S23) )) (Reps.c2 (show Kd.M k23 _ _ _ (⟨1, 3⟩ : S23) [.int .i64 1, .int .i64 3] from (k23_mkM _ _ _ (⟨1, 3⟩ : S23) )) (Reps.c2 (show Kd.M k23 _ _ _ (⟨(-5), 7⟩ : S23) [.int .i64 (-5), .int .i64 7] from (k23_mkM _ _ _ (⟨(-5), 7⟩ : S23) )) (Reps.none _ _))))); intro v270 w6 ho7 hb hg_ hnew_; clear hg_ hnew_; (first | rw [← Ny269.out] at ho7 | (simp only [Int.reduceToNat] at ho7; rw [← Ny269.out] at ho7)); have n0_ := Aside0.mk (Kd.R_elder' (rowN HO268.out) (Kd.R_base ho7) hb); have n1_ := Aside0.mk (Kd.R_lower (Kd.R_newB (Kd.R_new' ho7 (Kd.R_lt (rowN HO268.out))) (g := gb264) (o := .cells #[.int .i64 2147483647, .int .i64 1] 23 (0, 0)) (blkN BK264.out)) (below_size (belS HB.out))); have n2_ := Aside0.mk (bkB BK264.out hb); have n3_ := Aside0.mk (below_step (belS HB.out) hb); clear HO268; clear BK264; clear HB; have HO268 := n0_; have HO271 := n1_; have BK264 := n2_; have HB := n3_; clear n0_ n1_ n2_ n3_; clear hb ho7; have hcz8_0 : w6.cell? ⟨gb264, 0, none⟩ = some (.int .i64 2147483647) := (blk_cell BK264.out 0).trans rfl; have hcz8_1 : w6.cell? ⟨gb264, 1, none⟩ = some (.int .i64 1) := (blk_cell BK264.out 1).trans rfl; have hfz8_0 := blk_frozen BK264.out 0; have hfz8_1 := blk_frozen BK264.out 1) | ((with_reducible refine gate_dst (N := 20) rfl ?_); refine Kd.R_lit k23 _ 23 ?hg (N := 20) ?hd (xs := ([(⟨2147483647, 1⟩ : S23), (⟨2147483647, 1⟩ : S23)] : List (S23))) (inner := [.int .i64 2147483647, .int .i64 1, .int .i64 2147483647, .int .i64 1]) (ok := fun _ => True) (okp := fun _ => True) ?hr ?hp (fun _ hk => hk) trivial (Below.refl _ _) (Nat.le_refl _) (by simp) ?_; (case hd => rfl); (case hg => rfl); (case hr => first | (go_simp; done) | (go_simp; rfl)); (case hp => exact (Reps.c2 (show Kd.M k23 _ _ _ (⟨2147483647, 1⟩ : S23) [.int .i64 2147483647, .int .i64 1] from (k23_mkM _ _ _ (⟨2147483647, 1⟩ : S23) )) (Reps.c2 (show Kd.M k23 _ _ _ (⟨2147483647, 1⟩ : S23) [.int .i64 2147483647, .int .i64 1] from (k23_mkM _ _ _ (⟨2147483647, 1⟩ : S23) )) (Reps.none _ _)))); intro v273 w9 ho10 hb hg_ hnew_; clear hg_ hnew_; (first | rw [← Ny272.out] at ho10 | (simp only [Int.reduceToNat] at ho10; rw [← Ny272.out] at ho10)); have n0_ := Aside0.mk (Kd.R_elder' (rowN HO268.out) (Kd.R_base ho10) hb); have n1_ := Aside0.mk (Kd.R_elder' (rowN HO271.out) (Kd.R_base ho10) hb); have n2_ := Aside0.mk (Kd.R_lower (Kd.R_newB (Kd.R_new' (Kd.R_new' ho10 (Kd.R_lt (rowN HO268.out))) (Kd.R_lt (rowN HO271.out))) (g := gb264) (o := .cells #[.int .i64 2147483647, .int .i64 1] 23 (0, 0)) (blkN BK264.out)) (below_size (belS HB.out))); have n3_ := Aside0.mk (bkB BK264.out hb); have n4_ := Aside0.mk (below_step (belS HB.out) hb); clear HO268; clear HO271; clear BK264; clear HB; have HO268 := n0_; have HO271 := n1_; have HO274 := n2_; have BK264 := n3_; have HB := n4_; clear n0_ n1_ n2_ n3_ n4_; clear hb ho10; have hcz11_0 : w9.cell? ⟨gb264, 0, none⟩ = some (.int .i64 2147483647) := (blk_cell BK264.out 0).trans rfl; have hcz11_1 : w9.cell? ⟨gb264, 1, none⟩ = some (.int .i64 1) := (blk_cell BK264.out 1).trans rfl; have hfz11_0 := blk_frozen BK264.out 0; have hfz11_1 := blk_frozen BK264.out 1) | ((with_reducible refine gate_dst (N := 24) rfl ?_); refine Kd.R_lit k23 _ 23 ?hg (N := 24) ?hd (xs := ([(⟨2147483647, 1⟩ : S23), (⟨(-5), 1⟩ : S23), (⟨2147483647, 1⟩ : S23)] : List (S23))) (inner := [.int .i64 2147483647, .int .i64 1, .int .i64 (-5), .int .i64 1, .int .i64 2147483647, .int .i64 1]) (ok := fun _ => True) (okp := fun _ => True) ?hr ?hp (fun _ hk => hk) trivial (Below.refl _ _) (Nat.le_refl _) (by simp) ?_; (case hd => rfl); (case hg => rfl); (case hr => first | (go_simp; done) | (go_simp; rfl)); (case hp => exact (Reps.c2 (show Kd.M k23 _ _ _ (⟨2147483647, 1⟩ : S23) [.int .i64 2147483647, .int .i64 1] from (k23_mkM _ _ _ (⟨2147483647, 1⟩ : S23) )) (Reps.c2 (show Kd.M k23 _ _ _ (⟨(-5), 1⟩ : S23) [.int .i64 (-5), .int .i64 1] from (k23_mkM _ _ _ (⟨(-5), 1⟩ : S23) )) (Reps.c2 (show Kd.M k23 _ _ _ (⟨2147483647, 1⟩ : S23) [.int .i64 2147483647, .int .i64 1] from (k23_mkM _ _ _ (⟨2147483647, 1⟩ : S23) )) (Reps.none _ _))))); intro v276 w12 ho13 hb hg_ hnew_; clear hg_ hnew_; (first | rw [← Ny275.out] at ho13 | (simp only [Int.reduceToNat] at ho13; rw [← Ny275.out] at ho13)); have n0_ := Aside0.mk (Kd.R_elder' (rowN HO268.out) (Kd.R_base ho13) hb); have n1_ := Aside0.mk (Kd.R_elder' (rowN HO271.out) (Kd.R_base ho13) hb); have n2_ := Aside0.mk (Kd.R_elder' (rowN HO274.out) (Kd.R_base ho13) hb); have n3_ := Aside0.mk (Kd.R_lower (Kd.R_newB (Kd.R_new' (Kd.R_new' (Kd.R_new' ho13 (Kd.R_lt (rowN HO268.out))) (Kd.R_lt (rowN HO271.out))) (Kd.R_lt (rowN HO274.out))) (g := gb264) (o := .cells #[.int .i64 2147483647, .int .i64 1] 23 (0, 0)) (blkN BK264.out)) (below_size (belS HB.out))); have n4_ := Aside0.mk (bkB BK264.out hb); have n5_ := Aside0.mk (below_step (belS HB.out) hb); clear HO268; clear HO271; clear HO274; clear BK264; clear HB; have HO268 := n0_; have HO271 := n1_; have HO274 := n2_; have HO277 := n3_; have BK264 := n4_; have HB := n5_; clear n0_ n1_ n2_ n3_ n4_ n5_; clear hb ho13) | ((with_reducible refine gate_dst (N := 27) rfl ?_); refine Kd.R_lit k23 _ 23 ?hg (N := 27) ?hd (xs := ([(⟨1, 2⟩ : S23), (⟨0, 0⟩ : S23)] : List (S23))) (inner := [.int .i64 1, .int .i64 2, .int .i64 0, .int .i64 0]) (ok := fun _ => True) (okp := fun _ => True) ?hr ?hp (fun _ hk => hk) trivial (Below.refl _ _) (Nat.le_refl _) (by simp) ?_; (case hd => rfl); (case hg => rfl); (case hr => first | (go_simp; done) | (go_simp; rfl)); (case hp => exact (Reps.c2 (show Kd.M k23 _ _ _ (⟨1, 2⟩ : S23) [.int .i64 1, .int .i64 2] from (k23_mkM _ _ _ (⟨1, 2⟩ : S23) )) (Reps.c2 (show Kd.M k23 _ _ _ (⟨0, 0⟩ : S23) [.int .i64 0, .int .i64 0] from (k23_mkM _ _ _ (⟨0, 0⟩ : S23) )) (Reps.none _ _)))); intro v279 w14 ho15 hb hg_ hnew_; clear hg_ hnew_; (first | rw [← Ny278.out] at ho15 | (simp only [Int.reduceToNat] at ho15; rw [← Ny278.out] at ho15)); have n0_ := Aside0.mk (Kd.R_elder' (rowN HO268.out) (Kd.R_base ho15) hb); have n1_ := Aside0.mk (Kd.R_elder' (rowN HO271.out) (Kd.R_base ho15) hb); have n2_ := Aside0.mk (Kd.R_elder' (rowN HO274.out) (Kd.R_base ho15) hb); have n3_ := Aside0.mk (Kd.R_elder' (rowN HO277.out) (Kd.R_base ho15) hb); have n4_ := Aside0.mk (Kd.R_lower (Kd.R_newB (Kd.R_new' (Kd.R_new' (Kd.R_new' (Kd.R_new' ho15 (Kd.R_lt (rowN HO268.out))) (Kd.R_lt (rowN HO271.out))) (Kd.R_lt (rowN HO274.out))) (Kd.R_lt (rowN HO277.out))) (g := gb264) (o := .cells #[.int .i64 2147483647, .int .i64 1] 23 (0, 0)) (blkN BK264.out)) (below_size (belS HB.out))); have n5_ := Aside0.mk (bkB BK264.out hb); have n6_ := Aside0.mk (below_step (belS HB.out) hb); clear HO268; clear HO271; clear HO274; clear HO277; clear BK264; clear HB; have HO268 := n0_; have HO271 := n1_; have HO274 := n2_; have HO277 := n3_; have HO280 := n4_; have BK264 := n5_; have HB := n6_; clear n0_ n1_ n2_ n3_ n4_ n5_ n6_; clear hb ho15) | ((with_reducible refine gate_dst (N := 30) rfl ?_); refine Kd.R_lit k23 _ 23 ?hg (N := 30) ?hd (xs := ([(⟨1, 2147483647⟩ : S23), (⟨1, 2⟩ : S23)] : List (S23))) (inner := [.int .i64 1, .int .i64 2147483647, .int .i64 1, .int .i64 2]) (ok := fun _ => True) (okp := fun _ => True) ?hr ?hp (fun _ hk => hk) trivial (Below.refl _ _) (Nat.le_refl _) (by simp) ?_; (case hd => rfl); (case hg => rfl); (case hr => first | (go_simp; done) | (go_simp; rfl)); (case hp => exact (Reps.c2 (show Kd.M k23 _ _ _ (⟨1, 2147483647⟩ : S23) [.int .i64 1, .int .i64 2147483647] from (k23_mkM _ _ _ (⟨1, 2147483647⟩ : S23) )) (Reps.c2 (show Kd.M k23 _ _ _ (⟨1, 2⟩ : S23) [.int .i64 1, .int .i64 2] from (k23_mkM _ _ _ (⟨1, 2⟩ : S23) )) (Reps.none _ _)))); intro v282 w16 ho17 hb hg_ hnew_; clear hg_ hnew_; (first | rw [← Ny281.out] at ho17 | (simp only [Int.reduceToNat] at ho17; rw [← Ny281.out] at ho17)); have n0_ := Aside0.mk (Kd.R_elder' (rowN HO268.out) (Kd.R_base ho17) hb); have n1_ := Aside0.mk (Kd.R_elder' (rowN HO271.out) (Kd.R_base ho17) hb); have n2_ := Aside0.mk (Kd.R_elder' (rowN HO274.out) (Kd.R_base ho17) hb); have n3_ := Aside0.mk (Kd.R_elder' (rowN HO277.out) (Kd.R_base ho17) hb); have n4_ := Aside0.mk (Kd.R_elder' (rowN HO280.out) (Kd.R_base ho17) hb); have n5_ := Aside0.mk (Kd.R_lower (Kd.R_newB (Kd.R_new' (Kd.R_new' (Kd.R_new' (Kd.R_new' (Kd.R_new' ho17 (Kd.R_lt (rowN HO268.out))) (Kd.R_lt (rowN HO271.out))) (Kd.R_lt (rowN HO274.out))) (Kd.R_lt (rowN HO277.out))) (Kd.R_lt (rowN HO280.out))) (g := gb264) (o := .cells #[.int .i64 2147483647, .int .i64 1] 23 (0, 0)) (blkN BK264.out)) (below_size (belS HB.out))); have n6_ := Aside0.mk (bkB BK264.out hb); have n7_ := Aside0.mk (below_step (belS HB.out) hb); clear HO268; clear HO271; clear HO274; clear HO277; clear HO280; clear BK264; clear HB; have HO268 := n0_; have HO271 := n1_; have HO274 := n2_; have HO277 := n3_; have HO280 := n4_; have HO283 := n5_; have BK264 := n6_; have HB := n7_; clear n0_ n1_ n2_ n3_ n4_ n5_ n6_ n7_; clear hb ho17; obtain ⟨Ao18, co18, eo18⟩ := Kd.R_slice HO268.out; subst eo18; obtain ⟨Ao19, co19, eo19⟩ := Kd.R_slice HO271.out; subst eo19; obtain ⟨Ao20, co20, eo20⟩ := Kd.R_slice HO274.out; subst eo20; obtain ⟨Ao21, co21, eo21⟩ := Kd.R_slice HO277.out; subst eo21; obtain ⟨Ao22, co22, eo22⟩ := Kd.R_slice HO280.out; subst eo22; obtain ⟨Ao23, co23, eo23⟩ := Kd.R_slice HO283.out; subst eo23) | ((with_reducible refine gate_dst (N := 31) rfl ?_); refine Kd.N_lit (Kd.slice 23 k23) _ 24 ?hg (N' := 31) ?hd (xs := ([[], y266, y269, y272, y275, y278, y281] : List (List (S23)))) (inner := [.slice none 0 0, .slice Ao18 y266.length co18, .slice Ao19 y269.length co19, .slice Ao20 y272.length co20, .slice Ao21 y275.length co21, .slice Ao22 y278.length co22, .slice Ao23 y281.length co23]) (ok := (fun k_ => k_ ≠ gb264)) (okp := (fun k_ => k_ ≠ gb264)) ?hr ?hp (fun _ hk => hk) ((show ∀ k_, w16.heap.size ≤ k_ → (fun k_ => k_ ≠ gb264) k_ from fun k_ hk => Kd.freshB (g := gb264) (o := .cells #[.int .i64 2147483647, .int .i64 1] 23 (0, 0)) (blkN BK264.out) k_ hk) _ (Nat.le_refl _)) (Below.refl _ _) (Nat.le_refl _) (by simp) ?_; (case hd => rfl); (case hg => rfl); (case hr => first | (go_simp; done) | (go_simp; rfl)); (case hp => exact (Reps.one (show Kd.FK (Kd.slice 23 k23) _ _ [] [.slice none 0 0] from (Kd.FK_slice_mk (Nat.le_refl _) (Kd.F_nil _ _ _))) (Reps.one (show Kd.FK (Kd.slice 23 k23) _ _ y266 [.slice Ao18 y266.length co18] from (Kd.FK_slice_mk (Kd.R_reads' (Kd.R_mono (ok' := (fun k_ => k_ ≠ gb264)) (HO268.out) (fun k_ hk => hk.1.1.1.1.1.2))).2.1 (Kd.R_F (Kd.R_mono (ok' := (fun k_ => k_ ≠ gb264)) (HO268.out) (fun k_ hk => hk.1.1.1.1.1.2))))) (Reps.one (show Kd.FK (Kd.slice 23 k23) _ _ y269 [.slice Ao19 y269.length co19] from (Kd.FK_slice_mk (Kd.R_reads' (Kd.R_mono (ok' := (fun k_ => k_ ≠ gb264)) (HO271.out) (fun k_ hk => hk.1.1.1.1.2))).2.1 (Kd.R_F (Kd.R_mono (ok' := (fun k_ => k_ ≠ gb264)) (HO271.out) (fun k_ hk => hk.1.1.1.1.2))))) (Reps.one (show Kd.FK (Kd.slice 23 k23) _ _ y272 [.slice Ao20 y272.length co20] from (Kd.FK_slice_mk (Kd.R_reads' (Kd.R_mono (ok' := (fun k_ => k_ ≠ gb264)) (HO274.out) (fun k_ hk => hk.1.1.1.2))).2.1 (Kd.R_F (Kd.R_mono (ok' := (fun k_ => k_ ≠ gb264)) (HO274.out) (fun k_ hk => hk.1.1.1.2))))) (Reps.one (show Kd.FK (Kd.slice 23 k23) _ _ y275 [.slice Ao21 y275.length co21] from (Kd.FK_slice_mk (Kd.R_reads' (Kd.R_mono (ok' := (fun k_ => k_ ≠ gb264)) (HO277.out) (fun k_ hk => hk.1.1.2))).2.1 (Kd.R_F (Kd.R_mono (ok' := (fun k_ => k_ ≠ gb264)) (HO277.out) (fun k_ hk => hk.1.1.2))))) (Reps.one (show Kd.FK (Kd.slice 23 k23) _ _ y278 [.slice Ao22 y278.length co22] from (Kd.FK_slice_mk (Kd.R_reads' (Kd.R_mono (ok' := (fun k_ => k_ ≠ gb264)) (HO280.out) (fun k_ hk => hk.1.2))).2.1 (Kd.R_F (Kd.R_mono (ok' := (fun k_ => k_ ≠ gb264)) (HO280.out) (fun k_ hk => hk.1.2))))) (Reps.one (show Kd.FK (Kd.slice 23 k23) _ _ y281 [.slice Ao23 y281.length co23] from (Kd.FK_slice_mk (Kd.R_reads' (Kd.R_mono (ok' := (fun k_ => k_ ≠ gb264)) (HO283.out) (fun k_ hk => hk.2))).2.1 (Kd.R_F (Kd.R_mono (ok' := (fun k_ => k_ ≠ gb264)) (HO283.out) (fun k_ hk => hk.2))))) (Reps.none _ _))))))))); intro v285 w24 ho25 hb hg_ hnew_; clear hg_ hnew_; (first | rw [← Ny284.out] at ho25 | (simp only [Int.reduceToNat] at ho25; rw [← Ny284.out] at ho25)); have n0_ := Aside0.mk (Kd.N_lower ho25 (below_size (belS HB.out))); have n1_ := Aside0.mk (bkB BK264.out hb); have n2_ := Aside0.mk (below_step (belS HB.out) hb); clear BK264; clear HB; clear HO268; clear HO271; clear HO274; clear HO277; clear HO280; clear HO283; have HO286 := n0_; have BK264 := n1_; have HB := n2_; clear n0_ n1_ n2_; clear hb ho25; obtain ⟨Ao26, co26, eo26⟩ := Kd.N_slice HO286.out; subst eo26))
    go_loopg [33] k1 (fun kq v33 w' => ∃ (x33_2 : Int), v33 = .int .i64 x33_2 ∧ Aside0 (marigraphlaw20_FoldNumbers.l1 kq x2_1 y284 (y284.length : Int) x33_2 2147483647 1 = some r) ∧ Aside0 (kq ≤ k1) ∧ Aside0 (Kd.N (Kd.slice 23 k23) 24 w' w.heap.size (fun k_ => k_ ≠ gb264) (.slice Ao26 y284.length co26) y284) ∧ Aside0 (w'.heap[gb264]? = some (.cells #[.int .i64 2147483647, .int .i64 1] 23 (0, 0))) ∧ Aside0 (Below w.heap.size w w'))
    case atStart => exact ⟨(0), (by first | rfl | (simp; done) | (simp [*]; done)), H', ⟨Nat.le_refl _⟩, ⟨by (with_reducible repeat (first | apply Kd.N_alloc | apply Kd.N_drewN | apply Kd.N_drew)); exact HO286.out⟩, ⟨blkN BK264.out⟩, ⟨(belS HB.out)⟩⟩
    case round =>
     clear H'
     try clear c2
     try clear p2
     try clear c3
     try clear c3b0
     try clear hcz11_0
     try clear hcz11_1
     try clear hcz2_0
     try clear hcz2_1
     try clear hcz8_0
     try clear hcz8_1
     try clear hfz11_0
     try clear hfz11_1
     try clear hfz2_0
     try clear hfz2_1
     try clear hfz8_0
     try clear hfz8_1
     try clear p2
     obtain ⟨x33_2, rfl, HA, HK2, HO_31, BK264, HB⟩ := hrel
     cases gk with
     | zero => exact absurd HA.out (by simp [marigraphlaw20_FoldNumbers.l1])
     | succ k2 =>
      have H := HA.out
      clear HA
      simp only [marigraphlaw20_FoldNumbers.l1] at H
      by_cases c27 : x33_2 < (y284.length : Int)
      ·rw [if_pos c27] at H
       have c27b0 : decide (x33_2 < (y284.length : Int)) = true := decide_eq_true c27
       clear c27
       by_cases c28 : 0 ≤ x33_2
       ·rw [if_pos c28] at H
        have c28b0 : decide (0 ≤ x33_2) = true := decide_eq_true c28
        clear c28
        by_cases c29 : x33_2 < (y284.length : Int)
        ·rw [if_pos c29] at H
         have c29b0 : decide (x33_2 < (y284.length : Int)) = true := decide_eq_true c29
         clear c29
         replace H := Option.bind_eq_some_iff.mp H
         obtain ⟨t288, A300, H⟩ := H
         replace H : (if t288 = true then (marigraphlaw20_FoldNumbers.l1 k2 x2_1 y284 (y284.length : Int) (wrap64 (x33_2 + 1)) 2147483647 1) else (some false)) = some r := H
         have A30 := Aside0.mk A300
         clear A300
         by_cases c31 : t288 = true
         ·subst c31
          have H1 : (marigraphlaw20_FoldNumbers.l1 k2 x2_1 y284 (y284.length : Int) (wrap64 (x33_2 + 1)) 2147483647 1) = some r := by rw [if_pos rfl] at H; exact H
          clear H
          have H := H1
          clear H1
          have H' := Aside0.mk H
          clear H
          have p287 : 0 ≤ (x33_2 : Int) := of_decide_eq_true (by first | (with_reducible assumption) | assumption)
          have q287 : x33_2 < (y284.length : Int) := of_decide_eq_true (by first | (with_reducible assumption) | assumption)
          obtain ⟨ad287, A287_0, c287_0, e287, hx287_0, hl287_0, hi287_0⟩ := at_L3 (Kd.N_reads' HO_31.out).2.2 x33_2 p287 q287
          cases e287
          obtain ⟨ce287, hce287, hMe287, hcc287⟩ := Kd.N_get HO_31.out [] x33_2 p287 (by first | exact q287 | exact of_decide_eq_true (by first | (with_reducible assumption) | assumption) | (have e_ := (Kd.N_reads' HO_31.out).1; omega))
          obtain ⟨ua287_0, uc287_0, rfl, ul287_0, ge287_0⟩ := Kd.FK_slice_open hMe287
          have hv287_0 := hcc287 0 _ rfl
          rw [Nat.add_zero, show ((Kd.slice 23 k23)).sz = 1 from rfl, Nat.mul_one] at hv287_0
          replace hv287_0 := Option.some.inj (hv287_0.symm.trans hx287_0)
          injection hv287_0 with hva_ hvn_ hvc_
          rw [hva_] at ge287_0
          rw [hvc_] at ul287_0
          have HL287_0 := Aside0.mk (show Kd.V k23 23 _ w.heap.size _ _ (rd_L3 y284 x33_2) from Kd.V_mk ul287_0 ge287_0)
          clear hva_ hvn_ hvc_ ge287_0 ul287_0
          clear hcc287 hce287
          have HR287_0 := Aside0.mk hi287_0
          have HC287_0 := Aside0.mk hl287_0
          clear hi287_0 hl287_0
          replace p287 := eq_true p287
          replace q287 := eq_true q287
          go_wp2_with (first | ((with_reducible refine gate_callee (f := 6) rfl ?_); refine goesL_ (some 39) rfl rfl Try.func6 (by kernel_rfl) rfl #[.int .i64 x2_1, .slice A287_0 (rd_L3 y284 x33_2).length c287_0] rfl argN ?_; (with_reducible refine (marigraphlaw20_same.calls k2 x2_1 _ _ (rd_L3 y284 x33_2) true _ ?side1 ?side2 A30.out).mono ?_); (case side1 => repeat (first | exact (by repeat (first | (with_reducible exact HR287_0.out) | (with_reducible refine Kd.C_alloc ?_ _) | (with_reducible refine Kd.C_drewN ?_ _) | (with_reducible refine Kd.C_drew ?_) | exact HR287_0.out)) | (with_reducible refine Kd.C_alloc ?_ _) | (with_reducible refine Kd.C_drewN ?_ _) | (with_reducible refine Kd.C_drew ?_))); (case side2 => exact HC287_0.out); rintro e w32 ⟨rfl, hb⟩; refine ⟨_, rfl, ?_⟩; have n0_ := Aside0.mk (Kd.N_below (by (with_reducible repeat (first | apply Kd.N_alloc | apply Kd.N_drewN | apply Kd.N_drew)); exact HO_31.out) hb); have n1_ := Aside0.mk (Kd.V_below (by (with_reducible repeat (first | apply Kd.V_alloc | apply Kd.V_drewN | apply Kd.V_drew)); exact HL287_0.out) hb); have n2_ := Aside0.mk (bkB BK264.out hb); have n3_ := Aside0.mk (cbN HR287_0.out hb); have n4_ := Aside0.mk (below_step (belS HB.out) hb); clear HO_31; clear HL287_0; clear BK264; clear HR287_0; clear HB; have HO_31 := n0_; have HL287_0 := n1_; have BK264 := n2_; have HR287_0 := n3_; have HB := n4_; clear n0_ n1_ n2_ n3_ n4_; (try clear hb); (try clear hk)))
          go_roundg k2
          case measure => have := HK1.out; have := HK2.out; omega
          case rel => exact ⟨(wrap64 (x33_2 + 1)), (by first | rfl | (simp; done) | (simp [*]; done)), H', ⟨by have := HK1.out; have := HK2.out; omega⟩, ⟨by (with_reducible repeat (first | apply Kd.N_alloc | apply Kd.N_drewN | apply Kd.N_drew)); exact HO_31.out⟩, ⟨blkN BK264.out⟩, ⟨(belS HB.out)⟩⟩
         ·replace c31 := Bool.eq_false_iff.mpr c31
          subst c31
          have H1 : (some false) = some r := by rw [if_neg (show ¬ (false = true) by decide)] at H; exact H
          clear H
          have H := H1
          clear H1
          obtain rfl := Option.some.inj H
          have p287 : 0 ≤ (x33_2 : Int) := of_decide_eq_true (by first | (with_reducible assumption) | assumption)
          have q287 : x33_2 < (y284.length : Int) := of_decide_eq_true (by first | (with_reducible assumption) | assumption)
          obtain ⟨ad287, A287_0, c287_0, e287, hx287_0, hl287_0, hi287_0⟩ := at_L3 (Kd.N_reads' HO_31.out).2.2 x33_2 p287 q287
          cases e287
          obtain ⟨ce287, hce287, hMe287, hcc287⟩ := Kd.N_get HO_31.out [] x33_2 p287 (by first | exact q287 | exact of_decide_eq_true (by first | (with_reducible assumption) | assumption) | (have e_ := (Kd.N_reads' HO_31.out).1; omega))
          obtain ⟨ua287_0, uc287_0, rfl, ul287_0, ge287_0⟩ := Kd.FK_slice_open hMe287
          have hv287_0 := hcc287 0 _ rfl
          rw [Nat.add_zero, show ((Kd.slice 23 k23)).sz = 1 from rfl, Nat.mul_one] at hv287_0
          replace hv287_0 := Option.some.inj (hv287_0.symm.trans hx287_0)
          injection hv287_0 with hva_ hvn_ hvc_
          rw [hva_] at ge287_0
          rw [hvc_] at ul287_0
          have HL287_0 := Aside0.mk (show Kd.V k23 23 _ w.heap.size _ _ (rd_L3 y284 x33_2) from Kd.V_mk ul287_0 ge287_0)
          clear hva_ hvn_ hvc_ ge287_0 ul287_0
          clear hcc287 hce287
          have HR287_0 := Aside0.mk hi287_0
          have HC287_0 := Aside0.mk hl287_0
          clear hi287_0 hl287_0
          replace p287 := eq_true p287
          replace q287 := eq_true q287
          go_wp2_with (first | ((with_reducible refine gate_callee (f := 6) rfl ?_); refine goesL_ (some 39) rfl rfl Try.func6 (by kernel_rfl) rfl #[.int .i64 x2_1, .slice A287_0 (rd_L3 y284 x33_2).length c287_0] rfl argN ?_; (with_reducible refine (marigraphlaw20_same.calls k2 x2_1 _ _ (rd_L3 y284 x33_2) false _ ?side1 ?side2 A30.out).mono ?_); (case side1 => repeat (first | exact (by repeat (first | (with_reducible exact HR287_0.out) | (with_reducible refine Kd.C_alloc ?_ _) | (with_reducible refine Kd.C_drewN ?_ _) | (with_reducible refine Kd.C_drew ?_) | exact HR287_0.out)) | (with_reducible refine Kd.C_alloc ?_ _) | (with_reducible refine Kd.C_drewN ?_ _) | (with_reducible refine Kd.C_drew ?_))); (case side2 => exact HC287_0.out); rintro e w33 ⟨rfl, hb⟩; refine ⟨_, rfl, ?_⟩; have n0_ := Aside0.mk (Kd.N_below (by (with_reducible repeat (first | apply Kd.N_alloc | apply Kd.N_drewN | apply Kd.N_drew)); exact HO_31.out) hb); have n1_ := Aside0.mk (Kd.V_below (by (with_reducible repeat (first | apply Kd.V_alloc | apply Kd.V_drewN | apply Kd.V_drew)); exact HL287_0.out) hb); have n2_ := Aside0.mk (bkB BK264.out hb); have n3_ := Aside0.mk (cbN HR287_0.out hb); have n4_ := Aside0.mk (below_step (belS HB.out) hb); clear HO_31; clear HL287_0; clear BK264; clear HR287_0; clear HB; have HO_31 := n0_; have HL287_0 := n1_; have BK264 := n2_; have HR287_0 := n3_; have HB := n4_; clear n0_ n1_ n2_ n3_ n4_; (try clear hb); (try clear hk)))
          go_ret
          exact ⟨by first | rfl | (simp [errW_none, errW_some] <;> rfl) | (simp [*, errW_none, errW_some] <;> rfl), (belS HB.out)⟩
        ·rw [if_neg c29] at H
         exact absurd H (by simp)
       ·rw [if_neg c28] at H
        exact absurd H (by simp)
      ·rw [if_neg c27] at H
       have c27b0 : decide (x33_2 < (y284.length : Int)) = false := decide_eq_false c27
       clear c27
       replace H := Option.bind_eq_some_iff.mp H
       obtain ⟨t289, A340, H⟩ := H
       replace H : ((fold_Named.f k2 t289).bind fun bt290 => ((fold_Right.f x2_1).bind fun t292 => (if (bt290.2 != t292) = true then (some false) else (if bt290.2 = true then (if bt290.1 = x2_1 then (marigraphlaw20_FoldNumbers.l0 k2 (wrap64 (x2_1 + 1)) 2147483647 1) else (some false)) else (if bt290.1 = 0 then (marigraphlaw20_FoldNumbers.l0 k2 (wrap64 (x2_1 + 1)) 2147483647 1) else (some false)))))) = some r := H
       have A34 := Aside0.mk A340
       clear A340
       replace H := Option.bind_eq_some_iff.mp H
       obtain ⟨⟨t290, t291⟩, A350, H⟩ := H
       replace H : ((fold_Right.f x2_1).bind fun t292 => (if (t291 != t292) = true then (some false) else (if t291 = true then (if t290 = x2_1 then (marigraphlaw20_FoldNumbers.l0 k2 (wrap64 (x2_1 + 1)) 2147483647 1) else (some false)) else (if t290 = 0 then (marigraphlaw20_FoldNumbers.l0 k2 (wrap64 (x2_1 + 1)) 2147483647 1) else (some false))))) = some r := H
       have A35 := Aside0.mk A350
       clear A350
       replace H := Option.bind_eq_some_iff.mp H
       obtain ⟨t292, A360, H⟩ := H
       replace H : (if (t291 != t292) = true then (some false) else (if t291 = true then (if t290 = x2_1 then (marigraphlaw20_FoldNumbers.l0 k2 (wrap64 (x2_1 + 1)) 2147483647 1) else (some false)) else (if t290 = 0 then (marigraphlaw20_FoldNumbers.l0 k2 (wrap64 (x2_1 + 1)) 2147483647 1) else (some false)))) = some r := H
       have A36 := Aside0.mk A360
       clear A360
       by_cases c37 : (t291 != t292) = true
       ·rw [if_pos c37] at H
        have c37b0 : (t291 != t292) = true := c37
        (try (have c37b1 : decide (t291 = t292) = false := by simpa using c37))
        (try (have c37b2 : (t291 == t292) = false := by simpa using c37))
        (try (have c37b3 : ¬ (t291 = t292) := by simpa using c37))
        clear c37
        obtain rfl := Option.some.inj H
        go_wp2_with (first | ((with_reducible refine gate_callee (f := 8) rfl ?_); refine goesL_ (some 44) rfl rfl Try.func8 (by kernel_rfl) rfl #[.int .i64 x2_1] rfl argN ?_; (with_reducible refine (fold_Name.calls x2_1 t289 _ A34.out).mono ?_); rintro e w38 ⟨rfl, hb⟩; refine ⟨_, rfl, ?_⟩; have n0_ := Aside0.mk (Kd.N_below (by (with_reducible repeat (first | apply Kd.N_alloc | apply Kd.N_drewN | apply Kd.N_drew)); exact HO_31.out) hb); have n1_ := Aside0.mk (bkB BK264.out hb); have n2_ := Aside0.mk (below_step (belS HB.out) hb); clear HO_31; clear BK264; clear HB; have HO_31 := n0_; have BK264 := n1_; have HB := n2_; clear n0_ n1_ n2_; (try clear hb); (try clear hk)) | ((with_reducible refine gate_callee (f := 7) rfl ?_); refine goesL_ (some 45) rfl rfl Try.func7 (by kernel_rfl) rfl #[.string t289] rfl argN ?_; (with_reducible refine (fold_Named.calls k2 t289 t290 t291 _ A35.out).mono ?_); rintro e w39 ⟨rfl, hb⟩; refine ⟨_, rfl, ?_⟩; have n0_ := Aside0.mk (Kd.N_below (by (with_reducible repeat (first | apply Kd.N_alloc | apply Kd.N_drewN | apply Kd.N_drew)); exact HO_31.out) hb); have n1_ := Aside0.mk (bkB BK264.out hb); have n2_ := Aside0.mk (below_step (belS HB.out) hb); clear HO_31; clear BK264; clear HB; have HO_31 := n0_; have BK264 := n1_; have HB := n2_; clear n0_ n1_ n2_; (try clear hb); (try clear hk)) | ((with_reducible refine gate_callee (f := 9) rfl ?_); refine goesL_ (some 50) rfl rfl Try.func9 (by kernel_rfl) rfl #[.int .i64 x2_1] rfl argN ?_; (with_reducible refine (fold_Right.calls x2_1 t292 _ A36.out).mono ?_); rintro e w' ⟨rfl, ⟨nd, rfl⟩⟩; refine ⟨_, rfl, ?_⟩))
        go_ret
        exact ⟨by first | rfl | (simp [errW_none, errW_some] <;> rfl) | (simp [*, errW_none, errW_some] <;> rfl), (belS HB.out)⟩
       ·rw [if_neg c37] at H
        have c37b0 : (t291 != t292) = false := by simpa using c37
        (try (have c37b1 : decide (t291 = t292) = true := by simpa using c37))
        (try (have c37b2 : (t291 == t292) = true := by simpa using c37))
        clear c37
        by_cases c40 : t291 = true
        ·subst c40
         have H1 : (if t290 = x2_1 then (marigraphlaw20_FoldNumbers.l0 k2 (wrap64 (x2_1 + 1)) 2147483647 1) else (some false)) = some r := by rw [if_pos rfl] at H; exact H
         clear H
         have H := H1
         clear H1
         by_cases c41 : t290 = x2_1
         ·rw [if_pos c41] at H
          have c41b0 : (t290 == x2_1) = true := beq_iff_eq.mpr c41
          have c41b1 : (t290 != x2_1) = false := bne_eq_false_iff_eq.mpr c41
          clear c41
          have H' := Aside0.mk H
          clear H
          go_wp2_with (first | ((with_reducible refine gate_callee (f := 8) rfl ?_); refine goesL_ (some 44) rfl rfl Try.func8 (by kernel_rfl) rfl #[.int .i64 x2_1] rfl argN ?_; (with_reducible refine (fold_Name.calls x2_1 t289 _ A34.out).mono ?_); rintro e w42 ⟨rfl, hb⟩; refine ⟨_, rfl, ?_⟩; have n0_ := Aside0.mk (Kd.N_below (by (with_reducible repeat (first | apply Kd.N_alloc | apply Kd.N_drewN | apply Kd.N_drew)); exact HO_31.out) hb); have n1_ := Aside0.mk (bkB BK264.out hb); have n2_ := Aside0.mk (below_step (belS HB.out) hb); clear HO_31; clear BK264; clear HB; have HO_31 := n0_; have BK264 := n1_; have HB := n2_; clear n0_ n1_ n2_; (try clear hb); (try clear hk)) | ((with_reducible refine gate_callee (f := 7) rfl ?_); refine goesL_ (some 45) rfl rfl Try.func7 (by kernel_rfl) rfl #[.string t289] rfl argN ?_; (with_reducible refine (fold_Named.calls k2 t289 t290 true _ A35.out).mono ?_); rintro e w43 ⟨rfl, hb⟩; refine ⟨_, rfl, ?_⟩; have n0_ := Aside0.mk (Kd.N_below (by (with_reducible repeat (first | apply Kd.N_alloc | apply Kd.N_drewN | apply Kd.N_drew)); exact HO_31.out) hb); have n1_ := Aside0.mk (bkB BK264.out hb); have n2_ := Aside0.mk (below_step (belS HB.out) hb); clear HO_31; clear BK264; clear HB; have HO_31 := n0_; have BK264 := n1_; have HB := n2_; clear n0_ n1_ n2_; (try clear hb); (try clear hk)) | ((with_reducible refine gate_callee (f := 9) rfl ?_); refine goesL_ (some 50) rfl rfl Try.func9 (by kernel_rfl) rfl #[.int .i64 x2_1] rfl argN ?_; (with_reducible refine (fold_Right.calls x2_1 t292 _ A36.out).mono ?_); rintro e w' ⟨rfl, ⟨nd, rfl⟩⟩; refine ⟨_, rfl, ?_⟩))
          go_roundg k2
          case measure => have := HK1.out; have := HK2.out; omega
          case rel => exact ⟨(wrap64 (x2_1 + 1)), (by first | rfl | (simp; done) | (simp [*]; done)), H', ⟨by have := HK1.out; have := HK2.out; omega⟩, ⟨blkN BK264.out⟩, ⟨(belS HB.out)⟩⟩
         ·rw [if_neg c41] at H
          have c41b0 : (t290 == x2_1) = false := beq_eq_false_iff_ne.mpr c41
          have c41b1 : (t290 != x2_1) = true := bne_iff_ne.mpr c41
          obtain rfl := Option.some.inj H
          go_wp2_with (first | ((with_reducible refine gate_callee (f := 8) rfl ?_); refine goesL_ (some 44) rfl rfl Try.func8 (by kernel_rfl) rfl #[.int .i64 x2_1] rfl argN ?_; (with_reducible refine (fold_Name.calls x2_1 t289 _ A34.out).mono ?_); rintro e w44 ⟨rfl, hb⟩; refine ⟨_, rfl, ?_⟩; have n0_ := Aside0.mk (Kd.N_below (by (with_reducible repeat (first | apply Kd.N_alloc | apply Kd.N_drewN | apply Kd.N_drew)); exact HO_31.out) hb); have n1_ := Aside0.mk (bkB BK264.out hb); have n2_ := Aside0.mk (below_step (belS HB.out) hb); clear HO_31; clear BK264; clear HB; have HO_31 := n0_; have BK264 := n1_; have HB := n2_; clear n0_ n1_ n2_; (try clear hb); (try clear hk)) | ((with_reducible refine gate_callee (f := 7) rfl ?_); refine goesL_ (some 45) rfl rfl Try.func7 (by kernel_rfl) rfl #[.string t289] rfl argN ?_; (with_reducible refine (fold_Named.calls k2 t289 t290 true _ A35.out).mono ?_); rintro e w45 ⟨rfl, hb⟩; refine ⟨_, rfl, ?_⟩; have n0_ := Aside0.mk (Kd.N_below (by (with_reducible repeat (first | apply Kd.N_alloc | apply Kd.N_drewN | apply Kd.N_drew)); exact HO_31.out) hb); have n1_ := Aside0.mk (bkB BK264.out hb); have n2_ := Aside0.mk (below_step (belS HB.out) hb); clear HO_31; clear BK264; clear HB; have HO_31 := n0_; have BK264 := n1_; have HB := n2_; clear n0_ n1_ n2_; (try clear hb); (try clear hk)) | ((with_reducible refine gate_callee (f := 9) rfl ?_); refine goesL_ (some 50) rfl rfl Try.func9 (by kernel_rfl) rfl #[.int .i64 x2_1] rfl argN ?_; (with_reducible refine (fold_Right.calls x2_1 t292 _ A36.out).mono ?_); rintro e w' ⟨rfl, ⟨nd, rfl⟩⟩; refine ⟨_, rfl, ?_⟩))
          go_ret
          exact ⟨by first | rfl | (simp [errW_none, errW_some] <;> rfl) | (simp [*, errW_none, errW_some] <;> rfl), (belS HB.out)⟩
        ·replace c40 := Bool.eq_false_iff.mpr c40
         subst c40
         have H1 : (if t290 = 0 then (marigraphlaw20_FoldNumbers.l0 k2 (wrap64 (x2_1 + 1)) 2147483647 1) else (some false)) = some r := by rw [if_neg (show ¬ (false = true) by decide)] at H; exact H
         clear H
         have H := H1
         clear H1
         by_cases c46 : t290 = 0
         ·rw [if_pos c46] at H
          have c46b0 : (t290 == 0) = true := beq_iff_eq.mpr c46
          have c46b1 : (t290 != 0) = false := bne_eq_false_iff_eq.mpr c46
          clear c46
          have H' := Aside0.mk H
          clear H
          go_wp2_with (first | ((with_reducible refine gate_callee (f := 8) rfl ?_); refine goesL_ (some 44) rfl rfl Try.func8 (by kernel_rfl) rfl #[.int .i64 x2_1] rfl argN ?_; (with_reducible refine (fold_Name.calls x2_1 t289 _ A34.out).mono ?_); rintro e w47 ⟨rfl, hb⟩; refine ⟨_, rfl, ?_⟩; have n0_ := Aside0.mk (Kd.N_below (by (with_reducible repeat (first | apply Kd.N_alloc | apply Kd.N_drewN | apply Kd.N_drew)); exact HO_31.out) hb); have n1_ := Aside0.mk (bkB BK264.out hb); have n2_ := Aside0.mk (below_step (belS HB.out) hb); clear HO_31; clear BK264; clear HB; have HO_31 := n0_; have BK264 := n1_; have HB := n2_; clear n0_ n1_ n2_; (try clear hb); (try clear hk)) | ((with_reducible refine gate_callee (f := 7) rfl ?_); refine goesL_ (some 45) rfl rfl Try.func7 (by kernel_rfl) rfl #[.string t289] rfl argN ?_; (with_reducible refine (fold_Named.calls k2 t289 t290 false _ A35.out).mono ?_); rintro e w48 ⟨rfl, hb⟩; refine ⟨_, rfl, ?_⟩; have n0_ := Aside0.mk (Kd.N_below (by (with_reducible repeat (first | apply Kd.N_alloc | apply Kd.N_drewN | apply Kd.N_drew)); exact HO_31.out) hb); have n1_ := Aside0.mk (bkB BK264.out hb); have n2_ := Aside0.mk (below_step (belS HB.out) hb); clear HO_31; clear BK264; clear HB; have HO_31 := n0_; have BK264 := n1_; have HB := n2_; clear n0_ n1_ n2_; (try clear hb); (try clear hk)) | ((with_reducible refine gate_callee (f := 9) rfl ?_); refine goesL_ (some 50) rfl rfl Try.func9 (by kernel_rfl) rfl #[.int .i64 x2_1] rfl argN ?_; (with_reducible refine (fold_Right.calls x2_1 t292 _ A36.out).mono ?_); rintro e w' ⟨rfl, ⟨nd, rfl⟩⟩; refine ⟨_, rfl, ?_⟩))
          go_roundg k2
          case measure => have := HK1.out; have := HK2.out; omega
          case rel => exact ⟨(wrap64 (x2_1 + 1)), (by first | rfl | (simp; done) | (simp [*]; done)), H', ⟨by have := HK1.out; have := HK2.out; omega⟩, ⟨blkN BK264.out⟩, ⟨(belS HB.out)⟩⟩
         ·rw [if_neg c46] at H
          have c46b0 : (t290 == 0) = false := beq_eq_false_iff_ne.mpr c46
          have c46b1 : (t290 != 0) = true := bne_iff_ne.mpr c46
          obtain rfl := Option.some.inj H
          go_wp2_with (first | ((with_reducible refine gate_callee (f := 8) rfl ?_); refine goesL_ (some 44) rfl rfl Try.func8 (by kernel_rfl) rfl #[.int .i64 x2_1] rfl argN ?_; (with_reducible refine (fold_Name.calls x2_1 t289 _ A34.out).mono ?_); rintro e w49 ⟨rfl, hb⟩; refine ⟨_, rfl, ?_⟩; have n0_ := Aside0.mk (Kd.N_below (by (with_reducible repeat (first | apply Kd.N_alloc | apply Kd.N_drewN | apply Kd.N_drew)); exact HO_31.out) hb); have n1_ := Aside0.mk (bkB BK264.out hb); have n2_ := Aside0.mk (below_step (belS HB.out) hb); clear HO_31; clear BK264; clear HB; have HO_31 := n0_; have BK264 := n1_; have HB := n2_; clear n0_ n1_ n2_; (try clear hb); (try clear hk)) | ((with_reducible refine gate_callee (f := 7) rfl ?_); refine goesL_ (some 45) rfl rfl Try.func7 (by kernel_rfl) rfl #[.string t289] rfl argN ?_; (with_reducible refine (fold_Named.calls k2 t289 t290 false _ A35.out).mono ?_); rintro e w50 ⟨rfl, hb⟩; refine ⟨_, rfl, ?_⟩; have n0_ := Aside0.mk (Kd.N_below (by (with_reducible repeat (first | apply Kd.N_alloc | apply Kd.N_drewN | apply Kd.N_drew)); exact HO_31.out) hb); have n1_ := Aside0.mk (bkB BK264.out hb); have n2_ := Aside0.mk (below_step (belS HB.out) hb); clear HO_31; clear BK264; clear HB; have HO_31 := n0_; have BK264 := n1_; have HB := n2_; clear n0_ n1_ n2_; (try clear hb); (try clear hk)) | ((with_reducible refine gate_callee (f := 9) rfl ?_); refine goesL_ (some 50) rfl rfl Try.func9 (by kernel_rfl) rfl #[.int .i64 x2_1] rfl argN ?_; (with_reducible refine (fold_Right.calls x2_1 t292 _ A36.out).mono ?_); rintro e w' ⟨rfl, ⟨nd, rfl⟩⟩; refine ⟨_, rfl, ?_⟩))
          go_ret
          exact ⟨by first | rfl | (simp [errW_none, errW_some] <;> rfl) | (simp [*, errW_none, errW_some] <;> rfl), (belS HB.out)⟩
   ·rw [if_neg c3] at H
    have c3b0 : decide (x2_1 < 10) = false := decide_eq_false c3
    clear c3
    replace H := Option.bind_eq_some_iff.mp H
    obtain ⟨t265, A510, H⟩ := H
    replace H : (some t265) = some r := H
    have A51 := Aside0.mk A510
    clear A510
    obtain rfl := Option.some.inj H
    go_wp2_with (first | ((with_reducible refine gate_callee (f := 10) rfl ?_); refine goesL_ (some 68) rfl rfl Try.func10 (by kernel_rfl) rfl #[] rfl argN ?_; (with_reducible refine (marigraphlaw20_known.calls k1  t265 _ A51.out).mono ?_); rintro e w52 ⟨rfl, hb⟩; refine ⟨_, rfl, ?_⟩; have n0_ := Aside0.mk (bkB BK264.out hb); have n1_ := Aside0.mk (below_step (belS HB.out) hb); clear BK264; clear HB; have BK264 := n0_; have HB := n1_; clear n0_ n1_; (try clear hb); (try clear hk)))
    go_ret
    exact ⟨by first | rfl | (simp [errW_none, errW_some] <;> rfl) | (simp [*, errW_none, errW_some] <;> rfl), (belS HB.out)⟩

/-- THE ONE PURE STATEMENT of marigraphlaw20_FoldNumbers: yours. -/
def marigraphlaw20_FoldNumbers.Pure : Prop := ∃ k, marigraphlaw20_FoldNumbers.f k  = some true
theorem marigraphlaw20_FoldNumbers.walk (P : marigraphlaw20_FoldNumbers.Pure)  (w : World)  :
  Calls Try.prog 3 #[] w fun e w' => e = .returned (.bool true) ∧ Below w.heap.size w w' := by
 obtain ⟨k, h⟩ := P
 refine (marigraphlaw20_FoldNumbers.calls k  true w h).mono ?_
 rintro e w' ⟨rfl, hd⟩
 exact ⟨rfl, hd⟩

end Go.Proofs.Ytncieaeooiilpaa.PFoldNumbers

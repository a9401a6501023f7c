/- The walk of the Go functions that a law reaches, told as plain functions; a program of this session has written it. No condition beyond the statement's own. -/
import Derived.Test.YtjlbgbiceafdjaaPOctetNumbersx0
import Derived.Test.YtjlbgbiceafdjaaPOctetNumbersx1
import Derived.Test.YtjlbgbiceafdjaaPOctetNumbersx2
import Derived.Test.YtjlbgbiceafdjaaPOctetNumbersx3
namespace Go.Proofs.Ytjlbgbiceafdjaa.POctetNumbers
open Go.RowKit Go.Proofs.YtjlbgbiceafdjaaW.PrintWords Go.Proofs.YtjlbgbiceafdjaaW.PrintLast Go.Proofs.YtjlbgbiceafdjaaW.PrintMore
attribute [local go_sem] max2_int min2_int max_two min_two max_three min_three max_four min_four   -- for this text's walks alone
set_option linter.unusedVariables false
set_option linter.unusedSimpArgs false

/-! ### marigraphlaw2_OctetNumbers: function 3 -/
mutual
def marigraphlaw2_OctetNumbers.l0 : Nat → Int → Option (Bool)
 | 0, _ => none
 | k + 1, x1 => if x1 < 11 then ((marigraphlaw2_lays.f k (([1, 2, 3, 4, 5, 6, 7, 8, 9] : List Int)) 9223372036854776066 x1).bind fun t196 => (if t196 = true then ((marigraphlaw2_lays.f k (([255] : List Int)) 0 x1).bind fun t200 => (if t200 = true then (marigraphlaw2_OctetNumbers.l0 k (wrap64 (x1 + 1))) else (some false))) else (some false))) else (marigraphlaw2_OctetNumbers.l1 k (([[], (([0] : List Int)), (([255] : List Int)), (([255, 255] : List Int)), (([1, 255, 255] : List Int)), (([1] : List Int)), (([1, 0] : List Int)), (([1, 1] : List Int)), (([97, 98] : List Int)), (([97, 98, 99] : List Int))] : List (List Int))) 0)
def marigraphlaw2_OctetNumbers.l1 : Nat → List (List Int) → Int → Option (Bool)
 | 0, _, _ => none
 | k + 1, x2, x3 => if x3 < (x2.length : Int) then (marigraphlaw2_OctetNumbers.l2 k x2 x3 0) else ((marigraphlaw2_known.f k).bind fun t231 => (some t231))
def marigraphlaw2_OctetNumbers.l2 : Nat → List (List Int) → Int → Int → Option (Bool)
 | 0, _, _, _ => none
 | k + 1, x2, x3, x4 => if x4 < (x2.length : Int) then (if 0 ≤ x3 then (if x3 < (x2.length : Int) then (if 0 ≤ x4 then ((marigraphlaw2_order.f k (rd_L1 x2 x3) (rd_L1 x2 x4)).bind fun t234 => (if t234 = true then (marigraphlaw2_OctetNumbers.l2 k x2 x3 (wrap64 (x4 + 1))) else (some false))) else (none)) else (none)) else (none)) else (marigraphlaw2_OctetNumbers.l1 k x2 (wrap64 (x3 + 1)))
end
def marigraphlaw2_OctetNumbers.f (k : Nat)  : Option (Bool) := marigraphlaw2_OctetNumbers.l0 k (-2)
theorem marigraphlaw2_OctetNumbers.mono_l : ∀ k, (∀ y0, LeO (marigraphlaw2_OctetNumbers.l0 k y0) (marigraphlaw2_OctetNumbers.l0 (k + 1) y0)) ∧ (∀ y0 y1, LeO (marigraphlaw2_OctetNumbers.l1 k y0 y1) (marigraphlaw2_OctetNumbers.l1 (k + 1) y0 y1)) ∧ (∀ y0 y1 y2, LeO (marigraphlaw2_OctetNumbers.l2 k y0 y1 y2) (marigraphlaw2_OctetNumbers.l2 (k + 1) y0 y1 y2))
 | 0 => ⟨fun _ r h => by simp [marigraphlaw2_OctetNumbers.l0] at h, fun _ _ r h => by simp [marigraphlaw2_OctetNumbers.l1] at h, fun _ _ _ r h => by simp [marigraphlaw2_OctetNumbers.l2] at h⟩
 | k + 1 => by
  obtain ⟨ih0, ih1, ih2⟩ := marigraphlaw2_OctetNumbers.mono_l k
  refine ⟨?_, ?_, ?_⟩
  ·intro y0
   unfold marigraphlaw2_OctetNumbers.l0
   repeat' first
   | (with_reducible exact ih0 _)
   | (with_reducible exact ih1 _ _)
   | (with_reducible exact ih2 _ _ _)
   | (with_reducible exact marigraphlaw2_known.mono _)
   | (with_reducible exact marigraphlaw2_lays.mono _ _ _ _)
   | (with_reducible exact marigraphlaw2_order.mono _ _ _)
   | (with_reducible exact LeO.refl _)
   | (with_reducible exact LeO.none _)
   | (with_reducible refine LeO.ite ?_ ?_)
   | (with_reducible refine LeO.bind ?_ (fun _ => ?_))
   | exact ih0 _
   | exact ih1 _ _
   | exact ih2 _ _ _
   | exact marigraphlaw2_known.mono _
   | exact marigraphlaw2_lays.mono _ _ _ _
   | exact marigraphlaw2_order.mono _ _ _
   | exact LeO.none _
   | refine LeO.ite ?_ ?_
   | refine LeO.bind ?_ (fun _ => ?_)
  ·intro y0 y1
   unfold marigraphlaw2_OctetNumbers.l1
   repeat' first
   | (with_reducible exact ih0 _)
   | (with_reducible exact ih1 _ _)
   | (with_reducible exact ih2 _ _ _)
   | (with_reducible exact marigraphlaw2_known.mono _)
   | (with_reducible exact marigraphlaw2_lays.mono _ _ _ _)
   | (with_reducible exact marigraphlaw2_order.mono _ _ _)
   | (with_reducible exact LeO.refl _)
   | (with_reducible exact LeO.none _)
   | (with_reducible refine LeO.ite ?_ ?_)
   | (with_reducible refine LeO.bind ?_ (fun _ => ?_))
   | exact ih0 _
   | exact ih1 _ _
   | exact ih2 _ _ _
   | exact marigraphlaw2_known.mono _
   | exact marigraphlaw2_lays.mono _ _ _ _
   | exact marigraphlaw2_order.mono _ _ _
   | exact LeO.none _
   | refine LeO.ite ?_ ?_
   | refine LeO.bind ?_ (fun _ => ?_)
  ·intro y0 y1 y2
   unfold marigraphlaw2_OctetNumbers.l2
   repeat' first
   | (with_reducible exact ih0 _)
   | (with_reducible exact ih1 _ _)
   | (with_reducible exact ih2 _ _ _)
   | (with_reducible exact marigraphlaw2_known.mono _)
   | (with_reducible exact marigraphlaw2_lays.mono _ _ _ _)
   | (with_reducible exact marigraphlaw2_order.mono _ _ _)
   | (with_reducible exact LeO.refl _)
   | (with_reducible exact LeO.none _)
   | (with_reducible refine LeO.ite ?_ ?_)
   | (with_reducible refine LeO.bind ?_ (fun _ => ?_))
   | exact ih0 _
   | exact ih1 _ _
   | exact ih2 _ _ _
   | exact marigraphlaw2_known.mono _
   | exact marigraphlaw2_lays.mono _ _ _ _
   | exact marigraphlaw2_order.mono _ _ _
   | exact LeO.none _
   | refine LeO.ite ?_ ?_
   | refine LeO.bind ?_ (fun _ => ?_)
theorem marigraphlaw2_OctetNumbers.mono : ∀ k, LeO (marigraphlaw2_OctetNumbers.f k ) (marigraphlaw2_OctetNumbers.f (k + 1) ) := by
 intro  k
 obtain ⟨ih0, ih1, ih2⟩ := marigraphlaw2_OctetNumbers.mono_l k
 unfold marigraphlaw2_OctetNumbers.f
 repeat' first
   | (with_reducible exact ih0 _)
   | (with_reducible exact ih1 _ _)
   | (with_reducible exact ih2 _ _ _)
   | (with_reducible exact marigraphlaw2_known.mono _)
   | (with_reducible exact marigraphlaw2_lays.mono _ _ _ _)
   | (with_reducible exact marigraphlaw2_order.mono _ _ _)
   | (with_reducible exact LeO.refl _)
   | (with_reducible exact LeO.none _)
   | (with_reducible refine LeO.ite ?_ ?_)
   | (with_reducible refine LeO.bind ?_ (fun _ => ?_))
   | exact ih0 _
   | exact ih1 _ _
   | exact ih2 _ _ _
   | exact marigraphlaw2_known.mono _
   | exact marigraphlaw2_lays.mono _ _ _ _
   | exact marigraphlaw2_order.mono _ _ _
   | exact LeO.none _
   | refine LeO.ite ?_ ?_
   | refine LeO.bind ?_ (fun _ => ?_)
def marigraphlaw2_OctetNumbers.T13 : Bool × List (List Nat × List Nat) := (true, [([], []), ([], []), ([0, 1], [0, 1]), ([2], [2]), ([], []), ([], []), ([4, 5], [4, 5]), ([6], [6]), ([3, 7], [3, 7]), ([8], [8])])
def marigraphlaw2_OctetNumbers.B13 : List Nat := [0, 0, 3, 7, 0, 0, 48, 112, 255, 511]
theorem marigraphlaw2_OctetNumbers.tab13 : rtab .any (opsOf Try.f3 13) = marigraphlaw2_OctetNumbers.T13 := by kernel_rfl
theorem marigraphlaw2_OctetNumbers.bits13 : waitsOk marigraphlaw2_OctetNumbers.T13.2 marigraphlaw2_OctetNumbers.B13 = true := by kernel_rfl
set_option maxHeartbeats 8000000 in
set_option maxRecDepth 100000 in
theorem marigraphlaw2_OctetNumbers.calls (k : Nat)  (r : Bool) (w : World) (h : marigraphlaw2_OctetNumbers.f k  = some r) :
  Calls Try.prog 3 #[] w fun e w' => e = .returned (.bool r) ∧ Below w.heap.size w w' := by
 have HB := Aside0.mk (Below.refl w.heap.size w)
 have H : (marigraphlaw2_OctetNumbers.l0 k (-2)) = some r := h
 clear h
 have H' := Aside0.mk H
 clear H
 go_enter Try.func3, Try.ntmps3
 go_wp2
 go_loopg [1] k (fun kq v1 w' => ∃ (x1_1 : Int), v1 = .int .i64 x1_1 ∧ Aside0 (marigraphlaw2_OctetNumbers.l0 kq x1_1 = some r) ∧ Aside0 (kq ≤ k) ∧ Aside0 (Below w.heap.size w w'))
 case atStart => exact ⟨((-2)), (by first | rfl | (simp; done) | (simp [*]; done)), H', ⟨Nat.le_refl _⟩, ⟨(belN HB.out)⟩⟩
 case round =>
  clear H'
  obtain ⟨x1_1, rfl, HA, HK1, HB⟩ := hrel
  cases gk with
  | zero => exact absurd HA.out (by simp [marigraphlaw2_OctetNumbers.l0])
  | succ k1 =>
   have H := HA.out
   clear HA
   simp only [marigraphlaw2_OctetNumbers.l0] at H
   by_cases c1 : x1_1 < 11
   ·rw [if_pos c1] at H
    have c1b0 : decide (x1_1 < 11) = true := decide_eq_true c1
    clear c1
    obtain ⟨y193, hy193⟩ : ∃ y_ : List Int, y_ = (([1, 2, 3, 4, 5, 6, 7, 8, 9] : List Int)) := ⟨_, rfl⟩
    replace H : ((marigraphlaw2_lays.f k1 y193 9223372036854776066 x1_1).bind fun t196 => (if t196 = true then ((marigraphlaw2_lays.f k1 (([255] : List Int)) 0 x1_1).bind fun t200 => (if t200 = true then (marigraphlaw2_OctetNumbers.l0 k1 (wrap64 (x1_1 + 1))) else (some false))) else (some false))) = some r := by first | (rw [hy193]; with_reducible exact H) | (have H2_ := (Option.bind_some _ _).symm.trans H; rw [hy193]; with_reducible exact H2_) | (have H2_ := (Option.bind_some _ _).symm.trans H; with_reducible exact H2_) | with_reducible exact H | (rw [hy193]; exact H) | exact H
    have Ny193 := Aside0.mk hy193
    clear hy193
    replace H := Option.bind_eq_some_iff.mp H
    obtain ⟨t196, A20, H⟩ := H
    replace H : (if t196 = true then ((marigraphlaw2_lays.f k1 (([255] : List Int)) 0 x1_1).bind fun t200 => (if t200 = true then (marigraphlaw2_OctetNumbers.l0 k1 (wrap64 (x1_1 + 1))) else (some false))) else (some false)) = some r := H
    have A2 := Aside0.mk A20
    clear A20
    by_cases c3 : t196 = true
    ·subst c3
     have H1 : ((marigraphlaw2_lays.f k1 (([255] : List Int)) 0 x1_1).bind fun t200 => (if t200 = true then (marigraphlaw2_OctetNumbers.l0 k1 (wrap64 (x1_1 + 1))) else (some false))) = some r := by rw [if_pos rfl] at H; exact H
     clear H
     have H := H1
     clear H1
     obtain ⟨y197, hy197⟩ : ∃ y_ : List Int, y_ = (([255] : List Int)) := ⟨_, rfl⟩
     replace H : ((marigraphlaw2_lays.f k1 y197 0 x1_1).bind fun t200 => (if t200 = true then (marigraphlaw2_OctetNumbers.l0 k1 (wrap64 (x1_1 + 1))) else (some false))) = some r := by first | (rw [hy197]; with_reducible exact H) | (have H2_ := (Option.bind_some _ _).symm.trans H; rw [hy197]; with_reducible exact H2_) | (have H2_ := (Option.bind_some _ _).symm.trans H; with_reducible exact H2_) | with_reducible exact H | (rw [hy197]; exact H) | exact H
     have Ny197 := Aside0.mk hy197
     clear hy197
     replace H := Option.bind_eq_some_iff.mp H
     obtain ⟨t200, A40, H⟩ := H
     replace H : (if t200 = true then (marigraphlaw2_OctetNumbers.l0 k1 (wrap64 (x1_1 + 1))) else (some false)) = some r := H
     have A4 := Aside0.mk A40
     clear A40
     by_cases c5 : t200 = true
     ·subst c5
      have H1 : (marigraphlaw2_OctetNumbers.l0 k1 (wrap64 (x1_1 + 1))) = some r := by rw [if_pos rfl] at H; exact H
      clear H
      have H := H1
      clear H1
      have H' := Aside0.mk H
      clear H
      go_wp2_with (first | ((with_reducible refine gate_dst (N := 9) rfl ?_); (try (refine gate_guard (by rfl) ?_; dsimp only)); refine Kd.R_lit (Kd.int .u8) _ 5 ?hg (N := 9) ?hd (xs := ([1, 2, 3, 4, 5, 6, 7, 8, 9] : List Int)) (inner := [.int .u8 1, .int .u8 2, .int .u8 3, .int .u8 4, .int .u8 5, .int .u8 6, .int .u8 7, .int .u8 8, .int .u8 9]) (ok := fun _ => True) (okp := fun _ => True) ?hr ?hp (fun _ hk => hk) trivial (Below.refl _ _) (Nat.le_refl _) (by simp) ?_; (case hd => rfl); (case hg => rfl); (case hr => first | (go_simp; done) | (go_simp; rfl)); (case hp => exact (Reps.one (show Kd.M (Kd.int .u8) _ _ _ 1 [.int .u8 1] from rfl) (Reps.one (show Kd.M (Kd.int .u8) _ _ _ 2 [.int .u8 2] from rfl) (Reps.one (show Kd.M (Kd.int .u8) _ _ _ 3 [.int .u8 3] from rfl) (Reps.one (show Kd.M (Kd.int .u8) _ _ _ 4 [.int .u8 4] from rfl) (Reps.one (show Kd.M (Kd.int .u8) _ _ _ 5 [.int .u8 5] from rfl) (Reps.one (show Kd.M (Kd.int .u8) _ _ _ 6 [.int .u8 6] from rfl) (Reps.one (show Kd.M (Kd.int .u8) _ _ _ 7 [.int .u8 7] from rfl) (Reps.one (show Kd.M (Kd.int .u8) _ _ _ 8 [.int .u8 8] from rfl) (Reps.one (show Kd.M (Kd.int .u8) _ _ _ 9 [.int .u8 9] from rfl) (Reps.none _ _))))))))))); intro v194 w6 ho7 hb hg_ hnew_; clear hg_ hnew_; (first | rw [← Ny193.out] at ho7 | (simp only [Int.reduceToNat] at ho7; rw [← Ny193.out] at ho7)); have n0_ := Aside0.mk (Kd.R_lower ho7 (below_size (belN HB.out))); have n1_ := Aside0.mk (below_step (belN HB.out) hb); clear HB; have HO195 := n0_; have HB := n1_; clear n0_ n1_; clear hb ho7; obtain ⟨Ao8, co8, eo8⟩ := Kd.R_slice HO195.out; subst eo8) | ((with_reducible refine gate_callee (f := 7) rfl ?_); refine goesL_ (some 11) rfl rfl Try.func7 (by kernel_rfl) rfl #[.slice Ao8 y193.length co8, .int .u64 9223372036854776066, .int .i64 x1_1] rfl argN ?_; (with_reducible refine (marigraphlaw2_lays.calls k1 _ _ y193 9223372036854776066 x1_1 true _ ?side1 ?side2 A2.out).mono ?_); (case side1 => repeat (first | exact (Kd.R_reads' HO195.out).2.2 | (with_reducible refine Kd.C_alloc ?_ _) | (with_reducible refine Kd.C_drewN ?_ _) | (with_reducible refine Kd.C_drew ?_))); (case side2 => exact (Kd.R_reads' HO195.out).2.1); rintro e w9 ⟨rfl, hb⟩; refine ⟨_, rfl, ?_⟩; have n0_ := Aside0.mk (Kd.R_below (rowN HO195.out) hb); have n1_ := Aside0.mk (below_step (belN HB.out) hb); clear HO195; clear HB; have HO195 := n0_; have HB := n1_; clear n0_ n1_; (try clear hb); (try clear hk)) | ((with_reducible refine gate_dst (N := 14) rfl ?_); (try (refine gate_guard (by rfl) ?_; dsimp only)); refine Kd.R_lit (Kd.int .u8) _ 5 ?hg (N := 14) ?hd (xs := ([255] : List Int)) (inner := [.int .u8 255]) (ok := fun _ => True) (okp := fun _ => True) ?hr ?hp (fun _ hk => hk) trivial (Below.refl _ _) (Nat.le_refl _) (by simp) ?_; (case hd => rfl); (case hg => rfl); (case hr => first | (go_simp; done) | (go_simp; rfl)); (case hp => exact (Reps.one (show Kd.M (Kd.int .u8) _ _ _ 255 [.int .u8 255] from rfl) (Reps.none _ _))); intro v198 w10 ho11 hb hg_ hnew_; clear hg_ hnew_; (first | rw [← Ny197.out] at ho11 | (simp only [Int.reduceToNat] at ho11; rw [← Ny197.out] at ho11)); have n0_ := Aside0.mk (Kd.R_elder' (rowN HO195.out) (Kd.R_base ho11) hb); have n1_ := Aside0.mk (Kd.R_lower (Kd.R_new' ho11 (Kd.R_lt (rowN HO195.out))) (below_size (belN HB.out))); have n2_ := Aside0.mk (below_step (belN HB.out) hb); clear HO195; clear HB; have HO195 := n0_; have HO199 := n1_; have HB := n2_; clear n0_ n1_ n2_; clear hb ho11; obtain ⟨Ao12, co12, eo12⟩ := Kd.R_slice HO199.out; subst eo12) | (go_at_call 7; (with_reducible refine (marigraphlaw2_lays.calls k1 _ _ y197 0 x1_1 true _ ?side1 ?side2 A4.out).mono ?_); (case side1 => repeat (first | exact (Kd.R_reads' HO199.out).2.2 | (with_reducible refine Kd.C_alloc ?_ _) | (with_reducible refine Kd.C_drewN ?_ _) | (with_reducible refine Kd.C_drew ?_))); (case side2 => exact (Kd.R_reads' HO199.out).2.1); rintro e w13 ⟨rfl, hb⟩; have n0_ := Aside0.mk (Kd.R_below (rowN HO195.out) hb); have n1_ := Aside0.mk (Kd.R_below (rowN HO199.out) hb); have n2_ := Aside0.mk (below_step (belN HB.out) hb); clear HO195; clear HO199; clear HB; have HO195 := n0_; have HO199 := n1_; have HB := n2_; clear n0_ n1_ n2_; (try clear hb); (try clear hk)))
      go_roundg k1
      case measure => have := HK1.out; omega
      case rel => exact ⟨(wrap64 (x1_1 + 1)), (by first | rfl | (simp; done) | (simp [*]; done)), H', ⟨by have := HK1.out; omega⟩, ⟨(belN HB.out)⟩⟩
     ·replace c5 := Bool.eq_false_iff.mpr c5
      subst c5
      have H1 : (some false) = some r := by rw [if_neg (show ¬ (false = true) by decide)] at H; exact H
      clear H
      have H := H1
      clear H1
      obtain rfl := Option.some.inj H
      go_wp2_with (first | ((with_reducible refine gate_dst (N := 9) rfl ?_); (try (refine gate_guard (by rfl) ?_; dsimp only)); refine Kd.R_lit (Kd.int .u8) _ 5 ?hg (N := 9) ?hd (xs := ([1, 2, 3, 4, 5, 6, 7, 8, 9] : List Int)) (inner := [.int .u8 1, .int .u8 2, .int .u8 3, .int .u8 4, .int .u8 5, .int .u8 6, .int .u8 7, .int .u8 8, .int .u8 9]) (ok := fun _ => True) (okp := fun _ => True) ?hr ?hp (fun _ hk => hk) trivial (Below.refl _ _) (Nat.le_refl _) (by simp) ?_; (case hd => rfl); (case hg => rfl); (case hr => first | (go_simp; done) | (go_simp; rfl)); (case hp => exact (Reps.one (show Kd.M (Kd.int .u8) _ _ _ 1 [.int .u8 1] from rfl) (Reps.one (show Kd.M (Kd.int .u8) _ _ _ 2 [.int .u8 2] from rfl) (Reps.one (show Kd.M (Kd.int .u8) _ _ _ 3 [.int .u8 3] from rfl) (Reps.one (show Kd.M (Kd.int .u8) _ _ _ 4 [.int .u8 4] from rfl) (Reps.one (show Kd.M (Kd.int .u8) _ _ _ 5 [.int .u8 5] from rfl) (Reps.one (show Kd.M (Kd.int .u8) _ _ _ 6 [.int .u8 6] from rfl) (Reps.one (show Kd.M (Kd.int .u8) _ _ _ 7 [.int .u8 7] from rfl) (Reps.one (show Kd.M (Kd.int .u8) _ _ _ 8 [.int .u8 8] from rfl) (Reps.one (show Kd.M (Kd.int .u8) _ _ _ 9 [.int .u8 9] from rfl) (Reps.none _ _))))))))))); intro v194 w14 ho15 hb hg_ hnew_; clear hg_ hnew_; (first | rw [← Ny193.out] at ho15 | (simp only [Int.reduceToNat] at ho15; rw [← Ny193.out] at ho15)); have n0_ := Aside0.mk (Kd.R_lower ho15 (below_size (belN HB.out))); have n1_ := Aside0.mk (below_step (belN HB.out) hb); clear HB; have HO195 := n0_; have HB := n1_; clear n0_ n1_; clear hb ho15; obtain ⟨Ao16, co16, eo16⟩ := Kd.R_slice HO195.out; subst eo16) | ((with_reducible refine gate_callee (f := 7) rfl ?_); refine goesL_ (some 11) rfl rfl Try.func7 (by kernel_rfl) rfl #[.slice Ao16 y193.length co16, .int .u64 9223372036854776066, .int .i64 x1_1] rfl argN ?_; (with_reducible refine (marigraphlaw2_lays.calls k1 _ _ y193 9223372036854776066 x1_1 true _ ?side1 ?side2 A2.out).mono ?_); (case side1 => repeat (first | exact (Kd.R_reads' HO195.out).2.2 | (with_reducible refine Kd.C_alloc ?_ _) | (with_reducible refine Kd.C_drewN ?_ _) | (with_reducible refine Kd.C_drew ?_))); (case side2 => exact (Kd.R_reads' HO195.out).2.1); rintro e w17 ⟨rfl, hb⟩; refine ⟨_, rfl, ?_⟩; have n0_ := Aside0.mk (Kd.R_below (rowN HO195.out) hb); have n1_ := Aside0.mk (below_step (belN HB.out) hb); clear HO195; clear HB; have HO195 := n0_; have HB := n1_; clear n0_ n1_; (try clear hb); (try clear hk)) | ((with_reducible refine gate_dst (N := 14) rfl ?_); (try (refine gate_guard (by rfl) ?_; dsimp only)); refine Kd.R_lit (Kd.int .u8) _ 5 ?hg (N := 14) ?hd (xs := ([255] : List Int)) (inner := [.int .u8 255]) (ok := fun _ => True) (okp := fun _ => True) ?hr ?hp (fun _ hk => hk) trivial (Below.refl _ _) (Nat.le_refl _) (by simp) ?_; (case hd => rfl); (case hg => rfl); (case hr => first | (go_simp; done) | (go_simp; rfl)); (case hp => exact (Reps.one (show Kd.M (Kd.int .u8) _ _ _ 255 [.int .u8 255] from rfl) (Reps.none _ _))); intro v198 w18 ho19 hb hg_ hnew_; clear hg_ hnew_; (first | rw [← Ny197.out] at ho19 | (simp only [Int.reduceToNat] at ho19; rw [← Ny197.out] at ho19)); have n0_ := Aside0.mk (Kd.R_elder' (rowN HO195.out) (Kd.R_base ho19) hb); have n1_ := Aside0.mk (Kd.R_lower (Kd.R_new' ho19 (Kd.R_lt (rowN HO195.out))) (below_size (belN HB.out))); have n2_ := Aside0.mk (below_step (belN HB.out) hb); clear HO195; clear HB; have HO195 := n0_; have HO199 := n1_; have HB := n2_; clear n0_ n1_ n2_; clear hb ho19; obtain ⟨Ao20, co20, eo20⟩ := Kd.R_slice HO199.out; subst eo20) | (go_at_call 7; (with_reducible refine (marigraphlaw2_lays.calls k1 _ _ y197 0 x1_1 false _ ?side1 ?side2 A4.out).mono ?_); (case side1 => repeat (first | exact (Kd.R_reads' HO199.out).2.2 | (with_reducible refine Kd.C_alloc ?_ _) | (with_reducible refine Kd.C_drewN ?_ _) | (with_reducible refine Kd.C_drew ?_))); (case side2 => exact (Kd.R_reads' HO199.out).2.1); rintro e w21 ⟨rfl, hb⟩; have n0_ := Aside0.mk (Kd.R_below (rowN HO195.out) hb); have n1_ := Aside0.mk (Kd.R_below (rowN HO199.out) hb); have n2_ := Aside0.mk (below_step (belN HB.out) hb); clear HO195; clear HO199; clear HB; have HO195 := n0_; have HO199 := n1_; have HB := n2_; clear n0_ n1_ n2_; (try clear hb); (try clear hk)))
      go_ret
      exact ⟨by first | rfl | (simp [errW_none, errW_some] <;> rfl) | (simp [*, errW_none, errW_some] <;> rfl), (belN HB.out)⟩
    ·replace c3 := Bool.eq_false_iff.mpr c3
     subst c3
     have H1 : (some false) = some r := by rw [if_neg (show ¬ (false = true) by decide)] at H; exact H
     clear H
     have H := H1
     clear H1
     obtain rfl := Option.some.inj H
     go_wp2_with (first | ((with_reducible refine gate_dst (N := 9) rfl ?_); (try (refine gate_guard (by rfl) ?_; dsimp only)); refine Kd.R_lit (Kd.int .u8) _ 5 ?hg (N := 9) ?hd (xs := ([1, 2, 3, 4, 5, 6, 7, 8, 9] : List Int)) (inner := [.int .u8 1, .int .u8 2, .int .u8 3, .int .u8 4, .int .u8 5, .int .u8 6, .int .u8 7, .int .u8 8, .int .u8 9]) (ok := fun _ => True) (okp := fun _ => True) ?hr ?hp (fun _ hk => hk) trivial (Below.refl _ _) (Nat.le_refl _) (by simp) ?_; (case hd => rfl); (case hg => rfl); (case hr => first | (go_simp; done) | (go_simp; rfl)); (case hp => exact (Reps.one (show Kd.M (Kd.int .u8) _ _ _ 1 [.int .u8 1] from rfl) (Reps.one (show Kd.M (Kd.int .u8) _ _ _ 2 [.int .u8 2] from rfl) (Reps.one (show Kd.M (Kd.int .u8) _ _ _ 3 [.int .u8 3] from rfl) (Reps.one (show Kd.M (Kd.int .u8) _ _ _ 4 [.int .u8 4] from rfl) (Reps.one (show Kd.M (Kd.int .u8) _ _ _ 5 [.int .u8 5] from rfl) (Reps.one (show Kd.M (Kd.int .u8) _ _ _ 6 [.int .u8 6] from rfl) (Reps.one (show Kd.M (Kd.int .u8) _ _ _ 7 [.int .u8 7] from rfl) (Reps.one (show Kd.M (Kd.int .u8) _ _ _ 8 [.int .u8 8] from rfl) (Reps.one (show Kd.M (Kd.int .u8) _ _ _ 9 [.int .u8 9] from rfl) (Reps.none _ _))))))))))); intro v194 w22 ho23 hb hg_ hnew_; clear hg_ hnew_; (first | rw [← Ny193.out] at ho23 | (simp only [Int.reduceToNat] at ho23; rw [← Ny193.out] at ho23)); have n0_ := Aside0.mk (Kd.R_lower ho23 (below_size (belN HB.out))); have n1_ := Aside0.mk (below_step (belN HB.out) hb); clear HB; have HO195 := n0_; have HB := n1_; clear n0_ n1_; clear hb ho23; obtain ⟨Ao24, co24, eo24⟩ := Kd.R_slice HO195.out; subst eo24) | ((with_reducible refine gate_callee (f := 7) rfl ?_); refine goesL_ (some 11) rfl rfl Try.func7 (by kernel_rfl) rfl #[.slice Ao24 y193.length co24, .int .u64 9223372036854776066, .int .i64 x1_1] rfl argN ?_; (with_reducible refine (marigraphlaw2_lays.calls k1 _ _ y193 9223372036854776066 x1_1 false _ ?side1 ?side2 A2.out).mono ?_); (case side1 => repeat (first | exact (Kd.R_reads' HO195.out).2.2 | (with_reducible refine Kd.C_alloc ?_ _) | (with_reducible refine Kd.C_drewN ?_ _) | (with_reducible refine Kd.C_drew ?_))); (case side2 => exact (Kd.R_reads' HO195.out).2.1); rintro e w25 ⟨rfl, hb⟩; refine ⟨_, rfl, ?_⟩; have n0_ := Aside0.mk (Kd.R_below (rowN HO195.out) hb); have n1_ := Aside0.mk (below_step (belN HB.out) hb); clear HO195; clear HB; have HO195 := n0_; have HB := n1_; clear n0_ n1_; (try clear hb); (try clear hk)))
     go_ret
     exact ⟨by first | rfl | (simp [errW_none, errW_some] <;> rfl) | (simp [*, errW_none, errW_some] <;> rfl), (belN HB.out)⟩
   ·rw [if_neg c1] at H
    have c1b0 : decide (x1_1 < 11) = false := decide_eq_false c1
    clear c1
    obtain ⟨y201, hy201⟩ : ∃ y_ : List Int, y_ = (([0] : List Int)) := ⟨_, rfl⟩
    replace H : (marigraphlaw2_OctetNumbers.l1 k1 (([[], y201, (([255] : List Int)), (([255, 255] : List Int)), (([1, 255, 255] : List Int)), (([1] : List Int)), (([1, 0] : List Int)), (([1, 1] : List Int)), (([97, 98] : List Int)), (([97, 98, 99] : List Int))] : List (List Int))) 0) = some r := by first | (rw [hy201]; with_reducible exact H) | (have H2_ := (Option.bind_some _ _).symm.trans H; rw [hy201]; with_reducible exact H2_) | (have H2_ := (Option.bind_some _ _).symm.trans H; with_reducible exact H2_) | with_reducible exact H | (rw [hy201]; exact H) | exact H
    have Ny201 := Aside0.mk hy201
    clear hy201
    obtain ⟨y204, hy204⟩ : ∃ y_ : List Int, y_ = (([255] : List Int)) := ⟨_, rfl⟩
    replace H : (marigraphlaw2_OctetNumbers.l1 k1 (([[], y201, y204, (([255, 255] : List Int)), (([1, 255, 255] : List Int)), (([1] : List Int)), (([1, 0] : List Int)), (([1, 1] : List Int)), (([97, 98] : List Int)), (([97, 98, 99] : List Int))] : List (List Int))) 0) = some r := by first | (rw [hy204]; with_reducible exact H) | (have H2_ := (Option.bind_some _ _).symm.trans H; rw [hy204]; with_reducible exact H2_) | (have H2_ := (Option.bind_some _ _).symm.trans H; with_reducible exact H2_) | with_reducible exact H | (rw [hy204]; exact H) | exact H
    have Ny204 := Aside0.mk hy204
    clear hy204
    obtain ⟨y207, hy207⟩ : ∃ y_ : List Int, y_ = (([255, 255] : List Int)) := ⟨_, rfl⟩
    replace H : (marigraphlaw2_OctetNumbers.l1 k1 (([[], y201, y204, y207, (([1, 255, 255] : List Int)), (([1] : List Int)), (([1, 0] : List Int)), (([1, 1] : List Int)), (([97, 98] : List Int)), (([97, 98, 99] : List Int))] : List (List Int))) 0) = some r := by first | (rw [hy207]; with_reducible exact H) | (have H2_ := (Option.bind_some _ _).symm.trans H; rw [hy207]; with_reducible exact H2_) | (have H2_ := (Option.bind_some _ _).symm.trans H; with_reducible exact H2_) | with_reducible exact H | (rw [hy207]; exact H) | exact H
    have Ny207 := Aside0.mk hy207
    clear hy207
    obtain ⟨y210, hy210⟩ : ∃ y_ : List Int, y_ = (([1, 255, 255] : List Int)) := ⟨_, rfl⟩
    replace H : (marigraphlaw2_OctetNumbers.l1 k1 (([[], y201, y204, y207, y210, (([1] : List Int)), (([1, 0] : List Int)), (([1, 1] : List Int)), (([97, 98] : List Int)), (([97, 98, 99] : List Int))] : List (List Int))) 0) = some r := by first | (rw [hy210]; with_reducible exact H) | (have H2_ := (Option.bind_some _ _).symm.trans H; rw [hy210]; with_reducible exact H2_) | (have H2_ := (Option.bind_some _ _).symm.trans H; with_reducible exact H2_) | with_reducible exact H | (rw [hy210]; exact H) | exact H
    have Ny210 := Aside0.mk hy210
    clear hy210
    obtain ⟨y213, hy213⟩ : ∃ y_ : List Int, y_ = (([1] : List Int)) := ⟨_, rfl⟩
    replace H : (marigraphlaw2_OctetNumbers.l1 k1 (([[], y201, y204, y207, y210, y213, (([1, 0] : List Int)), (([1, 1] : List Int)), (([97, 98] : List Int)), (([97, 98, 99] : List Int))] : List (List Int))) 0) = some r := by first | (rw [hy213]; with_reducible exact H) | (have H2_ := (Option.bind_some _ _).symm.trans H; rw [hy213]; with_reducible exact H2_) | (have H2_ := (Option.bind_some _ _).symm.trans H; with_reducible exact H2_) | with_reducible exact H | (rw [hy213]; exact H) | exact H
    have Ny213 := Aside0.mk hy213
    clear hy213
    obtain ⟨y216, hy216⟩ : ∃ y_ : List Int, y_ = (([1, 0] : List Int)) := ⟨_, rfl⟩
    replace H : (marigraphlaw2_OctetNumbers.l1 k1 (([[], y201, y204, y207, y210, y213, y216, (([1, 1] : List Int)), (([97, 98] : List Int)), (([97, 98, 99] : List Int))] : List (List Int))) 0) = some r := by first | (rw [hy216]; with_reducible exact H) | (have H2_ := (Option.bind_some _ _).symm.trans H; rw [hy216]; with_reducible exact H2_) | (have H2_ := (Option.bind_some _ _).symm.trans H; with_reducible exact H2_) | with_reducible exact H | (rw [hy216]; exact H) | exact H
    have Ny216 := Aside0.mk hy216
    clear hy216
    obtain ⟨y219, hy219⟩ : ∃ y_ : List Int, y_ = (([1, 1] : List Int)) := ⟨_, rfl⟩
    replace H : (marigraphlaw2_OctetNumbers.l1 k1 (([[], y201, y204, y207, y210, y213, y216, y219, (([97, 98] : List Int)), (([97, 98, 99] : List Int))] : List (List Int))) 0) = some r := by first | (rw [hy219]; with_reducible exact H) | (have H2_ := (Option.bind_some _ _).symm.trans H; rw [hy219]; with_reducible exact H2_) | (have H2_ := (Option.bind_some _ _).symm.trans H; with_reducible exact H2_) | with_reducible exact H | (rw [hy219]; exact H) | exact H
    have Ny219 := Aside0.mk hy219
    clear hy219
    obtain ⟨y222, hy222⟩ : ∃ y_ : List Int, y_ = (([97, 98] : List Int)) := ⟨_, rfl⟩
    replace H : (marigraphlaw2_OctetNumbers.l1 k1 (([[], y201, y204, y207, y210, y213, y216, y219, y222, (([97, 98, 99] : List Int))] : List (List Int))) 0) = some r := by first | (rw [hy222]; with_reducible exact H) | (have H2_ := (Option.bind_some _ _).symm.trans H; rw [hy222]; with_reducible exact H2_) | (have H2_ := (Option.bind_some _ _).symm.trans H; with_reducible exact H2_) | with_reducible exact H | (rw [hy222]; exact H) | exact H
    have Ny222 := Aside0.mk hy222
    clear hy222
    obtain ⟨y225, hy225⟩ : ∃ y_ : List Int, y_ = (([97, 98, 99] : List Int)) := ⟨_, rfl⟩
    replace H : (marigraphlaw2_OctetNumbers.l1 k1 (([[], y201, y204, y207, y210, y213, y216, y219, y222, y225] : List (List Int))) 0) = some r := by first | (rw [hy225]; with_reducible exact H) | (have H2_ := (Option.bind_some _ _).symm.trans H; rw [hy225]; with_reducible exact H2_) | (have H2_ := (Option.bind_some _ _).symm.trans H; with_reducible exact H2_) | with_reducible exact H | (rw [hy225]; exact H) | exact H
    have Ny225 := Aside0.mk hy225
    clear hy225
    obtain ⟨y228, hy228⟩ : ∃ y_ : List (List Int), y_ = (([[], y201, y204, y207, y210, y213, y216, y219, y222, y225] : List (List Int))) := ⟨_, rfl⟩
    replace H : (marigraphlaw2_OctetNumbers.l1 k1 y228 0) = some r := by first | (rw [hy228]; with_reducible exact H) | (have H2_ := (Option.bind_some _ _).symm.trans H; rw [hy228]; with_reducible exact H2_) | (have H2_ := (Option.bind_some _ _).symm.trans H; with_reducible exact H2_) | with_reducible exact H | (rw [hy228]; exact H) | exact H
    have Ny228 := Aside0.mk hy228
    clear hy228
    have H' := Aside0.mk H
    clear H
    go_wp2_with (first | ((with_reducible refine gate_dst (N := 19) rfl ?_); (try (refine gate_guard (by rfl) ?_; dsimp only)); refine Kd.R_lit (Kd.int .u8) _ 5 ?hg (N := 19) ?hd (xs := ([0] : List Int)) (inner := [.int .u8 0]) (ok := fun _ => True) (okp := fun _ => True) ?hr ?hp (fun _ hk => hk) trivial (Below.refl _ _) (Nat.le_refl _) (by simp) ?_; (case hd => rfl); (case hg => rfl); (case hr => first | (go_simp; done) | (go_simp; rfl)); (case hp => exact (Reps.one (show Kd.M (Kd.int .u8) _ _ _ 0 [.int .u8 0] from rfl) (Reps.none _ _))); intro v202 w26 ho27 hb hg_ hnew_; clear hg_ hnew_; (first | rw [← Ny201.out] at ho27 | (simp only [Int.reduceToNat] at ho27; rw [← Ny201.out] at ho27)); have n0_ := Aside0.mk (Kd.R_lower ho27 (below_size (belN HB.out))); have n1_ := Aside0.mk (below_step (belN HB.out) hb); clear HB; have HO203 := n0_; have HB := n1_; clear n0_ n1_; clear hb ho27) | ((with_reducible refine gate_dst (N := 20) rfl ?_); (try (refine gate_guard (by rfl) ?_; dsimp only)); refine Kd.R_lit (Kd.int .u8) _ 5 ?hg (N := 20) ?hd (xs := ([255] : List Int)) (inner := [.int .u8 255]) (ok := fun _ => True) (okp := fun _ => True) ?hr ?hp (fun _ hk => hk) trivial (Below.refl _ _) (Nat.le_refl _) (by simp) ?_; (case hd => rfl); (case hg => rfl); (case hr => first | (go_simp; done) | (go_simp; rfl)); (case hp => exact (Reps.one (show Kd.M (Kd.int .u8) _ _ _ 255 [.int .u8 255] from rfl) (Reps.none _ _))); intro v205 w28 ho29 hb hg_ hnew_; clear hg_ hnew_; (first | rw [← Ny204.out] at ho29 | (simp only [Int.reduceToNat] at ho29; rw [← Ny204.out] at ho29)); have n0_ := Aside0.mk (Kd.R_elder' (rowN HO203.out) (Kd.R_base ho29) hb); have n1_ := Aside0.mk (Kd.R_lower (Kd.R_new' ho29 (Kd.R_lt (rowN HO203.out))) (below_size (belN HB.out))); have n2_ := Aside0.mk (below_step (belN HB.out) hb); clear HO203; clear HB; have HO203 := n0_; have HO206 := n1_; have HB := n2_; clear n0_ n1_ n2_; clear hb ho29) | ((with_reducible refine gate_dst (N := 21) rfl ?_); (try (refine gate_guard (by rfl) ?_; dsimp only)); refine Kd.R_lit (Kd.int .u8) _ 5 ?hg (N := 21) ?hd (xs := ([255, 255] : List Int)) (inner := [.int .u8 255, .int .u8 255]) (ok := fun _ => True) (okp := fun _ => True) ?hr ?hp (fun _ hk => hk) trivial (Below.refl _ _) (Nat.le_refl _) (by simp) ?_; (case hd => rfl); (case hg => rfl); (case hr => first | (go_simp; done) | (go_simp; rfl)); (case hp => exact (Reps.one (show Kd.M (Kd.int .u8) _ _ _ 255 [.int .u8 255] from rfl) (Reps.one (show Kd.M (Kd.int .u8) _ _ _ 255 [.int .u8 255] from rfl) (Reps.none _ _)))); intro v208 w30 ho31 hb hg_ hnew_; clear hg_ hnew_; (first | rw [← Ny207.out] at ho31 | (simp only [Int.reduceToNat] at ho31; rw [← Ny207.out] at ho31)); have n0_ := Aside0.mk (Kd.R_elder' (rowN HO203.out) (Kd.R_base ho31) hb); have n1_ := Aside0.mk (Kd.R_elder' (rowN HO206.out) (Kd.R_base ho31) hb); have n2_ := Aside0.mk (Kd.R_lower (Kd.R_new' (Kd.R_new' ho31 (Kd.R_lt (rowN HO203.out))) (Kd.R_lt (rowN HO206.out))) (below_size (belN HB.out))); have n3_ := Aside0.mk (below_step (belN HB.out) hb); clear HO203; clear HO206; clear HB; have HO203 := n0_; have HO206 := n1_; have HO209 := n2_; have HB := n3_; clear n0_ n1_ n2_ n3_; clear hb ho31) | ((with_reducible refine gate_dst (N := 22) rfl ?_); (try (refine gate_guard (by rfl) ?_; dsimp only)); refine Kd.R_lit (Kd.int .u8) _ 5 ?hg (N := 22) ?hd (xs := ([1, 255, 255] : List Int)) (inner := [.int .u8 1, .int .u8 255, .int .u8 255]) (ok := fun _ => True) (okp := fun _ => True) ?hr ?hp (fun _ hk => hk) trivial (Below.refl _ _) (Nat.le_refl _) (by simp) ?_; (case hd => rfl); (case hg => rfl); (case hr => first | (go_simp; done) | (go_simp; rfl)); (case hp => exact (Reps.one (show Kd.M (Kd.int .u8) _ _ _ 1 [.int .u8 1] from rfl) (Reps.one (show Kd.M (Kd.int .u8) _ _ _ 255 [.int .u8 255] from rfl) (Reps.one (show Kd.M (Kd.int .u8) _ _ _ 255 [.int .u8 255] from rfl) (Reps.none _ _))))); intro v211 w32 ho33 hb hg_ hnew_; clear hg_ hnew_; (first | rw [← Ny210.out] at ho33 | (simp only [Int.reduceToNat] at ho33; rw [← Ny210.out] at ho33)); have n0_ := Aside0.mk (Kd.R_elder' (rowN HO203.out) (Kd.R_base ho33) hb); have n1_ := Aside0.mk (Kd.R_elder' (rowN HO206.out) (Kd.R_base ho33) hb); have n2_ := Aside0.mk (Kd.R_elder' (rowN HO209.out) (Kd.R_base ho33) hb); have n3_ := Aside0.mk (Kd.R_lower (Kd.R_new' (Kd.R_new' (Kd.R_new' ho33 (Kd.R_lt (rowN HO203.out))) (Kd.R_lt (rowN HO206.out))) (Kd.R_lt (rowN HO209.out))) (below_size (belN HB.out))); have n4_ := Aside0.mk (below_step (belN HB.out) hb); clear HO203; clear HO206; clear HO209; clear HB; have HO203 := n0_; have HO206 := n1_; have HO209 := n2_; have HO212 := n3_; have HB := n4_; clear n0_ n1_ n2_ n3_ n4_; clear hb ho33) | ((with_reducible refine gate_dst (N := 23) rfl ?_); (try (refine gate_guard (by rfl) ?_; dsimp only)); refine Kd.R_lit (Kd.int .u8) _ 5 ?hg (N := 23) ?hd (xs := ([1] : List Int)) (inner := [.int .u8 1]) (ok := fun _ => True) (okp := fun _ => True) ?hr ?hp (fun _ hk => hk) trivial (Below.refl _ _) (Nat.le_refl _) (by simp) ?_; (case hd => rfl); (case hg => rfl); (case hr => first | (go_simp; done) | (go_simp; rfl)); (case hp => exact (Reps.one (show Kd.M (Kd.int .u8) _ _ _ 1 [.int .u8 1] from rfl) (Reps.none _ _))); intro v214 w34 ho35 hb hg_ hnew_; clear hg_ hnew_; (first | rw [← Ny213.out] at ho35 | (simp only [Int.reduceToNat] at ho35; rw [← Ny213.out] at ho35)); have n0_ := Aside0.mk (Kd.R_elder' (rowN HO203.out) (Kd.R_base ho35) hb); have n1_ := Aside0.mk (Kd.R_elder' (rowN HO206.out) (Kd.R_base ho35) hb); have n2_ := Aside0.mk (Kd.R_elder' (rowN HO209.out) (Kd.R_base ho35) hb); have n3_ := Aside0.mk (Kd.R_elder' (rowN HO212.out) (Kd.R_base ho35) hb); have n4_ := Aside0.mk (Kd.R_lower (Kd.R_new' (Kd.R_new' (Kd.R_new' (Kd.R_new' ho35 (Kd.R_lt (rowN HO203.out))) (Kd.R_lt (rowN HO206.out))) (Kd.R_lt (rowN HO209.out))) (Kd.R_lt (rowN HO212.out))) (below_size (belN HB.out))); have n5_ := Aside0.mk (below_step (belN HB.out) hb); clear HO203; clear HO206; clear HO209; clear HO212; clear HB; have HO203 := n0_; have HO206 := n1_; have HO209 := n2_; have HO212 := n3_; have HO215 := n4_; have HB := n5_; clear n0_ n1_ n2_ n3_ n4_ n5_; clear hb ho35) | ((with_reducible refine gate_dst (N := 24) rfl ?_); (try (refine gate_guard (by rfl) ?_; dsimp only)); refine Kd.R_lit (Kd.int .u8) _ 5 ?hg (N := 24) ?hd (xs := ([1, 0] : List Int)) (inner := [.int .u8 1, .int .u8 0]) (ok := fun _ => True) (okp := fun _ => True) ?hr ?hp (fun _ hk => hk) trivial (Below.refl _ _) (Nat.le_refl _) (by simp) ?_; (case hd => rfl); (case hg => rfl); (case hr => first | (go_simp; done) | (go_simp; rfl)); (case hp => exact (Reps.one (show Kd.M (Kd.int .u8) _ _ _ 1 [.int .u8 1] from rfl) (Reps.one (show Kd.M (Kd.int .u8) _ _ _ 0 [.int .u8 0] from rfl) (Reps.none _ _)))); intro v217 w36 ho37 hb hg_ hnew_; clear hg_ hnew_; (first | rw [← Ny216.out] at ho37 | (simp only [Int.reduceToNat] at ho37; rw [← Ny216.out] at ho37)); have n0_ := Aside0.mk (Kd.R_elder' (rowN HO203.out) (Kd.R_base ho37) hb); have n1_ := Aside0.mk (Kd.R_elder' (rowN HO206.out) (Kd.R_base ho37) hb); have n2_ := Aside0.mk (Kd.R_elder' (rowN HO209.out) (Kd.R_base ho37) hb); have n3_ := Aside0.mk (Kd.R_elder' (rowN HO212.out) (Kd.R_base ho37) hb); have n4_ := Aside0.mk (Kd.R_elder' (rowN HO215.out) (Kd.R_base ho37) hb); have n5_ := Aside0.mk (Kd.R_lower (Kd.R_new' (Kd.R_new' (Kd.R_new' (Kd.R_new' (Kd.R_new' ho37 (Kd.R_lt (rowN HO203.out))) (Kd.R_lt (rowN HO206.out))) (Kd.R_lt (rowN HO209.out))) (Kd.R_lt (rowN HO212.out))) (Kd.R_lt (rowN HO215.out))) (below_size (belN HB.out))); have n6_ := Aside0.mk (below_step (belN HB.out) hb); clear HO203; clear HO206; clear HO209; clear HO212; clear HO215; clear HB; have HO203 := n0_; have HO206 := n1_; have HO209 := n2_; have HO212 := n3_; have HO215 := n4_; have HO218 := n5_; have HB := n6_; clear n0_ n1_ n2_ n3_ n4_ n5_ n6_; clear hb ho37) | ((with_reducible refine gate_dst (N := 25) rfl ?_); (try (refine gate_guard (by rfl) ?_; dsimp only)); refine Kd.R_lit (Kd.int .u8) _ 5 ?hg (N := 25) ?hd (xs := ([1, 1] : List Int)) (inner := [.int .u8 1, .int .u8 1]) (ok := fun _ => True) (okp := fun _ => True) ?hr ?hp (fun _ hk => hk) trivial (Below.refl _ _) (Nat.le_refl _) (by simp) ?_; (case hd => rfl); (case hg => rfl); (case hr => first | (go_simp; done) | (go_simp; rfl)); (case hp => exact (Reps.one (show Kd.M (Kd.int .u8) _ _ _ 1 [.int .u8 1] from rfl) (Reps.one (show Kd.M (Kd.int .u8) _ _ _ 1 [.int .u8 1] from rfl) (Reps.none _ _)))); intro v220 w38 ho39 hb hg_ hnew_; clear hg_ hnew_; (first | rw [← Ny219.out] at ho39 | (simp only [Int.reduceToNat] at ho39; rw [← Ny219.out] at ho39)); have n0_ := Aside0.mk (Kd.R_elder' (rowN HO203.out) (Kd.R_base ho39) hb); have n1_ := Aside0.mk (Kd.R_elder' (rowN HO206.out) (Kd.R_base ho39) hb); have n2_ := Aside0.mk (Kd.R_elder' (rowN HO209.out) (Kd.R_base ho39) hb); have n3_ := Aside0.mk (Kd.R_elder' (rowN HO212.out) (Kd.R_base ho39) hb); have n4_ := Aside0.mk (Kd.R_elder' (rowN HO215.out) (Kd.R_base ho39) hb); have n5_ := Aside0.mk (Kd.R_elder' (rowN HO218.out) (Kd.R_base ho39) hb); have n6_ := Aside0.mk (Kd.R_lower (Kd.R_new' (Kd.R_new' (Kd.R_new' (Kd.R_new' (Kd.R_new' (Kd.R_new' ho39 (Kd.R_lt (rowN HO203.out))) (Kd.R_lt (rowN HO206.out))) (Kd.R_lt (rowN HO209.out))) (Kd.R_lt (rowN HO212.out))) (Kd.R_lt (rowN HO215.out))) (Kd.R_lt (rowN HO218.out))) (below_size (belN HB.out))); have n7_ := Aside0.mk (below_step (belN HB.out) hb); clear HO203; clear HO206; clear HO209; clear HO212; clear HO215; clear HO218; clear HB; have HO203 := n0_; have HO206 := n1_; have HO209 := n2_; have HO212 := n3_; have HO215 := n4_; have HO218 := n5_; have HO221 := n6_; have HB := n7_; clear n0_ n1_ n2_ n3_ n4_ n5_ n6_ n7_; clear hb ho39) | ((with_reducible refine gate_dst (N := 26) rfl ?_); (try (refine gate_guard (by rfl) ?_; dsimp only)); (try (refine gate_guard (by rfl) ?_; dsimp only)); refine constb_lit (n := 2) (inner := [.int .u8 97, .int .u8 98]) (E := 5) ?hg ?hr ?_; (case hg => rfl); (case hr => first | (go_simp; done) | (go_simp; rfl)); (with_reducible refine gate_dst (N := 27) rfl ?_); (try (refine gate_guard (by rfl) ?_; dsimp only)); refine constb_conv 23 5 (xs := ([97, 98] : List Int)) rfl rfl rfl rfl (by first | (simp only [Act.put, List.setIfInBounds_toArray, List.set_cons_zero, List.set_cons_succ]; rfl) | rfl | (go_simp; done) | (go_simp; rfl)) Try.underlying23 Try.underlying5 (by simp) ?_; intro v223 w40 ho0 hb; rw [← Ny222.out] at ho0; have n0_ := Aside0.mk (Kd.R_below (rowN HO203.out) hb); have n1_ := Aside0.mk (Kd.R_below (rowN HO206.out) hb); have n2_ := Aside0.mk (Kd.R_below (rowN HO209.out) hb); have n3_ := Aside0.mk (Kd.R_below (rowN HO212.out) hb); have n4_ := Aside0.mk (Kd.R_below (rowN HO215.out) hb); have n5_ := Aside0.mk (Kd.R_below (rowN HO218.out) hb); have n6_ := Aside0.mk (Kd.R_below (rowN HO221.out) hb); have n7_ := Aside0.mk (Kd.V_lower (Kd.V_mono (ok' := fun k_ => some k_ ≠ (v202 : Value).ownBlock ∧ some k_ ≠ (v205 : Value).ownBlock ∧ some k_ ≠ (v208 : Value).ownBlock ∧ some k_ ≠ (v211 : Value).ownBlock ∧ some k_ ≠ (v214 : Value).ownBlock ∧ some k_ ≠ (v217 : Value).ownBlock ∧ some k_ ≠ (v220 : Value).ownBlock) ho0 (fun k_ hk_ => ⟨(Kd.fresh' (Kd.R_lt (rowN HO203.out)) k_ hk_), (Kd.fresh' (Kd.R_lt (rowN HO206.out)) k_ hk_), (Kd.fresh' (Kd.R_lt (rowN HO209.out)) k_ hk_), (Kd.fresh' (Kd.R_lt (rowN HO212.out)) k_ hk_), (Kd.fresh' (Kd.R_lt (rowN HO215.out)) k_ hk_), (Kd.fresh' (Kd.R_lt (rowN HO218.out)) k_ hk_), (Kd.fresh' (Kd.R_lt (rowN HO221.out)) k_ hk_)⟩)) (below_size (belN HB.out))); have n8_ := Aside0.mk (below_step (belN HB.out) hb); clear HO203; clear HO206; clear HO209; clear HO212; clear HO215; clear HO218; clear HO221; clear HB; have HO203 := n0_; have HO206 := n1_; have HO209 := n2_; have HO212 := n3_; have HO215 := n4_; have HO218 := n5_; have HO221 := n6_; have HO224 := n7_; have HB := n8_; clear n0_ n1_ n2_ n3_ n4_ n5_ n6_ n7_ n8_; (try clear hb); (try clear ho0)) | ((with_reducible refine gate_dst (N := 28) rfl ?_); (try (refine gate_guard (by rfl) ?_; dsimp only)); (try (refine gate_guard (by rfl) ?_; dsimp only)); refine constb_lit (n := 3) (inner := [.int .u8 97, .int .u8 98, .int .u8 99]) (E := 5) ?hg ?hr ?_; (case hg => rfl); (case hr => first | (go_simp; done) | (go_simp; rfl)); (with_reducible refine gate_dst (N := 29) rfl ?_); (try (refine gate_guard (by rfl) ?_; dsimp only)); refine constb_conv 23 5 (xs := ([97, 98, 99] : List Int)) rfl rfl rfl rfl (by first | (simp only [Act.put, List.setIfInBounds_toArray, List.set_cons_zero, List.set_cons_succ]; rfl) | rfl | (go_simp; done) | (go_simp; rfl)) Try.underlying23 Try.underlying5 (by simp) ?_; intro v226 w41 ho0 hb; rw [← Ny225.out] at ho0; have n0_ := Aside0.mk (Kd.R_below (rowN HO203.out) hb); have n1_ := Aside0.mk (Kd.R_below (rowN HO206.out) hb); have n2_ := Aside0.mk (Kd.R_below (rowN HO209.out) hb); have n3_ := Aside0.mk (Kd.R_below (rowN HO212.out) hb); have n4_ := Aside0.mk (Kd.R_below (rowN HO215.out) hb); have n5_ := Aside0.mk (Kd.R_below (rowN HO218.out) hb); have n6_ := Aside0.mk (Kd.R_below (rowN HO221.out) hb); have n7_ := Aside0.mk (Kd.V_below (by (with_reducible repeat (first | apply Kd.V_alloc | apply Kd.V_drewN | apply Kd.V_drew)); exact HO224.out) hb); have n8_ := Aside0.mk (Kd.V_lower (Kd.V_mono (ok' := fun k_ => some k_ ≠ (v202 : Value).ownBlock ∧ some k_ ≠ (v205 : Value).ownBlock ∧ some k_ ≠ (v208 : Value).ownBlock ∧ some k_ ≠ (v211 : Value).ownBlock ∧ some k_ ≠ (v214 : Value).ownBlock ∧ some k_ ≠ (v217 : Value).ownBlock ∧ some k_ ≠ (v220 : Value).ownBlock) ho0 (fun k_ hk_ => ⟨(Kd.fresh' (Kd.R_lt (rowN HO203.out)) k_ hk_), (Kd.fresh' (Kd.R_lt (rowN HO206.out)) k_ hk_), (Kd.fresh' (Kd.R_lt (rowN HO209.out)) k_ hk_), (Kd.fresh' (Kd.R_lt (rowN HO212.out)) k_ hk_), (Kd.fresh' (Kd.R_lt (rowN HO215.out)) k_ hk_), (Kd.fresh' (Kd.R_lt (rowN HO218.out)) k_ hk_), (Kd.fresh' (Kd.R_lt (rowN HO221.out)) k_ hk_)⟩)) (below_size (belN HB.out))); have n9_ := Aside0.mk (below_step (belN HB.out) hb); clear HO203; clear HO206; clear HO209; clear HO212; clear HO215; clear HO218; clear HO221; clear HO224; clear HB; have HO203 := n0_; have HO206 := n1_; have HO209 := n2_; have HO212 := n3_; have HO215 := n4_; have HO218 := n5_; have HO221 := n6_; have HO224 := n7_; have HO227 := n8_; have HB := n9_; clear n0_ n1_ n2_ n3_ n4_ n5_ n6_ n7_ n8_ n9_; (try clear hb); (try clear ho0); obtain ⟨Ao42, co42, eo42⟩ := Kd.R_slice HO203.out; subst eo42; obtain ⟨Ao43, co43, eo43⟩ := Kd.R_slice HO206.out; subst eo43; obtain ⟨Ao44, co44, eo44⟩ := Kd.R_slice HO209.out; subst eo44; obtain ⟨Ao45, co45, eo45⟩ := Kd.R_slice HO212.out; subst eo45; obtain ⟨Ao46, co46, eo46⟩ := Kd.R_slice HO215.out; subst eo46; obtain ⟨Ao47, co47, eo47⟩ := Kd.R_slice HO218.out; subst eo47; obtain ⟨Ao48, co48, eo48⟩ := Kd.R_slice HO221.out; subst eo48; obtain ⟨Ao49, co49, eo49⟩ := Kd.V_slice HO224.out; subst eo49; obtain ⟨Ao50, co50, eo50⟩ := Kd.V_slice HO227.out; subst eo50) | ((with_reducible refine gate_dst (N := 30) rfl ?_); (try (refine gate_guard (by rfl) ?_; dsimp only)); refine Kd.N_lit (Kd.slice 5 (Kd.int .u8)) _ 23 ?hg (N' := 30) ?hd (xs := ([[], y201, y204, y207, y210, y213, y216, y219, y222, y225] : List (List Int))) (inner := [.slice none 0 0, .slice Ao42 y201.length co42, .slice Ao43 y204.length co43, .slice Ao44 y207.length co44, .slice Ao45 y210.length co45, .slice Ao46 y213.length co46, .slice Ao47 y216.length co47, .slice Ao48 y219.length co48, .slice Ao49 y222.length co49, .slice Ao50 y225.length co50]) (ok := (fun _ => True)) (okp := (fun _ => True)) ?hr ?hp (fun _ hk => hk) ((show ∀ k_, w41.heap.size ≤ k_ → (fun _ => True) k_ from fun k_ hk => trivial) _ (Nat.le_refl _)) (Below.refl _ _) (Nat.le_refl _) (by simp) ?_; (case hd => rfl); (case hg => rfl); (case hr => first | (go_simp; done) | (go_simp; rfl)); (case hp => exact (Reps.one (show Kd.FK (Kd.slice 5 (Kd.int .u8)) _ _ [] [.slice none 0 0] from (Kd.FK_slice_mk (Nat.le_refl _) (Kd.F_nil _ _ _))) (Reps.one (show Kd.FK (Kd.slice 5 (Kd.int .u8)) _ _ y201 [.slice Ao42 y201.length co42] from (Kd.FK_slice_mk (Kd.R_reads' (Kd.R_mono (ok' := (fun _ => True)) (HO203.out) (fun k_ hk => trivial))).2.1 (Kd.R_F (Kd.R_mono (ok' := (fun _ => True)) (HO203.out) (fun k_ hk => trivial))))) (Reps.one (show Kd.FK (Kd.slice 5 (Kd.int .u8)) _ _ y204 [.slice Ao43 y204.length co43] from (Kd.FK_slice_mk (Kd.R_reads' (Kd.R_mono (ok' := (fun _ => True)) (HO206.out) (fun k_ hk => trivial))).2.1 (Kd.R_F (Kd.R_mono (ok' := (fun _ => True)) (HO206.out) (fun k_ hk => trivial))))) (Reps.one (show Kd.FK (Kd.slice 5 (Kd.int .u8)) _ _ y207 [.slice Ao44 y207.length co44] from (Kd.FK_slice_mk (Kd.R_reads' (Kd.R_mono (ok' := (fun _ => True)) (HO209.out) (fun k_ hk => trivial))).2.1 (Kd.R_F (Kd.R_mono (ok' := (fun _ => True)) (HO209.out) (fun k_ hk => trivial))))) (Reps.one (show Kd.FK (Kd.slice 5 (Kd.int .u8)) _ _ y210 [.slice Ao45 y210.length co45] from (Kd.FK_slice_mk (Kd.R_reads' (Kd.R_mono (ok' := (fun _ => True)) (HO212.out) (fun k_ hk => trivial))).2.1 (Kd.R_F (Kd.R_mono (ok' := (fun _ => True)) (HO212.out) (fun k_ hk => trivial))))) (Reps.one (show Kd.FK (Kd.slice 5 (Kd.int .u8)) _ _ y213 [.slice Ao46 y213.length co46] from (Kd.FK_slice_mk (Kd.R_reads' (Kd.R_mono (ok' := (fun _ => True)) (HO215.out) (fun k_ hk => trivial))).2.1 (Kd.R_F (Kd.R_mono (ok' := (fun _ => True)) (HO215.out) (fun k_ hk => trivial))))) (Reps.one (show Kd.FK (Kd.slice 5 (Kd.int .u8)) _ _ y216 [.slice Ao47 y216.length co47] from (Kd.FK_slice_mk (Kd.R_reads' (Kd.R_mono (ok' := (fun _ => True)) (HO218.out) (fun k_ hk => trivial))).2.1 (Kd.R_F (Kd.R_mono (ok' := (fun _ => True)) (HO218.out) (fun k_ hk => trivial))))) (Reps.one (show Kd.FK (Kd.slice 5 (Kd.int .u8)) _ _ y219 [.slice Ao48 y219.length co48] from (Kd.FK_slice_mk (Kd.R_reads' (Kd.R_mono (ok' := (fun _ => True)) (HO221.out) (fun k_ hk => trivial))).2.1 (Kd.R_F (Kd.R_mono (ok' := (fun _ => True)) (HO221.out) (fun k_ hk => trivial))))) (Reps.one (show Kd.FK (Kd.slice 5 (Kd.int .u8)) _ _ y222 [.slice Ao49 y222.length co49] from (Kd.FK_slice_mk (Kd.V_reads' (Kd.V_mono (ok' := (fun _ => True)) (HO224.out) (fun k_ hk => trivial))).2.1 (Kd.V_F (Kd.V_mono (ok' := (fun _ => True)) (HO224.out) (fun k_ hk => trivial))))) (Reps.one (show Kd.FK (Kd.slice 5 (Kd.int .u8)) _ _ y225 [.slice Ao50 y225.length co50] from (Kd.FK_slice_mk (Kd.V_reads' (Kd.V_mono (ok' := (fun _ => True)) (HO227.out) (fun k_ hk => trivial))).2.1 (Kd.V_F (Kd.V_mono (ok' := (fun _ => True)) (HO227.out) (fun k_ hk => trivial))))) (Reps.none _ _)))))))))))); intro v229 w51 ho52 hb hg_ hnew_; clear hg_ hnew_; (first | rw [← Ny228.out] at ho52 | (simp only [Int.reduceToNat] at ho52; rw [← Ny228.out] at ho52)); have n0_ := Aside0.mk (Kd.V_elder' (by (with_reducible repeat (first | apply Kd.V_alloc | apply Kd.V_drewN | apply Kd.V_drew)); exact HO224.out) (Kd.N_base ho52) hb); have n1_ := Aside0.mk (Kd.V_elder' (by (with_reducible repeat (first | apply Kd.V_alloc | apply Kd.V_drewN | apply Kd.V_drew)); exact HO227.out) (Kd.N_base ho52) hb); have n2_ := Aside0.mk (Kd.N_lower ho52 (below_size (belN HB.out))); have n3_ := Aside0.mk (below_step (belN HB.out) hb); clear HO224; clear HO227; clear HB; clear HO203; clear HO206; clear HO209; clear HO212; clear HO215; clear HO218; clear HO221; have HO224 := n0_; have HO227 := n1_; have HO230 := n2_; have HB := n3_; clear n0_ n1_ n2_ n3_; clear hb ho52))
    go_loopg [3] k1 (fun kq v3 w' => ∃ (x3_2 : Int), v3 = .int .i64 x3_2 ∧ Aside0 (marigraphlaw2_OctetNumbers.l1 kq y228 x3_2 = some r) ∧ Aside0 (kq ≤ k1) ∧ Aside0 (Kd.N (Kd.slice 5 (Kd.int .u8)) 23 w' w.heap.size (fun _ => True) v229 y228) ∧ Aside0 (Below w.heap.size w w'))
    case atStart => exact ⟨(0), (by first | rfl | (simp; done) | (simp [*]; done)), H', ⟨Nat.le_refl _⟩, ⟨by (with_reducible repeat (first | apply Kd.N_alloc | apply Kd.N_drewN | apply Kd.N_drew)); exact HO230.out⟩, ⟨(belN HB.out)⟩⟩
    case round =>
     clear H'
     try clear c1
     try clear c1b0
     try clear p2
     try clear c3
     try clear c5
     try clear p6
     try clear c7
     obtain ⟨x3_2, rfl, HA, HK2, HO_2, HB⟩ := hrel
     cases gk with
     | zero => exact absurd HA.out (by simp [marigraphlaw2_OctetNumbers.l1])
     | succ k2 =>
      have H := HA.out
      clear HA
      simp only [marigraphlaw2_OctetNumbers.l1] at H
      by_cases c53 : x3_2 < (y228.length : Int)
      ·rw [if_pos c53] at H
       have c53b0 : decide (x3_2 < (y228.length : Int)) = true := decide_eq_true c53
       clear c53
       have H' := Aside0.mk H
       clear H
       obtain ⟨Ao54, co54, eo54⟩ := Kd.N_slice HO_2.out
       subst eo54
       go_wp2
       go_loopg [4] k2 (fun kq v4 w' => ∃ (x4_3 : Int), v4 = .int .i64 x4_3 ∧ Aside0 (marigraphlaw2_OctetNumbers.l2 kq y228 x3_2 x4_3 = some r) ∧ Aside0 (kq ≤ k2) ∧ Aside0 (Kd.N (Kd.slice 5 (Kd.int .u8)) 23 w' w.heap.size (fun _ => True) (.slice Ao54 y228.length co54) y228) ∧ Aside0 (Below w.heap.size w w'))
       case atStart => exact ⟨(0), (by first | rfl | (simp; done) | (simp [*]; done)), H', ⟨Nat.le_refl _⟩, ⟨by (with_reducible repeat (first | apply Kd.N_alloc | apply Kd.N_drewN | apply Kd.N_drew)); exact HO_2.out⟩, ⟨(belN HB.out)⟩⟩
       case round =>
        clear H'
        try clear c1
        try clear c1b0
        try clear p2
        try clear c3
        try clear c5
        try clear p6
        try clear c7
        try clear c53
        try clear c53b0
        try clear p2
        try clear p6
        obtain ⟨x4_3, rfl, HA, HK3, HO_2, HB⟩ := hrel
        cases gk with
        | zero => exact absurd HA.out (by simp [marigraphlaw2_OctetNumbers.l2])
        | succ k3 =>
         have H := HA.out
         clear HA
         simp only [marigraphlaw2_OctetNumbers.l2] at H
         by_cases c55 : x4_3 < (y228.length : Int)
         ·rw [if_pos c55] at H
          have c55b0 : decide (x4_3 < (y228.length : Int)) = true := decide_eq_true c55
          clear c55
          by_cases c56 : 0 ≤ x3_2
          ·rw [if_pos c56] at H
           have c56b0 : decide (0 ≤ x3_2) = true := decide_eq_true c56
           clear c56
           by_cases c57 : x3_2 < (y228.length : Int)
           ·rw [if_pos c57] at H
            have c57b0 : decide (x3_2 < (y228.length : Int)) = true := decide_eq_true c57
            clear c57
            by_cases c58 : 0 ≤ x4_3
            ·rw [if_pos c58] at H
             have c58b0 : decide (0 ≤ x4_3) = true := decide_eq_true c58
             clear c58
             replace H := Option.bind_eq_some_iff.mp H
             obtain ⟨t234, A590, H⟩ := H
             replace H : (if t234 = true then (marigraphlaw2_OctetNumbers.l2 k3 y228 x3_2 (wrap64 (x4_3 + 1))) else (some false)) = some r := H
             have A59 := Aside0.mk A590
             clear A590
             by_cases c60 : t234 = true
             ·subst c60
              have H1 : (marigraphlaw2_OctetNumbers.l2 k3 y228 x3_2 (wrap64 (x4_3 + 1))) = some r := by rw [if_pos rfl] at H; exact H
              clear H
              have H := H1
              clear H1
              have H' := Aside0.mk H
              clear H
              try go_wp2
              have n0_ := Aside0.mk (Kd.N_drew HO_2.out)
              have n1_ := Aside0.mk (below_drew1 HB.out)
              clear HO_2
              clear HB
              have HO_2 := n0_
              have HB := n1_
              clear n0_ n1_
              have p232 : 0 ≤ (x3_2 : Int) := of_decide_eq_true (by first | (with_reducible assumption) | assumption)
              have q232 : x3_2 < (y228.length : Int) := of_decide_eq_true (by first | (with_reducible assumption) | assumption)
              obtain ⟨ad232, A232_0, c232_0, e232, hx232_0, hl232_0, hi232_0⟩ := at_L1 (Kd.N_reads' HO_2.out).2.2 x3_2 p232 q232
              cases e232
              obtain ⟨ce232, hce232, hMe232, hcc232⟩ := Kd.N_get HO_2.out [] x3_2 p232 (by first | exact q232 | exact of_decide_eq_true (by first | (with_reducible assumption) | assumption) | (have e_ := (Kd.N_reads' HO_2.out).1; omega))
              obtain ⟨ua232_0, uc232_0, rfl, ul232_0, ge232_0⟩ := Kd.FK_slice_open hMe232
              have hv232_0 := hcc232 0 _ rfl
              rw [Nat.add_zero, show ((Kd.slice 5 (Kd.int .u8))).sz = 1 from rfl, Nat.mul_one] at hv232_0
              replace hv232_0 := Option.some.inj (hv232_0.symm.trans hx232_0)
              injection hv232_0 with hva_ hvn_ hvc_
              rw [hva_] at ge232_0
              rw [hvc_] at ul232_0
              have HL232_0 := Aside0.mk (show Kd.V (Kd.int .u8) 5 _ w.heap.size _ _ (rd_L1 y228 x3_2) from Kd.V_mk ul232_0 ge232_0)
              clear hva_ hvn_ hvc_ ge232_0 ul232_0
              clear hcc232 hce232
              have HR232_0 := Aside0.mk hi232_0
              have HC232_0 := Aside0.mk hl232_0
              clear hi232_0 hl232_0
              replace p232 := eq_true p232
              replace q232 := eq_true q232
              have p233 : 0 ≤ (x4_3 : Int) := of_decide_eq_true (by first | (with_reducible assumption) | assumption)
              have q233 : x4_3 < (y228.length : Int) := of_decide_eq_true (by first | (with_reducible assumption) | assumption)
              obtain ⟨ad233, A233_0, c233_0, e233, hx233_0, hl233_0, hi233_0⟩ := at_L1 (Kd.N_reads' HO_2.out).2.2 x4_3 p233 q233
              obtain rfl : ad232 = ad233 := (by injection e233)
              obtain ⟨ce233, hce233, hMe233, hcc233⟩ := Kd.N_get HO_2.out [] x4_3 p233 (by first | exact q233 | exact of_decide_eq_true (by first | (with_reducible assumption) | assumption) | (have e_ := (Kd.N_reads' HO_2.out).1; omega))
              obtain ⟨ua233_0, uc233_0, rfl, ul233_0, ge233_0⟩ := Kd.FK_slice_open hMe233
              have hv233_0 := hcc233 0 _ rfl
              rw [Nat.add_zero, show ((Kd.slice 5 (Kd.int .u8))).sz = 1 from rfl, Nat.mul_one] at hv233_0
              replace hv233_0 := Option.some.inj (hv233_0.symm.trans hx233_0)
              injection hv233_0 with hva_ hvn_ hvc_
              rw [hva_] at ge233_0
              rw [hvc_] at ul233_0
              have HL233_0 := Aside0.mk (show Kd.V (Kd.int .u8) 5 _ w.heap.size _ _ (rd_L1 y228 x4_3) from Kd.V_mk ul233_0 ge233_0)
              clear hva_ hvn_ hvc_ ge233_0 ul233_0
              clear hcc233 hce233
              have HR233_0 := Aside0.mk hi233_0
              have HC233_0 := Aside0.mk hl233_0
              clear hi233_0 hl233_0
              replace p233 := eq_true p233
              replace q233 := eq_true q233
              refine start_ (n := 10) (S := fun w' => w'.cell? (ad232.add (x3_2).toNat) = some (.slice A232_0 (rd_L1 y228 x3_2).length c232_0) ∧ w'.cell? (ad232.add (x4_3).toNat) = some (.slice A233_0 (rd_L1 y228 x4_3).length c233_0)) (ds := []) #[false, false, false, false, false, false, false, false, false, false] (by kernel_rfl) rfl rfl ⟨hx232_0, hx233_0⟩ (fun hHeld => ?_); refine with_tabW marigraphlaw2_OctetNumbers.tab13 marigraphlaw2_OctetNumbers.bits13 (fun HT_ HW_ => ?_)
              generalize wr.drew = w61 at HO_2 HB HL232_0 HL233_0 HR232_0 HR233_0 hx232_0 hx233_0 hHeld ⊢
              refine pA 0 (some 43) (bA 10 1) HT_.out ?_
              refine pA 1 (some 44) (bA 10 3) HT_.out ?_
              refine pA 2 (some 45) (bA 10 7) HT_.out ?_
              refine pA 4 (some 47) (bA 10 23) HT_.out ?_
              refine pA 5 (some 48) (bA 10 55) HT_.out ?_
              refine pA 6 (some 49) (bA 10 119) HT_.out ?_
              refine take_ (i := 3) (N := some 46) (v := ?_) (a' := ?_) (bA 10 127) rfl rfl (take_ofW HT_.out HW_.out (by kernel_rfl)) (fun _ _ _ h => h) (Or.inl ⟨by rfl, ?_⟩) hHeld ?_ ?_
              rotate_left
              ·rintro w' ⟨s0, s1⟩
               go_simp
               with_reducible rfl
              rotate_left
              ·simp only [Act.put, List.setIfInBounds_toArray, List.set_cons_zero, List.set_cons_succ, i64_w, i32_w]
               rfl
              refine take_ (i := 7) (N := some 50) (v := ?_) (a' := ?_) (bA 10 255) rfl rfl (take_ofW HT_.out HW_.out (by kernel_rfl)) (fun _ _ _ h => h) (Or.inl ⟨by rfl, ?_⟩) hHeld ?_ ?_
              rotate_left
              ·rintro w' ⟨s0, s1⟩
               go_simp
               with_reducible rfl
              rotate_left
              ·simp only [Act.put, List.setIfInBounds_toArray, List.set_cons_zero, List.set_cons_succ, i64_w, i32_w]
               rfl
              refine one_ (i := 8) (N := some 51) (bA 10 511) rfl rfl (one_of HT_.out (by kernel_rfl)) (by decide) (fun K hK => ?_)
              refine goes_ Try.func8 (by kernel_rfl) rfl #[.slice A232_0 (rd_L1 y228 x3_2).length c232_0, .slice A233_0 (rd_L1 y228 x4_3).length c233_0] (by rfl) rfl rfl argN ?_
              with_reducible refine (marigraphlaw2_order.calls k3 _ _ (rd_L1 y228 x3_2) _ _ (rd_L1 y228 x4_3) true _ ?side1 ?side2 ?side3 ?side4 A59.out).mono ?_
              (case side1 => repeat (first | exact (by repeat (first | (with_reducible exact HR232_0.out) | (with_reducible refine Kd.C_alloc ?_ _) | (with_reducible refine Kd.C_drewN ?_ _) | (with_reducible refine Kd.C_drew ?_) | exact HR232_0.out)) | (with_reducible refine Kd.C_alloc ?_ _) | (with_reducible refine Kd.C_drewN ?_ _) | (with_reducible refine Kd.C_drew ?_)))
              (case side2 => exact HC232_0.out)
              (case side3 => repeat (first | exact (by repeat (first | (with_reducible exact HR233_0.out) | (with_reducible refine Kd.C_alloc ?_ _) | (with_reducible refine Kd.C_drewN ?_ _) | (with_reducible refine Kd.C_drew ?_) | exact HR233_0.out)) | (with_reducible refine Kd.C_alloc ?_ _) | (with_reducible refine Kd.C_drewN ?_ _) | (with_reducible refine Kd.C_drew ?_)))
              (case side4 => exact HC233_0.out)
              rintro e w62 ⟨rfl, hb⟩
              have HS0_ := (hb.cell (World.block_lt_of_cell? _ _ (hHeld.1))).trans (hHeld.1)
              have HS1_ := (hb.cell (World.block_lt_of_cell? _ _ (hHeld.2))).trans (hHeld.2)
              refine ⟨_, rfl, ?_⟩
              have n0_ := Aside0.mk (Kd.N_below (by (with_reducible repeat (first | apply Kd.N_alloc | apply Kd.N_drewN | apply Kd.N_drew)); exact HO_2.out) hb)
              have n1_ := Aside0.mk (Kd.V_below (by (with_reducible repeat (first | apply Kd.V_alloc | apply Kd.V_drewN | apply Kd.V_drew)); exact HL232_0.out) hb)
              have n2_ := Aside0.mk (Kd.V_below (by (with_reducible repeat (first | apply Kd.V_alloc | apply Kd.V_drewN | apply Kd.V_drew)); exact HL233_0.out) hb)
              have n3_ := Aside0.mk (cbN HR232_0.out hb)
              have n4_ := Aside0.mk (cbN HR233_0.out hb)
              have n5_ := Aside0.mk (below_step (belN HB.out) hb)
              clear HO_2
              clear HL232_0
              clear HL233_0
              clear HR232_0
              clear HR233_0
              clear HB
              have HO_2 := n0_
              have HL232_0 := n1_
              have HL233_0 := n2_
              have HR232_0 := n3_
              have HR233_0 := n4_
              have HB := n5_
              clear n0_ n1_ n2_ n3_ n4_ n5_
              (try clear hb)
              (try clear hk)
              refine hK.out _ _ ⟨HS0_, HS1_⟩ (fun hHeld => ?_)
              clear hK K
              refine norm_ (a' := ?_) ?_ ?_
              rotate_left
              ·show Act.put _ (some 51) _ = _
               simp only [Act.put, List.setIfInBounds_toArray, List.set_cons_zero, List.set_cons_succ, i64_w, i32_w]
               rfl
              refine pA 9 (some 52) (bA 10 1023) HT_.out ?_
              refine done_ (done_of HT_.out (by kernel_rfl)) ?_
              try go_wp2
              go_roundg k3
              case measure => have := HK1.out; have := HK2.out; have := HK3.out; omega
              case rel => exact ⟨(wrap64 (x4_3 + 1)), (by first | rfl | (simp; done) | (simp [*]; done)), H', ⟨by have := HK1.out; have := HK2.out; have := HK3.out; omega⟩, ⟨by (with_reducible repeat (first | apply Kd.N_alloc | apply Kd.N_drewN | apply Kd.N_drew)); exact HO_2.out⟩, ⟨(belN HB.out)⟩⟩
             ·replace c60 := Bool.eq_false_iff.mpr c60
              subst c60
              have H1 : (some false) = some r := by rw [if_neg (show ¬ (false = true) by decide)] at H; exact H
              clear H
              have H := H1
              clear H1
              obtain rfl := Option.some.inj H
              try go_wp2
              have n0_ := Aside0.mk (Kd.N_drew HO_2.out)
              have n1_ := Aside0.mk (below_drew1 HB.out)
              clear HO_2
              clear HB
              have HO_2 := n0_
              have HB := n1_
              clear n0_ n1_
              have p232 : 0 ≤ (x3_2 : Int) := of_decide_eq_true (by first | (with_reducible assumption) | assumption)
              have q232 : x3_2 < (y228.length : Int) := of_decide_eq_true (by first | (with_reducible assumption) | assumption)
              obtain ⟨ad232, A232_0, c232_0, e232, hx232_0, hl232_0, hi232_0⟩ := at_L1 (Kd.N_reads' HO_2.out).2.2 x3_2 p232 q232
              cases e232
              obtain ⟨ce232, hce232, hMe232, hcc232⟩ := Kd.N_get HO_2.out [] x3_2 p232 (by first | exact q232 | exact of_decide_eq_true (by first | (with_reducible assumption) | assumption) | (have e_ := (Kd.N_reads' HO_2.out).1; omega))
              obtain ⟨ua232_0, uc232_0, rfl, ul232_0, ge232_0⟩ := Kd.FK_slice_open hMe232
              have hv232_0 := hcc232 0 _ rfl
              rw [Nat.add_zero, show ((Kd.slice 5 (Kd.int .u8))).sz = 1 from rfl, Nat.mul_one] at hv232_0
              replace hv232_0 := Option.some.inj (hv232_0.symm.trans hx232_0)
              injection hv232_0 with hva_ hvn_ hvc_
              rw [hva_] at ge232_0
              rw [hvc_] at ul232_0
              have HL232_0 := Aside0.mk (show Kd.V (Kd.int .u8) 5 _ w.heap.size _ _ (rd_L1 y228 x3_2) from Kd.V_mk ul232_0 ge232_0)
              clear hva_ hvn_ hvc_ ge232_0 ul232_0
              clear hcc232 hce232
              have HR232_0 := Aside0.mk hi232_0
              have HC232_0 := Aside0.mk hl232_0
              clear hi232_0 hl232_0
              replace p232 := eq_true p232
              replace q232 := eq_true q232
              have p233 : 0 ≤ (x4_3 : Int) := of_decide_eq_true (by first | (with_reducible assumption) | assumption)
              have q233 : x4_3 < (y228.length : Int) := of_decide_eq_true (by first | (with_reducible assumption) | assumption)
              obtain ⟨ad233, A233_0, c233_0, e233, hx233_0, hl233_0, hi233_0⟩ := at_L1 (Kd.N_reads' HO_2.out).2.2 x4_3 p233 q233
              obtain rfl : ad232 = ad233 := (by injection e233)
              obtain ⟨ce233, hce233, hMe233, hcc233⟩ := Kd.N_get HO_2.out [] x4_3 p233 (by first | exact q233 | exact of_decide_eq_true (by first | (with_reducible assumption) | assumption) | (have e_ := (Kd.N_reads' HO_2.out).1; omega))
              obtain ⟨ua233_0, uc233_0, rfl, ul233_0, ge233_0⟩ := Kd.FK_slice_open hMe233
              have hv233_0 := hcc233 0 _ rfl
              rw [Nat.add_zero, show ((Kd.slice 5 (Kd.int .u8))).sz = 1 from rfl, Nat.mul_one] at hv233_0
              replace hv233_0 := Option.some.inj (hv233_0.symm.trans hx233_0)
              injection hv233_0 with hva_ hvn_ hvc_
              rw [hva_] at ge233_0
              rw [hvc_] at ul233_0
              have HL233_0 := Aside0.mk (show Kd.V (Kd.int .u8) 5 _ w.heap.size _ _ (rd_L1 y228 x4_3) from Kd.V_mk ul233_0 ge233_0)
              clear hva_ hvn_ hvc_ ge233_0 ul233_0
              clear hcc233 hce233
              have HR233_0 := Aside0.mk hi233_0
              have HC233_0 := Aside0.mk hl233_0
              clear hi233_0 hl233_0
              replace p233 := eq_true p233
              replace q233 := eq_true q233
              refine start_ (n := 10) (S := fun w' => w'.cell? (ad232.add (x3_2).toNat) = some (.slice A232_0 (rd_L1 y228 x3_2).length c232_0) ∧ w'.cell? (ad232.add (x4_3).toNat) = some (.slice A233_0 (rd_L1 y228 x4_3).length c233_0)) (ds := []) #[false, false, false, false, false, false, false, false, false, false] (by kernel_rfl) rfl rfl ⟨hx232_0, hx233_0⟩ (fun hHeld => ?_); refine with_tabW marigraphlaw2_OctetNumbers.tab13 marigraphlaw2_OctetNumbers.bits13 (fun HT_ HW_ => ?_)
              generalize wr.drew = w63 at HO_2 HB HL232_0 HL233_0 HR232_0 HR233_0 hx232_0 hx233_0 hHeld ⊢
              refine pA 0 (some 43) (bA 10 1) HT_.out ?_
              refine pA 1 (some 44) (bA 10 3) HT_.out ?_
              refine pA 2 (some 45) (bA 10 7) HT_.out ?_
              refine pA 4 (some 47) (bA 10 23) HT_.out ?_
              refine pA 5 (some 48) (bA 10 55) HT_.out ?_
              refine pA 6 (some 49) (bA 10 119) HT_.out ?_
              refine take_ (i := 3) (N := some 46) (v := ?_) (a' := ?_) (bA 10 127) rfl rfl (take_ofW HT_.out HW_.out (by kernel_rfl)) (fun _ _ _ h => h) (Or.inl ⟨by rfl, ?_⟩) hHeld ?_ ?_
              rotate_left
              ·rintro w' ⟨s0, s1⟩
               go_simp
               with_reducible rfl
              rotate_left
              ·simp only [Act.put, List.setIfInBounds_toArray, List.set_cons_zero, List.set_cons_succ, i64_w, i32_w]
               rfl
              refine take_ (i := 7) (N := some 50) (v := ?_) (a' := ?_) (bA 10 255) rfl rfl (take_ofW HT_.out HW_.out (by kernel_rfl)) (fun _ _ _ h => h) (Or.inl ⟨by rfl, ?_⟩) hHeld ?_ ?_
              rotate_left
              ·rintro w' ⟨s0, s1⟩
               go_simp
               with_reducible rfl
              rotate_left
              ·simp only [Act.put, List.setIfInBounds_toArray, List.set_cons_zero, List.set_cons_succ, i64_w, i32_w]
               rfl
              refine one_ (i := 8) (N := some 51) (bA 10 511) rfl rfl (one_of HT_.out (by kernel_rfl)) (by decide) (fun K hK => ?_)
              refine goes_ Try.func8 (by kernel_rfl) rfl #[.slice A232_0 (rd_L1 y228 x3_2).length c232_0, .slice A233_0 (rd_L1 y228 x4_3).length c233_0] (by rfl) rfl rfl argN ?_
              with_reducible refine (marigraphlaw2_order.calls k3 _ _ (rd_L1 y228 x3_2) _ _ (rd_L1 y228 x4_3) false _ ?side1 ?side2 ?side3 ?side4 A59.out).mono ?_
              (case side1 => repeat (first | exact (by repeat (first | (with_reducible exact HR232_0.out) | (with_reducible refine Kd.C_alloc ?_ _) | (with_reducible refine Kd.C_drewN ?_ _) | (with_reducible refine Kd.C_drew ?_) | exact HR232_0.out)) | (with_reducible refine Kd.C_alloc ?_ _) | (with_reducible refine Kd.C_drewN ?_ _) | (with_reducible refine Kd.C_drew ?_)))
              (case side2 => exact HC232_0.out)
              (case side3 => repeat (first | exact (by repeat (first | (with_reducible exact HR233_0.out) | (with_reducible refine Kd.C_alloc ?_ _) | (with_reducible refine Kd.C_drewN ?_ _) | (with_reducible refine Kd.C_drew ?_) | exact HR233_0.out)) | (with_reducible refine Kd.C_alloc ?_ _) | (with_reducible refine Kd.C_drewN ?_ _) | (with_reducible refine Kd.C_drew ?_)))
              (case side4 => exact HC233_0.out)
              rintro e w64 ⟨rfl, hb⟩
              have HS0_ := (hb.cell (World.block_lt_of_cell? _ _ (hHeld.1))).trans (hHeld.1)
              have HS1_ := (hb.cell (World.block_lt_of_cell? _ _ (hHeld.2))).trans (hHeld.2)
              refine ⟨_, rfl, ?_⟩
              have n0_ := Aside0.mk (Kd.N_below (by (with_reducible repeat (first | apply Kd.N_alloc | apply Kd.N_drewN | apply Kd.N_drew)); exact HO_2.out) hb)
              have n1_ := Aside0.mk (Kd.V_below (by (with_reducible repeat (first | apply Kd.V_alloc | apply Kd.V_drewN | apply Kd.V_drew)); exact HL232_0.out) hb)
              have n2_ := Aside0.mk (Kd.V_below (by (with_reducible repeat (first | apply Kd.V_alloc | apply Kd.V_drewN | apply Kd.V_drew)); exact HL233_0.out) hb)
              have n3_ := Aside0.mk (cbN HR232_0.out hb)
              have n4_ := Aside0.mk (cbN HR233_0.out hb)
              have n5_ := Aside0.mk (below_step (belN HB.out) hb)
              clear HO_2
              clear HL232_0
              clear HL233_0
              clear HR232_0
              clear HR233_0
              clear HB
              have HO_2 := n0_
              have HL232_0 := n1_
              have HL233_0 := n2_
              have HR232_0 := n3_
              have HR233_0 := n4_
              have HB := n5_
              clear n0_ n1_ n2_ n3_ n4_ n5_
              (try clear hb)
              (try clear hk)
              refine hK.out _ _ ⟨HS0_, HS1_⟩ (fun hHeld => ?_)
              clear hK K
              refine norm_ (a' := ?_) ?_ ?_
              rotate_left
              ·show Act.put _ (some 51) _ = _
               simp only [Act.put, List.setIfInBounds_toArray, List.set_cons_zero, List.set_cons_succ, i64_w, i32_w]
               rfl
              refine pA 9 (some 52) (bA 10 1023) HT_.out ?_
              refine done_ (done_of HT_.out (by kernel_rfl)) ?_
              try go_wp2
              go_ret
              exact ⟨by first | rfl | (simp [errW_none, errW_some] <;> rfl) | (simp [*, errW_none, errW_some] <;> rfl), (belN HB.out)⟩
            ·rw [if_neg c58] at H
             exact absurd H (by simp)
           ·rw [if_neg c57] at H
            exact absurd H (by simp)
          ·rw [if_neg c56] at H
           exact absurd H (by simp)
         ·rw [if_neg c55] at H
          have c55b0 : decide (x4_3 < (y228.length : Int)) = false := decide_eq_false c55
          clear c55
          have H' := Aside0.mk H
          clear H
          go_wp2
          go_roundg k3
          case measure => have := HK1.out; have := HK2.out; have := HK3.out; omega
          case rel => exact ⟨(wrap64 (x3_2 + 1)), (by first | rfl | (simp; done) | (simp [*]; done)), H', ⟨by have := HK1.out; have := HK2.out; have := HK3.out; omega⟩, ⟨by (with_reducible repeat (first | apply Kd.N_alloc | apply Kd.N_drewN | apply Kd.N_drew)); exact HO_2.out⟩, ⟨(belN HB.out)⟩⟩
      ·rw [if_neg c53] at H
       have c53b0 : decide (x3_2 < (y228.length : Int)) = false := decide_eq_false c53
       clear c53
       replace H := Option.bind_eq_some_iff.mp H
       obtain ⟨t231, A650, H⟩ := H
       replace H : (some t231) = some r := H
       have A65 := Aside0.mk A650
       clear A650
       obtain rfl := Option.some.inj H
       obtain ⟨Ao66, co66, eo66⟩ := Kd.N_slice HO_2.out
       subst eo66
       go_wp2_with (first | ((with_reducible refine gate_callee (f := 9) rfl ?_); refine goesL_ (some 53) rfl rfl Try.func9 (by kernel_rfl) rfl #[] rfl argN ?_; (with_reducible refine (marigraphlaw2_known.calls k2  t231 _ A65.out).mono ?_); rintro e w67 ⟨rfl, hb⟩; refine ⟨_, rfl, ?_⟩; have n0_ := Aside0.mk (Kd.N_below (by (with_reducible repeat (first | apply Kd.N_alloc | apply Kd.N_drewN | apply Kd.N_drew)); exact HO_2.out) hb); have n1_ := Aside0.mk (below_step (belN HB.out) hb); clear HO_2; clear HB; have HO_2 := n0_; have HB := n1_; clear n0_ n1_; (try clear hb); (try clear hk)))
       go_ret
       exact ⟨by first | rfl | (simp [errW_none, errW_some] <;> rfl) | (simp [*, errW_none, errW_some] <;> rfl), (belN HB.out)⟩

/-- THE ONE PURE STATEMENT of marigraphlaw2_OctetNumbers: yours. -/
def marigraphlaw2_OctetNumbers.Pure : Prop := ∃ k, marigraphlaw2_OctetNumbers.f k  = some true
theorem marigraphlaw2_OctetNumbers.walk (P : marigraphlaw2_OctetNumbers.Pure)  (w : World)  :
  Calls Try.prog 3 #[] w fun e w' => e = .returned (.bool true) ∧ Below w.heap.size w w' := by
 obtain ⟨k, h⟩ := P
 refine (marigraphlaw2_OctetNumbers.calls k  true w h).mono ?_
 rintro e w' ⟨rfl, hd⟩
 exact ⟨rfl, hd⟩

end Go.Proofs.Ytjlbgbiceafdjaa.POctetNumbers

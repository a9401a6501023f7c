/- The walk of the Go functions that a law reaches, told as plain functions; a program of this session has written it. No condition beyond the statement's own. -/
import Derived.Test.YtmimfnangdabmaaPFrameBatchesx0
import Derived.Test.YtmimfnangdabmaaPFrameBatchesx1
namespace Go.Proofs.Ytmimfnangdabmaa.PFrameBatches
open Go.RowKit Go.Proofs.YtmimfnangdabmaaW.PrintWords Go.Proofs.YtmimfnangdabmaaW.PrintLast Go.Proofs.YtmimfnangdabmaaW.PrintMore
attribute [local go_sem] max2_int min2_int max_two min_two max_three min_three max_four min_four   -- for this text's walks alone
set_option linter.unusedVariables false
set_option linter.unusedSimpArgs false

/-! ### marigraphref2_Put: function 41 -/
def marigraphref2_Put.l0 : Nat → Int → List Int → Int → Option (List Int)
 | 0, _, _, _ => none
 | k + 1, x1, x7, x8 => if x8 ≥ 0 then (if 0 ≤ (IntKind.u64.wrap (wrap64 (8 * x8))) then (if x7.length < 140737488355328 then (marigraphref2_Put.l0 k x1 (x7 ++ [(shr .u64 x1 (IntKind.u64.wrap (wrap64 (8 * x8)))) % 256]) (wrap64 (x8 - 1))) else (none)) else (none)) else (some x7)
def marigraphref2_Put.f (k : Nat) (l0 : List Int) (a1 : Int) (a2 : Int) : Option (List Int) := (some (([] : List Int) : List Int)).bind fun y194 => (if y194.length + l0.length < 140737488355328 then (marigraphref2_Put.l0 k a1 (y194 ++ l0) ((mx (mn a2 8) 0) - 1)) else (none))
theorem marigraphref2_Put.mono_l : ∀ k, (∀ y0 y1 y2, LeO (marigraphref2_Put.l0 k y0 y1 y2) (marigraphref2_Put.l0 (k + 1) y0 y1 y2))
 | 0 => fun _ _ _ r h => by simp [marigraphref2_Put.l0] at h
 | k + 1 => by
  have ih0 := marigraphref2_Put.mono_l k
  ·intro y0 y1 y2
   unfold marigraphref2_Put.l0
   repeat' first
   | (with_reducible exact ih0 _ _ _)
   | (with_reducible exact LeO.refl _)
   | (with_reducible exact LeO.none _)
   | (with_reducible refine LeO.ite ?_ ?_)
   | (with_reducible refine LeO.bind ?_ (fun _ => ?_))
   | exact ih0 _ _ _
   | exact LeO.none _
   | refine LeO.ite ?_ ?_
   | refine LeO.bind ?_ (fun _ => ?_)
theorem marigraphref2_Put.mono : ∀ a0 a1 a2 k, LeO (marigraphref2_Put.f k a0 a1 a2) (marigraphref2_Put.f (k + 1) a0 a1 a2) := by
 intro a0 a1 a2 k
 have ih0 := marigraphref2_Put.mono_l k
 unfold marigraphref2_Put.f
 repeat' first
   | (with_reducible exact ih0 _ _ _)
   | (with_reducible exact LeO.refl _)
   | (with_reducible exact LeO.none _)
   | (with_reducible refine LeO.ite ?_ ?_)
   | (with_reducible refine LeO.bind ?_ (fun _ => ?_))
   | exact ih0 _ _ _
   | exact LeO.none _
   | refine LeO.ite ?_ ?_
   | refine LeO.bind ?_ (fun _ => ?_)
set_option maxHeartbeats 8000000 in
set_option maxRecDepth 100000 in
theorem marigraphref2_Put.calls (k : Nat) (A0 : Option Addr) (c0 : Nat) (l0 : List Int) (a1 : Int) (a2 : Int) (r : List Int) (w : World) (hr0 : Kd.C (Kd.int .u8) w A0 l0.length l0) (hc0 : l0.length ≤ c0) (h : marigraphref2_Put.f k l0 a1 a2 = some r) :
  Calls Try.prog 41 #[.slice A0 l0.length c0, .int .u64 a1, .int .i64 a2] w fun e w' => ∃ v0_ : Value, e = .returned (v0_) ∧ Kd.R (Kd.int .u8) 5 w' w.heap.size (fun _ => True) v0_ r ∧ Below w.heap.size w w' := by
 have HR0 := Aside0.mk hr0
 have HC0 := Aside0.mk hc0
 clear hr0 hc0
 have HB := Aside0.mk (Below.refl w.heap.size w)
 have H : ((some (([] : List Int) : List Int)).bind fun y194 => (if y194.length + l0.length < 140737488355328 then (marigraphref2_Put.l0 k a1 (y194 ++ l0) ((mx (mn a2 8) 0) - 1)) else (none))) = some r := h
 clear h
 obtain ⟨y194, hy194⟩ : ∃ y_ : List Int, y_ = (([] : List Int)) := ⟨_, rfl⟩
 replace H : (if y194.length + l0.length < 140737488355328 then (marigraphref2_Put.l0 k a1 (y194 ++ l0) ((mx (mn a2 8) 0) - 1)) else (none)) = some r := by first | (rw [hy194]; with_reducible exact H) | (have H2_ := (Option.bind_some _ _).symm.trans H; rw [hy194]; with_reducible exact H2_) | (have H2_ := (Option.bind_some _ _).symm.trans H; with_reducible exact H2_) | with_reducible exact H | (rw [hy194]; exact H) | exact H
 have Ny194 := Aside0.mk hy194
 clear hy194
 by_cases c4 : y194.length + l0.length < 140737488355328
 ·rw [if_pos c4] at H
  have LMc4 := Aside0.mk c4
  clear c4
  obtain ⟨y197, hy197⟩ : ∃ y_ : List Int, y_ = (y194 ++ l0) := ⟨_, rfl⟩
  replace H : (marigraphref2_Put.l0 k a1 y197 ((mx (mn a2 8) 0) - 1)) = some r := by first | (rw [hy197]; with_reducible exact H) | (have H2_ := (Option.bind_some _ _).symm.trans H; rw [hy197]; with_reducible exact H2_) | (have H2_ := (Option.bind_some _ _).symm.trans H; with_reducible exact H2_) | with_reducible exact H | (rw [hy197]; exact H) | exact H
  have Ny197 := Aside0.mk hy197
  clear hy197
  obtain ⟨ji5, hji5⟩ : ∃ j_ : Int, (mn a2 8) = j_ := ⟨_, rfl⟩
  replace H : (marigraphref2_Put.l0 k a1 y197 ((mx (ji5) 0) - 1)) = some r := by first | (rw [hji5] at H; exact H) | (simp only [hji5] at H ⊢; exact H)
  (try (have hji5h : ji5 ≤ 8 := by (rw [← hji5]; unfold mn; (repeat' split) <;> omega)))
  (try (have hji5g : ji5 ≤ 64 := by omega))
  have hji5_ : (if 8 < a2 then 8 else a2) = ji5 := hji5
  obtain ⟨ji6, hji6⟩ : ∃ j_ : Int, (mx (ji5) 0) = j_ := ⟨_, rfl⟩
  replace H : (marigraphref2_Put.l0 k a1 y197 ((ji6) - 1)) = some r := by first | (rw [hji6] at H; exact H) | (simp only [hji6] at H ⊢; exact H)
  have hji6_ : (if (ji5) < 0 then 0 else (ji5)) = ji6 := hji6
  have H' := Aside0.mk H
  clear H
  go_enter Try.func41, Try.ntmps41
  go_wp2_with (first | ((with_reducible refine gate_dst (N := 9) rfl ?_); refine Kd.R_lit (Kd.int .u8) _ 5 ?hg (N := 9) ?hd (xs := ([] : List Int)) (inner := []) (ok := fun _ => True) (okp := fun _ => True) ?hr ?hp (fun _ hk => hk) trivial (Below.refl _ _) (Nat.le_refl _) (by simp) ?_; (case hd => rfl); (case hg => rfl); (case hr => first | (go_simp; done) | (go_simp; rfl)); (case hp => exact (Reps.none _ _)); intro v195 w7 ho8 hb hg_ hnew_; clear hg_ hnew_; (first | rw [← Ny194.out] at ho8 | (simp only [Int.reduceToNat] at ho8; rw [← Ny194.out] at ho8)); have n0_ := Aside0.mk (Kd.R_lower ho8 (below_size (belN HB.out))); have n1_ := Aside0.mk (below_step (belN HB.out) hb); clear HB; have HO196 := n0_; have HB := n1_; clear n0_ n1_; clear hb ho8) | ((with_reducible refine gate_builtin (b := .append) (xs := #[.tmp 9, .tmp 10]) rfl ?_); at_builtin; refine Kd.R_append_rows (Kd.int .u8) (w0 := w) w.heap.size rfl (.tmp 9) (.tmp 10) 23 5 (.int .u8 0) 1 rfl Try.underlying23 info5 rfl (by decide) (by omega) v195 y194 l0 _ _ _ (fun _ => True) (fun _ => False) rfl rfl ?aO ?aR (fun _ _ h => h) (fun _ h => h.elim) ?aF ?aB ?aS ?aL ?_; (case aR => repeat (first | exact (Kd.C_below HR0.out HB.out) | (with_reducible refine Kd.C_alloc ?_ _) | (with_reducible refine Kd.C_drewN ?_ _) | (with_reducible refine Kd.C_drew ?_))); (case aB => exact (belN HB.out)); (case aF => exact (fun _ _ => trivial)); (case aO => exact (rowN HO196.out)); (case aS => exact (below_size (belN HB.out))); (case aL => have := LMc4.out; omega); intro v198 w9 ho hb hg hat; rw [← Ny197.out] at ho; have n0_ := Aside0.mk (hb); have n1_ := Aside0.mk (ho); clear HB; clear HO196; have HB := n0_; have HO199 := n1_; clear n0_ n1_; clear ho hb hg hat))
  go_loopg [7, 8] k (fun kq v7 v8 w' => ∃ (x7_1 : List Int) (x8_1 : Int), v8 = .int .i64 x8_1 ∧ Aside0 (marigraphref2_Put.l0 kq a1 x7_1 x8_1 = some r) ∧ Aside0 (kq ≤ k) ∧ Aside0 (Kd.R (Kd.int .u8) 5 w' w.heap.size (fun _ => True) v7 x7_1) ∧ Aside0 (Below w.heap.size w w'))
  case atStart => exact ⟨(y197), ((ji6) - 1), (by first | rfl | (simp; done) | (simp only [← hji6] <;> (first | rfl | simp)) | (simp [*]; done)), H', ⟨Nat.le_refl _⟩, ⟨(rowN HO199.out)⟩, ⟨(belN HB.out)⟩⟩
  case round =>
   clear H'
   try clear p2
   try clear c4
   obtain ⟨x7_1, x8_1, rfl, HA, HK1, HO_7, HB⟩ := hrel
   cases gk with
   | zero => exact absurd HA.out (by simp [marigraphref2_Put.l0])
   | succ k1 =>
    have H := HA.out
    clear HA
    simp only [marigraphref2_Put.l0] at H
    by_cases c10 : x8_1 ≥ 0
    ·rw [if_pos c10] at H
     have c10b0 : decide (0 ≤ x8_1) = true := decide_eq_true c10
     clear c10
     obtain ⟨ji11, hji11⟩ : ∃ j_ : Int, (IntKind.u64.wrap (wrap64 (8 * x8_1))) = j_ := ⟨_, rfl⟩
     replace H : (if 0 ≤ (ji11) then (if x7_1.length < 140737488355328 then (marigraphref2_Put.l0 k1 a1 (x7_1 ++ [(shr .u64 a1 (ji11)) % 256]) (wrap64 (x8_1 - 1))) else (none)) else (none)) = some r := by first | (rw [hji11] at H; exact H) | (simp only [hji11] at H ⊢; exact H)
     by_cases c12 : 0 ≤ (ji11)
     ·rw [if_pos c12] at H
      have c12b0 := eq_true c12
      have c12b1 : decide (0 ≤ (ji11)) = true := decide_eq_true c12
      clear c12
      obtain ⟨ji13, hji13⟩ : ∃ j_ : Int, (shr .u64 a1 (ji11)) = j_ := ⟨_, rfl⟩
      replace H : (if x7_1.length < 140737488355328 then (marigraphref2_Put.l0 k1 a1 (x7_1 ++ [(ji13) % 256]) (wrap64 (x8_1 - 1))) else (none)) = some r := by first | (rw [hji13] at H; exact H) | (simp only [hji13] at H ⊢; exact H)
      have hji13_ : (a1 / 2 ^ min (ji11).toNat 64) = ji13 := hji13
      have hji13z : (ji11) ≤ 64 → (a1 / 2 ^ (ji11).toNat) = ji13 := shr_small hji13
      by_cases c14 : x7_1.length < 140737488355328
      ·rw [if_pos c14] at H
       have LMc14 := Aside0.mk c14
       clear c14
       obtain ⟨y200, hy200⟩ : ∃ y_ : List Int, y_ = (x7_1 ++ [(ji13) % 256]) := ⟨_, rfl⟩
       replace H : (marigraphref2_Put.l0 k1 a1 y200 (wrap64 (x8_1 - 1))) = some r := by first | (rw [hy200]; with_reducible exact H) | (have H2_ := (Option.bind_some _ _).symm.trans H; rw [hy200]; with_reducible exact H2_) | (have H2_ := (Option.bind_some _ _).symm.trans H; with_reducible exact H2_) | with_reducible exact H | (rw [hy200]; exact H) | exact H
       have Ny200 := Aside0.mk hy200
       clear hy200
       have H' := Aside0.mk H
       clear H
       go_wp2_with (first | ((with_reducible refine gate_builtin (b := .append) (xs := #[.tmp 21, .tmp 28]) rfl ?_); at_builtin; refine Kd.R_append (Kd.int .u8) (w0 := w) w.heap.size rfl (.tmp 21) (.tmp 28) 23 5 (.int .u8 0) 1 rfl Try.underlying23 info5 rfl (by decide) (by omega) u7 x7_1 ((ji13) % 256) [.int .u8 ((ji13) % 256)] (fun _ => True) (fun _ => False) rfl rfl ?aP (fun _ hk => hk.elim) ?aF ?aO ?aB ?aS ?aL ?_; (case aP => exact rfl); (case aB => exact (belN HB.out)); (case aF => exact (fun _ _ => trivial)); (case aO => exact (rowN HO_7.out)); (case aS => exact (below_size (belN HB.out))); (case aL => have := LMc14.out; omega); intro v201 w15 ho hb hg hat; rw [← Ny200.out] at ho; have n0_ := Aside0.mk (hb); have n1_ := Aside0.mk (ho); clear HB; clear HO_7; have HB := n0_; have HO202 := n1_; clear n0_ n1_; clear ho hb hg hat))
       go_roundg k1
       case measure => have := HK1.out; omega
       case rel => exact ⟨(y200), (wrap64 (x8_1 - 1)), (by first | rfl | (simp; done) | (simp [*]; done)), H', ⟨by have := HK1.out; omega⟩, ⟨(rowN HO202.out)⟩, ⟨(belN HB.out)⟩⟩
      ·rw [if_neg c14] at H
       exact absurd H (by simp)
     ·rw [if_neg c12] at H
      exact absurd H (by simp)
    ·rw [if_neg c10] at H
     have c10b0 : decide (0 ≤ x8_1) = false := decide_eq_false c10
     clear c10
     obtain rfl := Option.some.inj H
     go_wp2
     go_ret
     exact ⟨_, by first | rfl | (simp [errW_none, errW_some] <;> rfl) | (simp only [← hji5, ← hji6]; first | rfl | (simp [errW_none, errW_some] <;> rfl)) | (simp [*, errW_none, errW_some] <;> rfl), (rowN HO_7.out), (belN HB.out)⟩
 ·rw [if_neg c4] at H
  exact absurd H (by simp)

/-! ### marigraphref4_Batch: function 34 -/
def marigraphref4_Batch.l0 : Nat → List (S49) → List Int → Int → Option (List Int)
 | 0, _, _, _ => none
 | k + 1, x0, x3, x4 => if x4 < (x0.length : Int) then (if 0 ≤ x4 then (if (rd_T49 x0 x4).f2 = true then ((some (([0, ((((rd_T49 x0 x4).f0).length : Int)) % 256] : List Int) : List Int)).bind fun y208 => (if x3.length + y208.length < 140737488355328 then ((some (x3 ++ y208 : List Int)).bind fun y211 => (if y211.length + ((rd_T49 x0 x4).f0).length < 140737488355328 then (marigraphref4_Batch.l0 k x0 (y211 ++ ((rd_T49 x0 x4).f0)) (wrap64 (x4 + 1))) else (none))) else (none))) else ((some (([1, ((((rd_T49 x0 x4).f0).length : Int)) % 256] : List Int) : List Int)).bind fun y217 => (if x3.length + y217.length < 140737488355328 then ((some (x3 ++ y217 : List Int)).bind fun y220 => (if y220.length + ((rd_T49 x0 x4).f0).length < 140737488355328 then ((marigraphref2_Put.f k (y220 ++ ((rd_T49 x0 x4).f0)) (IntKind.u64.wrap ((((rd_T49 x0 x4).f1).length : Int))) 2).bind fun t226 => (if t226.length + ((rd_T49 x0 x4).f1).length < 140737488355328 then (marigraphref4_Batch.l0 k x0 (t226 ++ ((rd_T49 x0 x4).f1)) (wrap64 (x4 + 1))) else (none))) else (none))) else (none)))) else (none)) else (some x3)
def marigraphref4_Batch.f (k : Nat) (l0 : List (S49)) : Option (List Int) := (marigraphref2_Put.f k ([] : List Int) (IntKind.u64.wrap ((l0.length : Int))) 2).bind fun t203 => (marigraphref4_Batch.l0 k l0 t203 0)
theorem marigraphref4_Batch.mono_l : ∀ k, (∀ y0 y1 y2, LeO (marigraphref4_Batch.l0 k y0 y1 y2) (marigraphref4_Batch.l0 (k + 1) y0 y1 y2))
 | 0 => fun _ _ _ r h => by simp [marigraphref4_Batch.l0] at h
 | k + 1 => by
  have ih0 := marigraphref4_Batch.mono_l k
  ·intro y0 y1 y2
   unfold marigraphref4_Batch.l0
   repeat' first
   | (with_reducible exact ih0 _ _ _)
   | (with_reducible exact marigraphref2_Put.mono _ _ _ _)
   | (with_reducible exact LeO.refl _)
   | (with_reducible exact LeO.none _)
   | (with_reducible refine LeO.ite ?_ ?_)
   | (with_reducible refine LeO.bind ?_ (fun _ => ?_))
   | exact ih0 _ _ _
   | exact marigraphref2_Put.mono _ _ _ _
   | exact LeO.none _
   | refine LeO.ite ?_ ?_
   | refine LeO.bind ?_ (fun _ => ?_)
theorem marigraphref4_Batch.mono : ∀ a0 k, LeO (marigraphref4_Batch.f k a0) (marigraphref4_Batch.f (k + 1) a0) := by
 intro a0 k
 have ih0 := marigraphref4_Batch.mono_l k
 unfold marigraphref4_Batch.f
 repeat' first
   | (with_reducible exact ih0 _ _ _)
   | (with_reducible exact marigraphref2_Put.mono _ _ _ _)
   | (with_reducible exact LeO.refl _)
   | (with_reducible exact LeO.none _)
   | (with_reducible refine LeO.ite ?_ ?_)
   | (with_reducible refine LeO.bind ?_ (fun _ => ?_))
   | exact ih0 _ _ _
   | exact marigraphref2_Put.mono _ _ _ _
   | exact LeO.none _
   | refine LeO.ite ?_ ?_
   | refine LeO.bind ?_ (fun _ => ?_)
def marigraphref4_Batch.T7 : Bool × List (List Nat × List Nat) := (true, [([], []), ([], []), ([1], [1]), ([2], [2]), ([3], [3]), ([4], [4]), ([0, 5], [0, 5]), ([], []), ([7], [7]), ([6, 8, 6], [6, 8]), ([9, 9, 0, 1, 2, 3, 4, 5, 6, 7, 8, 9], [0, 9])])
def marigraphref4_Batch.B7 : List Nat := [0, 0, 2, 6, 14, 30, 63, 0, 128, 511, 1023]
theorem marigraphref4_Batch.tab7 : rtab .any (opsOf Try.f34 7) = marigraphref4_Batch.T7 := by kernel_rfl
theorem marigraphref4_Batch.bits7 : waitsOk marigraphref4_Batch.T7.2 marigraphref4_Batch.B7 = true := by kernel_rfl
def marigraphref4_Batch.T8 : Bool × List (List Nat × List Nat) := (true, [([], []), ([], []), ([1], [1]), ([2], [2]), ([3], [3]), ([4], [4]), ([0, 5], [0, 5]), ([], []), ([7], [7]), ([6, 8, 6], [6, 8]), ([9, 9, 0, 1, 2, 3, 4, 5, 6, 7, 8, 9], [0, 9])])
def marigraphref4_Batch.B8 : List Nat := [0, 0, 2, 6, 14, 30, 63, 0, 128, 511, 1023]
theorem marigraphref4_Batch.tab8 : rtab .any (opsOf Try.f34 8) = marigraphref4_Batch.T8 := by kernel_rfl
theorem marigraphref4_Batch.bits8 : waitsOk marigraphref4_Batch.T8.2 marigraphref4_Batch.B8 = true := by kernel_rfl
def marigraphref4_Batch.T9 : Bool × List (List Nat × List Nat) := (true, [([], []), ([], []), ([1], [1]), ([2], [2]), ([3], [3]), ([0, 4], [0, 4]), ([], []), ([6], [6]), ([5, 7, 5], [5, 7]), ([8, 8, 0, 1, 2, 3, 4, 5, 6, 7, 8], [0, 8])])
def marigraphref4_Batch.B9 : List Nat := [0, 0, 2, 6, 14, 31, 0, 64, 255, 511]
theorem marigraphref4_Batch.tab9 : rtab .any (opsOf Try.f34 9) = marigraphref4_Batch.T9 := by kernel_rfl
theorem marigraphref4_Batch.bits9 : waitsOk marigraphref4_Batch.T9.2 marigraphref4_Batch.B9 = true := by kernel_rfl
set_option maxHeartbeats 8000000 in
set_option maxRecDepth 100000 in
theorem marigraphref4_Batch.calls (k : Nat) (A0 : Option Addr) (c0 : Nat) (l0 : List (S49)) (r : List Int) (w : World) (hr0 : Kd.C k49 w A0 l0.length l0) (hc0 : l0.length ≤ c0) (h : marigraphref4_Batch.f k l0 = some r) :
  Calls Try.prog 34 #[.slice A0 l0.length c0] w fun e w' => ∃ v0_ : Value, e = .returned (v0_) ∧ Kd.R (Kd.int .u8) 5 w' w.heap.size (fun _ => True) v0_ r ∧ Below w.heap.size w w' := by
 have hu49 := Try.underlying49
 have HR0 := Aside0.mk hr0
 have HC0 := Aside0.mk hc0
 clear hr0 hc0
 have HB := Aside0.mk (Below.refl w.heap.size w)
 have H : ((marigraphref2_Put.f k ([] : List Int) (IntKind.u64.wrap ((l0.length : Int))) 2).bind fun t203 => (marigraphref4_Batch.l0 k l0 t203 0)) = some r := h
 clear h
 replace H := Option.bind_eq_some_iff.mp H
 obtain ⟨t203, A20, H⟩ := H
 replace H : (marigraphref4_Batch.l0 k l0 t203 0) = some r := H
 have A2 := Aside0.mk A20
 clear A20
 have H' := Aside0.mk H
 clear H
 go_enter Try.func34, Try.ntmps34
 go_wp2_with (first | ((with_reducible refine gate_callee (f := 41) rfl ?_); refine goesL_ (some 9) rfl rfl Try.func41 (by kernel_rfl) rfl #[.slice none 0 0, .int .u64 (IntKind.u64.wrap ((l0.length : Int))), .int .i64 2] rfl argN ?_; (refine (marigraphref2_Put.calls k _ _ ([] : List Int) (IntKind.u64.wrap ((l0.length : Int))) 2 t203 _ ?side1 ?side2 A2.out).mono ?_); (case side1 => exact Kd.C_nil _ _); (case side2 => exact Nat.le_refl _); rintro e w3 ⟨v204, rfl, ho0, hb⟩; refine ⟨_, rfl, ?_⟩; have n0_ := Aside0.mk (Kd.R_lower ho0 (below_size (belN HB.out))); have n1_ := Aside0.mk (below_step (belN HB.out) hb); clear HB; have HO205 := n0_; have HB := n1_; clear n0_ n1_; (try clear hb); (try clear hk); (try clear ho0)))
 go_loopg [3, 4] k (fun kq v3 v4 w' => ∃ (x3_1 : List Int) (x4_1 : Int), v4 = .int .i64 x4_1 ∧ Aside0 (marigraphref4_Batch.l0 kq l0 x3_1 x4_1 = some r) ∧ Aside0 (kq ≤ k) ∧ Aside0 (Kd.R (Kd.int .u8) 5 w' w.heap.size (fun _ => True) v3 x3_1) ∧ Aside0 (Below w.heap.size w w'))
 case atStart => exact ⟨(t203), (0), (by first | rfl | (simp; done) | (simp [*]; done)), H', ⟨Nat.le_refl _⟩, ⟨(rowN HO205.out)⟩, ⟨(belN HB.out)⟩⟩
 case round =>
  clear H'
  try clear p2
  try clear c3
  obtain ⟨x3_1, x4_1, rfl, HA, HK1, HO_3, HB⟩ := hrel
  cases gk with
  | zero => exact absurd HA.out (by simp [marigraphref4_Batch.l0])
  | succ k1 =>
   have H := HA.out
   clear HA
   simp only [marigraphref4_Batch.l0] at H
   by_cases c4 : x4_1 < (l0.length : Int)
   ·rw [if_pos c4] at H
    have c4b0 : decide (x4_1 < (l0.length : Int)) = true := decide_eq_true c4
    clear c4
    by_cases c5 : 0 ≤ x4_1
    ·rw [if_pos c5] at H
     have c5b0 : decide (0 ≤ x4_1) = true := decide_eq_true c5
     clear c5
     obtain ⟨bq6, hbq6⟩ : ∃ b_ : Bool, b_ = ((rd_T49 l0 x4_1).f2) := ⟨_, rfl⟩
     replace H : (if bq6 = true then ((some (([0, ((((rd_T49 l0 x4_1).f0).length : Int)) % 256] : List Int) : List Int)).bind fun y208 => (if x3_1.length + y208.length < 140737488355328 then ((some (x3_1 ++ y208 : List Int)).bind fun y211 => (if y211.length + ((rd_T49 l0 x4_1).f0).length < 140737488355328 then (marigraphref4_Batch.l0 k1 l0 (y211 ++ ((rd_T49 l0 x4_1).f0)) (wrap64 (x4_1 + 1))) else (none))) else (none))) else ((some (([1, ((((rd_T49 l0 x4_1).f0).length : Int)) % 256] : List Int) : List Int)).bind fun y217 => (if x3_1.length + y217.length < 140737488355328 then ((some (x3_1 ++ y217 : List Int)).bind fun y220 => (if y220.length + ((rd_T49 l0 x4_1).f0).length < 140737488355328 then ((marigraphref2_Put.f k1 (y220 ++ ((rd_T49 l0 x4_1).f0)) (IntKind.u64.wrap ((((rd_T49 l0 x4_1).f1).length : Int))) 2).bind fun t226 => (if t226.length + ((rd_T49 l0 x4_1).f1).length < 140737488355328 then (marigraphref4_Batch.l0 k1 l0 (t226 ++ ((rd_T49 l0 x4_1).f1)) (wrap64 (x4_1 + 1))) else (none))) else (none))) else (none)))) = some r := by rw [← hbq6] at H; exact H
     have Nbq6 := Aside0.mk hbq6
     clear hbq6
     by_cases c7 : bq6 = true
     ·subst c7
      have H1 : ((some (([0, ((((rd_T49 l0 x4_1).f0).length : Int)) % 256] : List Int) : List Int)).bind fun y208 => (if x3_1.length + y208.length < 140737488355328 then ((some (x3_1 ++ y208 : List Int)).bind fun y211 => (if y211.length + ((rd_T49 l0 x4_1).f0).length < 140737488355328 then (marigraphref4_Batch.l0 k1 l0 (y211 ++ ((rd_T49 l0 x4_1).f0)) (wrap64 (x4_1 + 1))) else (none))) else (none))) = some r := by rw [if_pos rfl] at H; exact H
      clear H
      have H := H1
      clear H1
      obtain ⟨y208, hy208⟩ : ∃ y_ : List Int, y_ = (([0, ((((rd_T49 l0 x4_1).f0).length : Int)) % 256] : List Int)) := ⟨_, rfl⟩
      replace H : (if x3_1.length + y208.length < 140737488355328 then ((some (x3_1 ++ y208 : List Int)).bind fun y211 => (if y211.length + ((rd_T49 l0 x4_1).f0).length < 140737488355328 then (marigraphref4_Batch.l0 k1 l0 (y211 ++ ((rd_T49 l0 x4_1).f0)) (wrap64 (x4_1 + 1))) else (none))) else (none)) = some r := by first | (rw [hy208]; with_reducible exact H) | (have H2_ := (Option.bind_some _ _).symm.trans H; rw [hy208]; with_reducible exact H2_) | (have H2_ := (Option.bind_some _ _).symm.trans H; with_reducible exact H2_) | with_reducible exact H | (rw [hy208]; exact H) | exact H
      have Ny208 := Aside0.mk hy208
      clear hy208
      by_cases c8 : x3_1.length + y208.length < 140737488355328
      ·rw [if_pos c8] at H
       have LMc8 := Aside0.mk c8
       clear c8
       obtain ⟨y211, hy211⟩ : ∃ y_ : List Int, y_ = (x3_1 ++ y208) := ⟨_, rfl⟩
       replace H : (if y211.length + ((rd_T49 l0 x4_1).f0).length < 140737488355328 then (marigraphref4_Batch.l0 k1 l0 (y211 ++ ((rd_T49 l0 x4_1).f0)) (wrap64 (x4_1 + 1))) else (none)) = some r := by first | (rw [hy211]; with_reducible exact H) | (have H2_ := (Option.bind_some _ _).symm.trans H; rw [hy211]; with_reducible exact H2_) | (have H2_ := (Option.bind_some _ _).symm.trans H; with_reducible exact H2_) | with_reducible exact H | (rw [hy211]; exact H) | exact H
       have Ny211 := Aside0.mk hy211
       clear hy211
       by_cases c9 : y211.length + ((rd_T49 l0 x4_1).f0).length < 140737488355328
       ·rw [if_pos c9] at H
        have LMc9 := Aside0.mk c9
        clear c9
        obtain ⟨y214, hy214⟩ : ∃ y_ : List Int, y_ = (y211 ++ ((rd_T49 l0 x4_1).f0)) := ⟨_, rfl⟩
        replace H : (marigraphref4_Batch.l0 k1 l0 y214 (wrap64 (x4_1 + 1))) = some r := by first | (rw [hy214]; with_reducible exact H) | (have H2_ := (Option.bind_some _ _).symm.trans H; rw [hy214]; with_reducible exact H2_) | (have H2_ := (Option.bind_some _ _).symm.trans H; with_reducible exact H2_) | with_reducible exact H | (rw [hy214]; exact H) | exact H
        have Ny214 := Aside0.mk hy214
        clear hy214
        have H' := Aside0.mk H
        clear H
        have p206 : 0 ≤ (x4_1 : Int) := of_decide_eq_true (by first | (with_reducible assumption) | assumption)
        have q206 : x4_1 < (l0.length : Int) := of_decide_eq_true (by first | (with_reducible assumption) | assumption)
        obtain ⟨ad206, A206_0, c206_0, A206_1, c206_1, e206, hx206_0, hx206_1, hx206_2, hl206_0, hi206_0, hl206_1, hi206_1⟩ := at_T49 HR0.out x4_1 p206 q206
        (try rw [← Nbq6.out] at hx206_2)
        cases e206
        replace hx206_0 := cellB HB.out hx206_0
        replace hx206_1 := cellB HB.out hx206_1
        replace hx206_2 := cellB HB.out hx206_2
        have HR206_0 := Aside0.mk hi206_0
        have HC206_0 := Aside0.mk hl206_0
        clear hi206_0 hl206_0
        have HR206_1 := Aside0.mk hi206_1
        have HC206_1 := Aside0.mk hl206_1
        clear hi206_1 hl206_1
        replace p206 := eq_true p206
        replace q206 := eq_true q206
        try go_wp2_with (first | ((with_reducible refine gate_dst (N := 5) rfl ?_); refine box_event ?hg (N := 5) ?hd (cs := #[.slice none 0 0, .slice none 0 0, .bool false]) (t := 49) ?hr ?_; (case hd => rfl); (case hg => rfl); (case hr => first | (go_simp; done) | (go_simp; rfl)); intro gb207 hg w10 hbox hb; have n0_ := Aside0.mk (Kd.R_below (rowN HO_3.out) hb); have n1_ := Aside0.mk (below_step (belN HB.out) hb); have n2_ := Aside0.mk (hbox); have n3_ := Aside0.mk (szB hg HB.out); have n4_ := Aside0.mk (szB hg HB.out); clear HO_3; clear HB; have HO_3 := n0_; have HB := n1_; have BK207 := n2_; have GW207 := n3_; have GE207 := n4_; clear n0_ n1_ n2_ n3_ n4_; clear hb hbox hg; have hcz11_0 : w10.cell? ⟨gb207, 0, none⟩ = some (.slice none 0 0) := (blk_cell BK207.out 0).trans rfl; have hcz11_1 : w10.cell? ⟨gb207, 1, none⟩ = some (.slice none 0 0) := (blk_cell BK207.out 1).trans rfl; have hcz11_2 : w10.cell? ⟨gb207, 2, none⟩ = some (.bool false) := (blk_cell BK207.out 2).trans rfl; have hfz11_0 := blk_frozen BK207.out 0; have hfz11_1 := blk_frozen BK207.out 1; have hfz11_2 := blk_frozen BK207.out 2))
        have n0_ : Aside0 (Kd.R (Kd.int .u8) 5 (((w10.setCell ⟨gb207, 0, none⟩ (.slice A206_0 ((rd_T49 l0 x4_1).f0).length c206_0)).setCell ⟨gb207, 1, none⟩ (.slice A206_1 ((rd_T49 l0 x4_1).f1).length c206_1)).setCell ⟨gb207, 2, none⟩ (.bool true)) w.heap.size (fun _ => True) u3 x3_1) := ⟨by (with_reducible repeat (first | apply Kd.R_alloc | apply Kd.R_drewN | apply Kd.R_drew)); exact Kd.R_mono (Kd.R_far (p := ⟨gb207, 2, none⟩) (Kd.R_far (p := ⟨gb207, 1, none⟩) (Kd.R_far (p := ⟨gb207, 0, none⟩) (Kd.R_types HO_3.out BK207.out (by decide)) (fun _ hk => hk.2) (.slice A206_0 ((rd_T49 l0 x4_1).f0).length c206_0)) (fun _ hk => hk.2) (.slice A206_1 ((rd_T49 l0 x4_1).f1).length c206_1)) (fun _ hk => hk.2) (.bool true)) (fun _ hk => trivial)⟩
        have n1_ : Aside0 ((((w10.setCell ⟨gb207, 0, none⟩ (.slice A206_0 ((rd_T49 l0 x4_1).f0).length c206_0)).setCell ⟨gb207, 1, none⟩ (.slice A206_1 ((rd_T49 l0 x4_1).f1).length c206_1)).setCell ⟨gb207, 2, none⟩ (.bool true)).heap[gb207]? = some (.cells #[.slice A206_0 ((rd_T49 l0 x4_1).f0).length c206_0, .slice A206_1 ((rd_T49 l0 x4_1).f1).length c206_1, .bool true] 49 (0, 0))) := ⟨by (with_reducible repeat (first | refine blk_drewN ?_ _ | refine blk_drew ?_ | refine blk_alloc ?_ _)); refine blk_put (cs := #[.slice A206_0 ((rd_T49 l0 x4_1).f0).length c206_0, .slice A206_1 ((rd_T49 l0 x4_1).f1).length c206_1, .bool false]) ?_ 2 _ rfl; (with_reducible repeat (first | refine blk_drewN ?_ _ | refine blk_drew ?_ | refine blk_alloc ?_ _)); refine blk_put (cs := #[.slice A206_0 ((rd_T49 l0 x4_1).f0).length c206_0, .slice none 0 0, .bool false]) ?_ 1 _ rfl; (with_reducible repeat (first | refine blk_drewN ?_ _ | refine blk_drew ?_ | refine blk_alloc ?_ _)); refine blk_put (cs := #[.slice none 0 0, .slice none 0 0, .bool false]) ?_ 0 _ rfl; (with_reducible repeat (first | refine blk_drewN ?_ _ | refine blk_drew ?_ | refine blk_alloc ?_ _)); exact BK207.out⟩
        have n2_ : Aside0 (Below w.heap.size w (((w10.setCell ⟨gb207, 0, none⟩ (.slice A206_0 ((rd_T49 l0 x4_1).f0).length c206_0)).setCell ⟨gb207, 1, none⟩ (.slice A206_1 ((rd_T49 l0 x4_1).f1).length c206_1)).setCell ⟨gb207, 2, none⟩ (.bool true))) := ⟨(belS HB.out)⟩
        (try clear HO_3)
        (try clear BK207)
        (try clear HB)
        generalize (((w10.setCell ⟨gb207, 0, none⟩ (.slice A206_0 ((rd_T49 l0 x4_1).f0).length c206_0)).setCell ⟨gb207, 1, none⟩ (.slice A206_1 ((rd_T49 l0 x4_1).f1).length c206_1)).setCell ⟨gb207, 2, none⟩ (.bool true)) = w12 at n0_ n1_ n2_ ⊢
        have HO_3 := n0_
        have BK207 := n1_
        have HB := n2_
        clear n0_ n1_ n2_
        have n0_ := Aside0.mk (Kd.R_drew HO_3.out)
        have n1_ := Aside0.mk (blk_drew BK207.out)
        have n2_ := Aside0.mk (below_drew1 HB.out)
        clear HO_3
        clear BK207
        clear HB
        have HO_3 := n0_
        have BK207 := n1_
        have HB := n2_
        clear n0_ n1_ n2_
        refine start_ (n := 11) (S := fun w' => w'.cell? ⟨gb207, 0, none⟩ = some (.slice A206_0 ((rd_T49 l0 x4_1).f0).length c206_0) ∧ w'.cell? ⟨gb207, 1, none⟩ = some (.slice A206_1 ((rd_T49 l0 x4_1).f1).length c206_1) ∧ w'.cell? ⟨gb207, 2, none⟩ = some (.bool true)) (ds := []) #[false, false, false, false, false, false, false, false, false, false, false] (by kernel_rfl) rfl rfl ⟨(blk_cell BK207.out 0).trans rfl, (blk_cell BK207.out 1).trans rfl, (blk_cell BK207.out 2).trans rfl⟩ (fun hHeld => ?_); refine with_tabW marigraphref4_Batch.tab7 marigraphref4_Batch.bits7 (fun HT_ HW_ => ?_)
        generalize w12.drew = w13 at HO_3 BK207 HB hHeld ⊢
        refine pA 0 (some 22) (bA 11 1) HT_.out ?_
        refine pA 1 (some 23) (bA 11 3) HT_.out ?_
        refine pA 7 (some 29) (bA 11 131) HT_.out ?_
        refine take_ (i := 2) (N := some 24) (v := ?_) (a' := ?_) (bA 11 135) rfl rfl (take_ofW HT_.out HW_.out (by kernel_rfl)) (fun _ _ _ h => h) (Or.inl ⟨by rfl, ?_⟩) hHeld ?_ ?_
        rotate_left
        ·rintro w' ⟨s0, s1, s2⟩
         go_simp
         with_reducible rfl
        rotate_left
        ·simp only [Act.put, List.setIfInBounds_toArray, List.set_cons_zero, List.set_cons_succ, i64_w, i32_w]
         rfl
        refine pA 3 (some 25) (bA 11 143) HT_.out ?_
        refine pA 4 (some 26) (bA 11 159) HT_.out ?_
        refine take_ (i := 8) (N := some 30) (v := ?_) (a' := ?_) (bA 11 415) rfl rfl (take_ofW HT_.out HW_.out (by kernel_rfl)) (fun _ _ _ h => h) (Or.inl ⟨by rfl, ?_⟩) hHeld ?_ ?_
        rotate_left
        ·rintro w' ⟨s0, s1, s2⟩
         go_simp
         with_reducible rfl
        rotate_left
        ·simp only [Act.put, List.setIfInBounds_toArray, List.set_cons_zero, List.set_cons_succ, i64_w, i32_w]
         rfl
        refine one_ (i := 5) (N := some 27) (bA 11 447) rfl rfl (one_of HT_.out (by kernel_rfl)) (by decide) (fun K hK => ?_)
        refine Kd.R_lit_step (Kd.int .u8) _ 5 ?hg (N := 27) ?hd (xs := ([0, ((((rd_T49 l0 x4_1).f0).length : Int)) % 256] : List Int)) (inner := [.int .u8 0, .int .u8 (((((rd_T49 l0 x4_1).f0).length : Int)) % 256)]) (ok := fun _ => True) (okp := fun _ => True) ?hr ?hp (fun _ hk => hk) trivial (Below.refl _ _) (Nat.le_refl _) (by simp) ?_; (case hd => rfl); (case hg => rfl); (case hr => first | (go_simp; done) | (go_simp; rfl)); (case hp => exact (Reps.one (show Kd.M (Kd.int .u8) _ _ _ 0 [.int .u8 0] from rfl) (Reps.one (show Kd.M (Kd.int .u8) _ _ _ (((((rd_T49 l0 x4_1).f0).length : Int)) % 256) [.int .u8 (((((rd_T49 l0 x4_1).f0).length : Int)) % 256)] from rfl) (Reps.none _ _))))
        intro v209 w14 ho15 hb hg_ hnew_
        clear hg_ hnew_
        (first | rw [← Ny208.out] at ho15 | (simp only [Int.reduceToNat] at ho15; rw [← Ny208.out] at ho15))
        have n0_ := Aside0.mk (Kd.R_elder' (rowN HO_3.out) (Kd.R_base ho15) hb)
        have n1_ := Aside0.mk (Kd.R_lower (Kd.R_new' ho15 (Kd.R_lt (rowN HO_3.out))) (below_size (belS HB.out)))
        have n2_ := Aside0.mk (bkB BK207.out hb)
        have n3_ := Aside0.mk (below_step (belS HB.out) hb)
        clear HO_3
        clear BK207
        clear HB
        have HO_3 := n0_
        have HO210 := n1_
        have BK207 := n2_
        have HB := n3_
        clear n0_ n1_ n2_ n3_
        clear hb ho15
        obtain ⟨Ao17, co17, eo17⟩ := Kd.R_slice HO210.out
        (first | subst eo17 | (injection eo17 with f1_ f2_ f3_; have f4_ := f1_.symm; have f5_ := f3_.symm; clear f1_ f2_ f3_; subst f4_; subst f5_))
        refine hK.out _ _ ⟨(blk_cell BK207.out 0).trans rfl, (blk_cell BK207.out 1).trans rfl, (blk_cell BK207.out 2).trans rfl⟩ (fun hHeld => ?_)
        clear hK K
        refine norm_ (a' := ?_) ?_ ?_
        rotate_left
        ·show Act.put _ (some 27) _ = _
         simp only [Act.put, List.setIfInBounds_toArray, List.set_cons_zero, List.set_cons_succ, i64_w, i32_w]
         rfl
        refine one_ (i := 6) (N := some 28) (bA 11 511) rfl rfl (one_of HT_.out (by kernel_rfl)) (by decide) (fun K hK => ?_)
        refine Kd.R_append_rows_step (Kd.int .u8) (w0 := w) w.heap.size (by rfl) (.tmp 22) (.tmp 27) 23 5 (.int .u8 0) 1 rfl Try.underlying23 info5 rfl (by decide) (by omega) u3 x3_1 y208 _ _ _ (fun k_ => some k_ ≠ (.slice Ao17 y208.length co17 : Value).ownBlock) (fun _ => False) rfl rfl ?aO ?aR (fun _ _ h => h) (fun _ h => h.elim) ?aF ?aB ?aS ?aL ?_
        (case aR => repeat (first | exact (Kd.R_reads' HO210.out).2.2 | (with_reducible refine Kd.C_alloc ?_ _) | (with_reducible refine Kd.C_drewN ?_ _) | (with_reducible refine Kd.C_drew ?_)))
        (case aB => exact (belS HB.out))
        (case aF => exact (fun k_ hk => Kd.fresh' (Kd.R_lt (rowN HO210.out)) k_ hk))
        (case aO => exact (by (with_reducible repeat (first | apply Kd.R_alloc | apply Kd.R_drewN | apply Kd.R_drew)); exact Kd.R_mono HO_3.out (fun _ hk => hk.2)))
        (case aS => exact (below_size (belS HB.out)))
        (case aL => have := LMc8.out; omega)
        intro v212 w16 ho hb hg hat
        rw [← Ny211.out] at ho
        have n0_ := Aside0.mk (blk_grown (g := gb207) (o := .cells #[.slice A206_0 ((rd_T49 l0 x4_1).f0).length c206_0, .slice A206_1 ((rd_T49 l0 x4_1).f1).length c206_1, .bool true] 49 (0, 0)) (blkN BK207.out) hg (Kd.R_ne HO_3.out BK207.out (by decide)))
        have n1_ := Aside0.mk (Kd.R_after (ok := (fun _ => True)) (rowN HO210.out) hg hat)
        have n2_ := Aside0.mk (hb)
        have n3_ := Aside0.mk (ho)
        clear BK207
        clear HO210
        clear HB
        clear HO_3
        have BK207 := n0_
        have HO210 := n1_
        have HB := n2_
        have HO213 := n3_
        clear n0_ n1_ n2_ n3_
        clear ho hb hg hat
        refine hK.out _ _ ⟨(blk_cell BK207.out 0).trans rfl, (blk_cell BK207.out 1).trans rfl, (blk_cell BK207.out 2).trans rfl⟩ (fun hHeld => ?_)
        clear hK K
        refine norm_ (a' := ?_) ?_ ?_
        rotate_left
        ·show Act.put _ (some 28) _ = _
         simp only [Act.put, List.setIfInBounds_toArray, List.set_cons_zero, List.set_cons_succ, i64_w, i32_w]
         rfl
        refine one_ (i := 9) (N := some 31) (bA 11 1023) rfl rfl (one_of HT_.out (by kernel_rfl)) (by decide) (fun K hK => ?_)
        refine Kd.R_append_rows_step (Kd.int .u8) (w0 := w) w.heap.size (by rfl) (.tmp 28) (.tmp 30) 23 5 (.int .u8 0) 1 rfl Try.underlying23 info5 rfl (by decide) (by omega) v212 y211 ((rd_T49 l0 x4_1).f0) _ _ _ (fun k_ => some k_ ≠ (.slice Ao17 y208.length co17 : Value).ownBlock) (fun _ => False) rfl rfl ?aO ?aR (fun _ _ h => h) (fun _ h => h.elim) ?aF ?aB ?aS ?aL ?_
        (case aR => repeat (first | exact (Kd.C_below HR206_0.out HB.out) | (with_reducible refine Kd.C_alloc ?_ _) | (with_reducible refine Kd.C_drewN ?_ _) | (with_reducible refine Kd.C_drew ?_)))
        (case aB => exact (belS HB.out))
        (case aF => exact (fun k_ hk => Kd.fresh' (Kd.R_lt (rowN HO210.out)) k_ hk))
        (case aO => exact (rowN HO213.out))
        (case aS => exact (below_size (belS HB.out)))
        (case aL => have := LMc9.out; omega)
        intro v215 w18 ho hb hg hat
        rw [← Ny214.out] at ho
        have n0_ := Aside0.mk (blk_grown (g := gb207) (o := .cells #[.slice A206_0 ((rd_T49 l0 x4_1).f0).length c206_0, .slice A206_1 ((rd_T49 l0 x4_1).f1).length c206_1, .bool true] 49 (0, 0)) (blkN BK207.out) hg (Kd.R_ne HO213.out BK207.out (by decide)))
        have n1_ := Aside0.mk (Kd.R_after (ok := (fun _ => True)) (rowN HO210.out) hg hat)
        have n2_ := Aside0.mk (hb)
        have n3_ := Aside0.mk (ho)
        clear BK207
        clear HO210
        clear HB
        clear HO213
        have BK207 := n0_
        have HO210 := n1_
        have HB := n2_
        have HO216 := n3_
        clear n0_ n1_ n2_ n3_
        clear ho hb hg hat
        refine hK.out _ _ ⟨(blk_cell BK207.out 0).trans rfl, (blk_cell BK207.out 1).trans rfl, (blk_cell BK207.out 2).trans rfl⟩ (fun hHeld => ?_)
        clear hK K
        refine norm_ (a' := ?_) ?_ ?_
        rotate_left
        ·show Act.put _ (some 31) _ = _
         simp only [Act.put, List.setIfInBounds_toArray, List.set_cons_zero, List.set_cons_succ, i64_w, i32_w]
         rfl
        refine pA 10 (some 3) (bA 11 2047) HT_.out ?_
        refine done_ (done_of HT_.out (by kernel_rfl)) ?_
        try go_wp2
        go_roundg k1
        case measure => have := HK1.out; omega
        case rel => exact ⟨(y214), (wrap64 (x4_1 + 1)), (by first | rfl | (simp; done) | (simp [*]; done)), H', ⟨by have := HK1.out; omega⟩, ⟨by (with_reducible repeat (first | apply Kd.R_alloc | apply Kd.R_drewN | apply Kd.R_drew)); exact Kd.R_mono HO216.out (fun _ hk => trivial)⟩, ⟨(belS HB.out)⟩⟩
       ·rw [if_neg c9] at H
        exact absurd H (by simp)
      ·rw [if_neg c8] at H
       exact absurd H (by simp)
     ·replace c7 := Bool.eq_false_iff.mpr c7
      subst c7
      have H1 : ((some (([1, ((((rd_T49 l0 x4_1).f0).length : Int)) % 256] : List Int) : List Int)).bind fun y217 => (if x3_1.length + y217.length < 140737488355328 then ((some (x3_1 ++ y217 : List Int)).bind fun y220 => (if y220.length + ((rd_T49 l0 x4_1).f0).length < 140737488355328 then ((marigraphref2_Put.f k1 (y220 ++ ((rd_T49 l0 x4_1).f0)) (IntKind.u64.wrap ((((rd_T49 l0 x4_1).f1).length : Int))) 2).bind fun t226 => (if t226.length + ((rd_T49 l0 x4_1).f1).length < 140737488355328 then (marigraphref4_Batch.l0 k1 l0 (t226 ++ ((rd_T49 l0 x4_1).f1)) (wrap64 (x4_1 + 1))) else (none))) else (none))) else (none))) = some r := by rw [if_neg (show ¬ (false = true) by decide)] at H; exact H
      clear H
      have H := H1
      clear H1
      obtain ⟨y217, hy217⟩ : ∃ y_ : List Int, y_ = (([1, ((((rd_T49 l0 x4_1).f0).length : Int)) % 256] : List Int)) := ⟨_, rfl⟩
      replace H : (if x3_1.length + y217.length < 140737488355328 then ((some (x3_1 ++ y217 : List Int)).bind fun y220 => (if y220.length + ((rd_T49 l0 x4_1).f0).length < 140737488355328 then ((marigraphref2_Put.f k1 (y220 ++ ((rd_T49 l0 x4_1).f0)) (IntKind.u64.wrap ((((rd_T49 l0 x4_1).f1).length : Int))) 2).bind fun t226 => (if t226.length + ((rd_T49 l0 x4_1).f1).length < 140737488355328 then (marigraphref4_Batch.l0 k1 l0 (t226 ++ ((rd_T49 l0 x4_1).f1)) (wrap64 (x4_1 + 1))) else (none))) else (none))) else (none)) = some r := by first | (rw [hy217]; with_reducible exact H) | (have H2_ := (Option.bind_some _ _).symm.trans H; rw [hy217]; with_reducible exact H2_) | (have H2_ := (Option.bind_some _ _).symm.trans H; with_reducible exact H2_) | with_reducible exact H | (rw [hy217]; exact H) | exact H
      have Ny217 := Aside0.mk hy217
      clear hy217
      by_cases c19 : x3_1.length + y217.length < 140737488355328
      ·rw [if_pos c19] at H
       have LMc19 := Aside0.mk c19
       clear c19
       obtain ⟨y220, hy220⟩ : ∃ y_ : List Int, y_ = (x3_1 ++ y217) := ⟨_, rfl⟩
       replace H : (if y220.length + ((rd_T49 l0 x4_1).f0).length < 140737488355328 then ((marigraphref2_Put.f k1 (y220 ++ ((rd_T49 l0 x4_1).f0)) (IntKind.u64.wrap ((((rd_T49 l0 x4_1).f1).length : Int))) 2).bind fun t226 => (if t226.length + ((rd_T49 l0 x4_1).f1).length < 140737488355328 then (marigraphref4_Batch.l0 k1 l0 (t226 ++ ((rd_T49 l0 x4_1).f1)) (wrap64 (x4_1 + 1))) else (none))) else (none)) = some r := by first | (rw [hy220]; with_reducible exact H) | (have H2_ := (Option.bind_some _ _).symm.trans H; rw [hy220]; with_reducible exact H2_) | (have H2_ := (Option.bind_some _ _).symm.trans H; with_reducible exact H2_) | with_reducible exact H | (rw [hy220]; exact H) | exact H
       have Ny220 := Aside0.mk hy220
       clear hy220
       by_cases c20 : y220.length + ((rd_T49 l0 x4_1).f0).length < 140737488355328
       ·rw [if_pos c20] at H
        have LMc20 := Aside0.mk c20
        clear c20
        obtain ⟨y223, hy223⟩ : ∃ y_ : List Int, y_ = (y220 ++ ((rd_T49 l0 x4_1).f0)) := ⟨_, rfl⟩
        replace H : ((marigraphref2_Put.f k1 y223 (IntKind.u64.wrap ((((rd_T49 l0 x4_1).f1).length : Int))) 2).bind fun t226 => (if t226.length + ((rd_T49 l0 x4_1).f1).length < 140737488355328 then (marigraphref4_Batch.l0 k1 l0 (t226 ++ ((rd_T49 l0 x4_1).f1)) (wrap64 (x4_1 + 1))) else (none))) = some r := by first | (rw [hy223]; with_reducible exact H) | (have H2_ := (Option.bind_some _ _).symm.trans H; rw [hy223]; with_reducible exact H2_) | (have H2_ := (Option.bind_some _ _).symm.trans H; with_reducible exact H2_) | with_reducible exact H | (rw [hy223]; exact H) | exact H
        have Ny223 := Aside0.mk hy223
        clear hy223
        replace H := Option.bind_eq_some_iff.mp H
        obtain ⟨t226, A210, H⟩ := H
        replace H : (if t226.length + ((rd_T49 l0 x4_1).f1).length < 140737488355328 then (marigraphref4_Batch.l0 k1 l0 (t226 ++ ((rd_T49 l0 x4_1).f1)) (wrap64 (x4_1 + 1))) else (none)) = some r := H
        have A21 := Aside0.mk A210
        clear A210
        by_cases c22 : t226.length + ((rd_T49 l0 x4_1).f1).length < 140737488355328
        ·rw [if_pos c22] at H
         have LMc22 := Aside0.mk c22
         clear c22
         obtain ⟨y229, hy229⟩ : ∃ y_ : List Int, y_ = (t226 ++ ((rd_T49 l0 x4_1).f1)) := ⟨_, rfl⟩
         replace H : (marigraphref4_Batch.l0 k1 l0 y229 (wrap64 (x4_1 + 1))) = some r := by first | (rw [hy229]; with_reducible exact H) | (have H2_ := (Option.bind_some _ _).symm.trans H; rw [hy229]; with_reducible exact H2_) | (have H2_ := (Option.bind_some _ _).symm.trans H; with_reducible exact H2_) | with_reducible exact H | (rw [hy229]; exact H) | exact H
         have Ny229 := Aside0.mk hy229
         clear hy229
         have H' := Aside0.mk H
         clear H
         have p206 : 0 ≤ (x4_1 : Int) := of_decide_eq_true (by first | (with_reducible assumption) | assumption)
         have q206 : x4_1 < (l0.length : Int) := of_decide_eq_true (by first | (with_reducible assumption) | assumption)
         obtain ⟨ad206, A206_0, c206_0, A206_1, c206_1, e206, hx206_0, hx206_1, hx206_2, hl206_0, hi206_0, hl206_1, hi206_1⟩ := at_T49 HR0.out x4_1 p206 q206
         (try rw [← Nbq6.out] at hx206_2)
         cases e206
         replace hx206_0 := cellB HB.out hx206_0
         replace hx206_1 := cellB HB.out hx206_1
         replace hx206_2 := cellB HB.out hx206_2
         have HR206_0 := Aside0.mk hi206_0
         have HC206_0 := Aside0.mk hl206_0
         clear hi206_0 hl206_0
         have HR206_1 := Aside0.mk hi206_1
         have HC206_1 := Aside0.mk hl206_1
         clear hi206_1 hl206_1
         replace p206 := eq_true p206
         replace q206 := eq_true q206
         try go_wp2_with (first | ((with_reducible refine gate_dst (N := 5) rfl ?_); refine box_event ?hg (N := 5) ?hd (cs := #[.slice none 0 0, .slice none 0 0, .bool false]) (t := 49) ?hr ?_; (case hd => rfl); (case hg => rfl); (case hr => first | (go_simp; done) | (go_simp; rfl)); intro gb207 hg w23 hbox hb; have n0_ := Aside0.mk (Kd.R_below (rowN HO_3.out) hb); have n1_ := Aside0.mk (below_step (belN HB.out) hb); have n2_ := Aside0.mk (hbox); have n3_ := Aside0.mk (szB hg HB.out); have n4_ := Aside0.mk (szB hg HB.out); clear HO_3; clear HB; have HO_3 := n0_; have HB := n1_; have BK207 := n2_; have GW207 := n3_; have GE207 := n4_; clear n0_ n1_ n2_ n3_ n4_; clear hb hbox hg; have hcz24_0 : w23.cell? ⟨gb207, 0, none⟩ = some (.slice none 0 0) := (blk_cell BK207.out 0).trans rfl; have hcz24_1 : w23.cell? ⟨gb207, 1, none⟩ = some (.slice none 0 0) := (blk_cell BK207.out 1).trans rfl; have hcz24_2 : w23.cell? ⟨gb207, 2, none⟩ = some (.bool false) := (blk_cell BK207.out 2).trans rfl; have hfz24_0 := blk_frozen BK207.out 0; have hfz24_1 := blk_frozen BK207.out 1; have hfz24_2 := blk_frozen BK207.out 2))
         have n0_ : Aside0 (Kd.R (Kd.int .u8) 5 (((w23.setCell ⟨gb207, 0, none⟩ (.slice A206_0 ((rd_T49 l0 x4_1).f0).length c206_0)).setCell ⟨gb207, 1, none⟩ (.slice A206_1 ((rd_T49 l0 x4_1).f1).length c206_1)).setCell ⟨gb207, 2, none⟩ (.bool false)) w.heap.size (fun _ => True) u3 x3_1) := ⟨by (with_reducible repeat (first | apply Kd.R_alloc | apply Kd.R_drewN | apply Kd.R_drew)); exact Kd.R_mono (Kd.R_far (p := ⟨gb207, 2, none⟩) (Kd.R_far (p := ⟨gb207, 1, none⟩) (Kd.R_far (p := ⟨gb207, 0, none⟩) (Kd.R_types HO_3.out BK207.out (by decide)) (fun _ hk => hk.2) (.slice A206_0 ((rd_T49 l0 x4_1).f0).length c206_0)) (fun _ hk => hk.2) (.slice A206_1 ((rd_T49 l0 x4_1).f1).length c206_1)) (fun _ hk => hk.2) (.bool false)) (fun _ hk => trivial)⟩
         have n1_ : Aside0 ((((w23.setCell ⟨gb207, 0, none⟩ (.slice A206_0 ((rd_T49 l0 x4_1).f0).length c206_0)).setCell ⟨gb207, 1, none⟩ (.slice A206_1 ((rd_T49 l0 x4_1).f1).length c206_1)).setCell ⟨gb207, 2, none⟩ (.bool false)).heap[gb207]? = some (.cells #[.slice A206_0 ((rd_T49 l0 x4_1).f0).length c206_0, .slice A206_1 ((rd_T49 l0 x4_1).f1).length c206_1, .bool false] 49 (0, 0))) := ⟨by (with_reducible repeat (first | refine blk_drewN ?_ _ | refine blk_drew ?_ | refine blk_alloc ?_ _)); refine blk_put (cs := #[.slice A206_0 ((rd_T49 l0 x4_1).f0).length c206_0, .slice A206_1 ((rd_T49 l0 x4_1).f1).length c206_1, .bool false]) ?_ 2 _ rfl; (with_reducible repeat (first | refine blk_drewN ?_ _ | refine blk_drew ?_ | refine blk_alloc ?_ _)); refine blk_put (cs := #[.slice A206_0 ((rd_T49 l0 x4_1).f0).length c206_0, .slice none 0 0, .bool false]) ?_ 1 _ rfl; (with_reducible repeat (first | refine blk_drewN ?_ _ | refine blk_drew ?_ | refine blk_alloc ?_ _)); refine blk_put (cs := #[.slice none 0 0, .slice none 0 0, .bool false]) ?_ 0 _ rfl; (with_reducible repeat (first | refine blk_drewN ?_ _ | refine blk_drew ?_ | refine blk_alloc ?_ _)); exact BK207.out⟩
         have n2_ : Aside0 (Below w.heap.size w (((w23.setCell ⟨gb207, 0, none⟩ (.slice A206_0 ((rd_T49 l0 x4_1).f0).length c206_0)).setCell ⟨gb207, 1, none⟩ (.slice A206_1 ((rd_T49 l0 x4_1).f1).length c206_1)).setCell ⟨gb207, 2, none⟩ (.bool false))) := ⟨(belS HB.out)⟩
         (try clear HO_3)
         (try clear BK207)
         (try clear HB)
         generalize (((w23.setCell ⟨gb207, 0, none⟩ (.slice A206_0 ((rd_T49 l0 x4_1).f0).length c206_0)).setCell ⟨gb207, 1, none⟩ (.slice A206_1 ((rd_T49 l0 x4_1).f1).length c206_1)).setCell ⟨gb207, 2, none⟩ (.bool false)) = w25 at n0_ n1_ n2_ ⊢
         have HO_3 := n0_
         have BK207 := n1_
         have HB := n2_
         clear n0_ n1_ n2_
         have n0_ := Aside0.mk (Kd.R_drew HO_3.out)
         have n1_ := Aside0.mk (blk_drew BK207.out)
         have n2_ := Aside0.mk (below_drew1 HB.out)
         clear HO_3
         clear BK207
         clear HB
         have HO_3 := n0_
         have BK207 := n1_
         have HB := n2_
         clear n0_ n1_ n2_
         refine start_ (n := 11) (S := fun w' => w'.cell? ⟨gb207, 0, none⟩ = some (.slice A206_0 ((rd_T49 l0 x4_1).f0).length c206_0) ∧ w'.cell? ⟨gb207, 1, none⟩ = some (.slice A206_1 ((rd_T49 l0 x4_1).f1).length c206_1) ∧ w'.cell? ⟨gb207, 2, none⟩ = some (.bool false)) (ds := []) #[false, false, false, false, false, false, false, false, false, false, false] (by kernel_rfl) rfl rfl ⟨(blk_cell BK207.out 0).trans rfl, (blk_cell BK207.out 1).trans rfl, (blk_cell BK207.out 2).trans rfl⟩ (fun hHeld => ?_); refine with_tabW marigraphref4_Batch.tab8 marigraphref4_Batch.bits8 (fun HT_ HW_ => ?_)
         generalize w25.drew = w26 at HO_3 BK207 HB hHeld ⊢
         refine pA 0 (some 32) (bA 11 1) HT_.out ?_
         refine pA 1 (some 33) (bA 11 3) HT_.out ?_
         refine pA 7 (some 39) (bA 11 131) HT_.out ?_
         refine take_ (i := 2) (N := some 34) (v := ?_) (a' := ?_) (bA 11 135) rfl rfl (take_ofW HT_.out HW_.out (by kernel_rfl)) (fun _ _ _ h => h) (Or.inl ⟨by rfl, ?_⟩) hHeld ?_ ?_
         rotate_left
         ·rintro w' ⟨s0, s1, s2⟩
          go_simp
          with_reducible rfl
         rotate_left
         ·simp only [Act.put, List.setIfInBounds_toArray, List.set_cons_zero, List.set_cons_succ, i64_w, i32_w]
          rfl
         refine pA 3 (some 35) (bA 11 143) HT_.out ?_
         refine pA 4 (some 36) (bA 11 159) HT_.out ?_
         refine take_ (i := 8) (N := some 40) (v := ?_) (a' := ?_) (bA 11 415) rfl rfl (take_ofW HT_.out HW_.out (by kernel_rfl)) (fun _ _ _ h => h) (Or.inl ⟨by rfl, ?_⟩) hHeld ?_ ?_
         rotate_left
         ·rintro w' ⟨s0, s1, s2⟩
          go_simp
          with_reducible rfl
         rotate_left
         ·simp only [Act.put, List.setIfInBounds_toArray, List.set_cons_zero, List.set_cons_succ, i64_w, i32_w]
          rfl
         refine one_ (i := 5) (N := some 37) (bA 11 447) rfl rfl (one_of HT_.out (by kernel_rfl)) (by decide) (fun K hK => ?_)
         refine Kd.R_lit_step (Kd.int .u8) _ 5 ?hg (N := 37) ?hd (xs := ([1, ((((rd_T49 l0 x4_1).f0).length : Int)) % 256] : List Int)) (inner := [.int .u8 1, .int .u8 (((((rd_T49 l0 x4_1).f0).length : Int)) % 256)]) (ok := fun _ => True) (okp := fun _ => True) ?hr ?hp (fun _ hk => hk) trivial (Below.refl _ _) (Nat.le_refl _) (by simp) ?_; (case hd => rfl); (case hg => rfl); (case hr => first | (go_simp; done) | (go_simp; rfl)); (case hp => exact (Reps.one (show Kd.M (Kd.int .u8) _ _ _ 1 [.int .u8 1] from rfl) (Reps.one (show Kd.M (Kd.int .u8) _ _ _ (((((rd_T49 l0 x4_1).f0).length : Int)) % 256) [.int .u8 (((((rd_T49 l0 x4_1).f0).length : Int)) % 256)] from rfl) (Reps.none _ _))))
         intro v218 w27 ho28 hb hg_ hnew_
         clear hg_ hnew_
         (first | rw [← Ny217.out] at ho28 | (simp only [Int.reduceToNat] at ho28; rw [← Ny217.out] at ho28))
         have n0_ := Aside0.mk (Kd.R_elder' (rowN HO_3.out) (Kd.R_base ho28) hb)
         have n1_ := Aside0.mk (Kd.R_lower (Kd.R_new' ho28 (Kd.R_lt (rowN HO_3.out))) (below_size (belS HB.out)))
         have n2_ := Aside0.mk (bkB BK207.out hb)
         have n3_ := Aside0.mk (below_step (belS HB.out) hb)
         clear HO_3
         clear BK207
         clear HB
         have HO_3 := n0_
         have HO219 := n1_
         have BK207 := n2_
         have HB := n3_
         clear n0_ n1_ n2_ n3_
         clear hb ho28
         obtain ⟨Ao30, co30, eo30⟩ := Kd.R_slice HO219.out
         (first | subst eo30 | (injection eo30 with f1_ f2_ f3_; have f4_ := f1_.symm; have f5_ := f3_.symm; clear f1_ f2_ f3_; subst f4_; subst f5_))
         refine hK.out _ _ ⟨(blk_cell BK207.out 0).trans rfl, (blk_cell BK207.out 1).trans rfl, (blk_cell BK207.out 2).trans rfl⟩ (fun hHeld => ?_)
         clear hK K
         refine norm_ (a' := ?_) ?_ ?_
         rotate_left
         ·show Act.put _ (some 37) _ = _
          simp only [Act.put, List.setIfInBounds_toArray, List.set_cons_zero, List.set_cons_succ, i64_w, i32_w]
          rfl
         refine one_ (i := 6) (N := some 38) (bA 11 511) rfl rfl (one_of HT_.out (by kernel_rfl)) (by decide) (fun K hK => ?_)
         refine Kd.R_append_rows_step (Kd.int .u8) (w0 := w) w.heap.size (by rfl) (.tmp 32) (.tmp 37) 23 5 (.int .u8 0) 1 rfl Try.underlying23 info5 rfl (by decide) (by omega) u3 x3_1 y217 _ _ _ (fun k_ => some k_ ≠ (.slice Ao30 y217.length co30 : Value).ownBlock) (fun _ => False) rfl rfl ?aO ?aR (fun _ _ h => h) (fun _ h => h.elim) ?aF ?aB ?aS ?aL ?_
         (case aR => repeat (first | exact (Kd.R_reads' HO219.out).2.2 | (with_reducible refine Kd.C_alloc ?_ _) | (with_reducible refine Kd.C_drewN ?_ _) | (with_reducible refine Kd.C_drew ?_)))
         (case aB => exact (belS HB.out))
         (case aF => exact (fun k_ hk => Kd.fresh' (Kd.R_lt (rowN HO219.out)) k_ hk))
         (case aO => exact (by (with_reducible repeat (first | apply Kd.R_alloc | apply Kd.R_drewN | apply Kd.R_drew)); exact Kd.R_mono HO_3.out (fun _ hk => hk.2)))
         (case aS => exact (below_size (belS HB.out)))
         (case aL => have := LMc19.out; omega)
         intro v221 w29 ho hb hg hat
         rw [← Ny220.out] at ho
         have n0_ := Aside0.mk (blk_grown (g := gb207) (o := .cells #[.slice A206_0 ((rd_T49 l0 x4_1).f0).length c206_0, .slice A206_1 ((rd_T49 l0 x4_1).f1).length c206_1, .bool false] 49 (0, 0)) (blkN BK207.out) hg (Kd.R_ne HO_3.out BK207.out (by decide)))
         have n1_ := Aside0.mk (Kd.R_after (ok := (fun _ => True)) (rowN HO219.out) hg hat)
         have n2_ := Aside0.mk (hb)
         have n3_ := Aside0.mk (ho)
         clear BK207
         clear HO219
         clear HB
         clear HO_3
         have BK207 := n0_
         have HO219 := n1_
         have HB := n2_
         have HO222 := n3_
         clear n0_ n1_ n2_ n3_
         clear ho hb hg hat
         refine hK.out _ _ ⟨(blk_cell BK207.out 0).trans rfl, (blk_cell BK207.out 1).trans rfl, (blk_cell BK207.out 2).trans rfl⟩ (fun hHeld => ?_)
         clear hK K
         refine norm_ (a' := ?_) ?_ ?_
         rotate_left
         ·show Act.put _ (some 38) _ = _
          simp only [Act.put, List.setIfInBounds_toArray, List.set_cons_zero, List.set_cons_succ, i64_w, i32_w]
          rfl
         refine one_ (i := 9) (N := some 41) (bA 11 1023) rfl rfl (one_of HT_.out (by kernel_rfl)) (by decide) (fun K hK => ?_)
         refine Kd.R_append_rows_step (Kd.int .u8) (w0 := w) w.heap.size (by rfl) (.tmp 38) (.tmp 40) 23 5 (.int .u8 0) 1 rfl Try.underlying23 info5 rfl (by decide) (by omega) v221 y220 ((rd_T49 l0 x4_1).f0) _ _ _ (fun k_ => some k_ ≠ (.slice Ao30 y217.length co30 : Value).ownBlock) (fun _ => False) rfl rfl ?aO ?aR (fun _ _ h => h) (fun _ h => h.elim) ?aF ?aB ?aS ?aL ?_
         (case aR => repeat (first | exact (Kd.C_below HR206_0.out HB.out) | (with_reducible refine Kd.C_alloc ?_ _) | (with_reducible refine Kd.C_drewN ?_ _) | (with_reducible refine Kd.C_drew ?_)))
         (case aB => exact (belS HB.out))
         (case aF => exact (fun k_ hk => Kd.fresh' (Kd.R_lt (rowN HO219.out)) k_ hk))
         (case aO => exact (rowN HO222.out))
         (case aS => exact (below_size (belS HB.out)))
         (case aL => have := LMc20.out; omega)
         intro v224 w31 ho hb hg hat
         rw [← Ny223.out] at ho
         have n0_ := Aside0.mk (blk_grown (g := gb207) (o := .cells #[.slice A206_0 ((rd_T49 l0 x4_1).f0).length c206_0, .slice A206_1 ((rd_T49 l0 x4_1).f1).length c206_1, .bool false] 49 (0, 0)) (blkN BK207.out) hg (Kd.R_ne HO222.out BK207.out (by decide)))
         have n1_ := Aside0.mk (Kd.R_after (ok := (fun _ => True)) (rowN HO219.out) hg hat)
         have n2_ := Aside0.mk (hb)
         have n3_ := Aside0.mk (ho)
         clear BK207
         clear HO219
         clear HB
         clear HO222
         have BK207 := n0_
         have HO219 := n1_
         have HB := n2_
         have HO225 := n3_
         clear n0_ n1_ n2_ n3_
         clear ho hb hg hat
         refine hK.out _ _ ⟨(blk_cell BK207.out 0).trans rfl, (blk_cell BK207.out 1).trans rfl, (blk_cell BK207.out 2).trans rfl⟩ (fun hHeld => ?_)
         clear hK K
         refine norm_ (a' := ?_) ?_ ?_
         rotate_left
         ·show Act.put _ (some 41) _ = _
          simp only [Act.put, List.setIfInBounds_toArray, List.set_cons_zero, List.set_cons_succ, i64_w, i32_w]
          rfl
         refine pA 10 (some 3) (bA 11 2047) HT_.out ?_
         refine done_ (done_of HT_.out (by kernel_rfl)) ?_
         try go_wp2
         have n0_ := Aside0.mk (Kd.R_drew HO219.out)
         have n1_ := Aside0.mk (Kd.R_drew HO225.out)
         have n2_ := Aside0.mk (blk_drew BK207.out)
         have n3_ := Aside0.mk (below_drew1 HB.out)
         clear HO219
         clear HO225
         clear BK207
         clear HB
         have HO219 := n0_
         have HO225 := n1_
         have BK207 := n2_
         have HB := n3_
         clear n0_ n1_ n2_ n3_
         obtain ⟨Ao33, co33, eo33⟩ := Kd.R_slice HO225.out
         (first | subst eo33 | (injection eo33 with f1_ f2_ f3_; have f4_ := f1_.symm; have f5_ := f3_.symm; clear f1_ f2_ f3_; subst f4_; subst f5_))
         refine start_ (n := 10) (S := fun w' => w'.cell? ⟨gb207, 0, none⟩ = some (.slice A206_0 ((rd_T49 l0 x4_1).f0).length c206_0) ∧ w'.cell? ⟨gb207, 1, none⟩ = some (.slice A206_1 ((rd_T49 l0 x4_1).f1).length c206_1) ∧ w'.cell? ⟨gb207, 2, none⟩ = some (.bool false)) (ds := []) #[false, false, false, false, false, false, false, false, false, false] (by kernel_rfl) rfl rfl ⟨(blk_cell BK207.out 0).trans rfl, (blk_cell BK207.out 1).trans rfl, (blk_cell BK207.out 2).trans rfl⟩ (fun hHeld => ?_); refine with_tabW marigraphref4_Batch.tab9 marigraphref4_Batch.bits9 (fun HT_ HW_ => ?_)
         generalize w31.drew = w32 at HO219 HO225 BK207 HB hHeld ⊢
         refine pA 0 (some 42) (bA 10 1) HT_.out ?_
         refine pA 1 (some 43) (bA 10 3) HT_.out ?_
         refine pA 6 (some 48) (bA 10 67) HT_.out ?_
         refine take_ (i := 2) (N := some 44) (v := ?_) (a' := ?_) (bA 10 71) rfl rfl (take_ofW HT_.out HW_.out (by kernel_rfl)) (fun _ _ _ h => h) (Or.inl ⟨by rfl, ?_⟩) hHeld ?_ ?_
         rotate_left
         ·rintro w' ⟨s0, s1, s2⟩
          go_simp
          with_reducible rfl
         rotate_left
         ·simp only [Act.put, List.setIfInBounds_toArray, List.set_cons_zero, List.set_cons_succ, i64_w, i32_w]
          rfl
         refine pA 3 (some 45) (bA 10 79) HT_.out ?_
         refine pA 4 (some 46) (bA 10 95) HT_.out ?_
         refine take_ (i := 7) (N := some 49) (v := ?_) (a' := ?_) (bA 10 223) rfl rfl (take_ofW HT_.out HW_.out (by kernel_rfl)) (fun _ _ _ h => h) (Or.inl ⟨by rfl, ?_⟩) hHeld ?_ ?_
         rotate_left
         ·rintro w' ⟨s0, s1, s2⟩
          go_simp
          with_reducible rfl
         rotate_left
         ·simp only [Act.put, List.setIfInBounds_toArray, List.set_cons_zero, List.set_cons_succ, i64_w, i32_w]
          rfl
         refine one_ (i := 5) (N := some 47) (bA 10 255) rfl rfl (one_of HT_.out (by kernel_rfl)) (by decide) (fun K hK => ?_)
         refine goes_ Try.func41 (by kernel_rfl) rfl #[.slice Ao33 y223.length co33, .int .u64 (IntKind.u64.wrap ((((rd_T49 l0 x4_1).f1).length : Int))), .int .i64 2] (by rfl) rfl rfl argN ?_
         with_reducible refine (marigraphref2_Put.calls k1 _ _ y223 (IntKind.u64.wrap ((((rd_T49 l0 x4_1).f1).length : Int))) 2 t226 _ ?side1 ?side2 A21.out).mono ?_
         (case side1 => repeat (first | exact (Kd.R_reads' HO225.out).2.2 | (with_reducible refine Kd.C_alloc ?_ _) | (with_reducible refine Kd.C_drewN ?_ _) | (with_reducible refine Kd.C_drew ?_)))
         (case side2 => exact (Kd.R_reads' HO225.out).2.1)
         rintro e w34 ⟨v227, rfl, ho0, hb⟩
         refine ⟨_, rfl, ?_⟩
         have n0_ := Aside0.mk (Kd.R_elder' (rowN HO219.out) (Kd.R_base ho0) hb)
         have n1_ := Aside0.mk (Kd.R_elder' (rowN HO225.out) (Kd.R_base ho0) hb)
         have n2_ := Aside0.mk (Kd.R_lower (Kd.R_new' (Kd.R_new' ho0 (Kd.R_lt (rowN HO219.out))) (Kd.R_lt (rowN HO225.out))) (below_size (belS HB.out)))
         have n3_ := Aside0.mk (bkB BK207.out hb)
         have n4_ := Aside0.mk (below_step (belS HB.out) hb)
         clear HO219
         clear HO225
         clear BK207
         clear HB
         have HO219 := n0_
         have HO225 := n1_
         have HO228 := n2_
         have BK207 := n3_
         have HB := n4_
         clear n0_ n1_ n2_ n3_ n4_
         (try clear hb)
         (try clear hk)
         (try clear ho0)
         refine hK.out _ _ ⟨(blk_cell BK207.out 0).trans rfl, (blk_cell BK207.out 1).trans rfl, (blk_cell BK207.out 2).trans rfl⟩ (fun hHeld => ?_)
         clear hK K
         refine norm_ (a' := ?_) ?_ ?_
         rotate_left
         ·show Act.put _ (some 47) _ = _
          simp only [Act.put, List.setIfInBounds_toArray, List.set_cons_zero, List.set_cons_succ, i64_w, i32_w]
          rfl
         refine one_ (i := 8) (N := some 50) (bA 10 511) rfl rfl (one_of HT_.out (by kernel_rfl)) (by decide) (fun K hK => ?_)
         refine Kd.R_append_rows_step (Kd.int .u8) (w0 := w) w.heap.size (by rfl) (.tmp 47) (.tmp 49) 23 5 (.int .u8 0) 1 rfl Try.underlying23 info5 rfl (by decide) (by omega) v227 t226 ((rd_T49 l0 x4_1).f1) _ _ _ (fun k_ => some k_ ≠ (.slice Ao30 y217.length co30 : Value).ownBlock ∧ some k_ ≠ (.slice Ao33 y223.length co33 : Value).ownBlock) (fun _ => False) rfl rfl ?aO ?aR (fun _ _ h => h) (fun _ h => h.elim) ?aF ?aB ?aS ?aL ?_
         (case aR => repeat (first | exact (Kd.C_below HR206_1.out HB.out) | (with_reducible refine Kd.C_alloc ?_ _) | (with_reducible refine Kd.C_drewN ?_ _) | (with_reducible refine Kd.C_drew ?_)))
         (case aB => exact (belS HB.out))
         (case aF => exact (fun k_ hk => ⟨Kd.fresh' (Kd.R_lt (rowN HO219.out)) k_ hk, Kd.fresh' (Kd.R_lt (rowN HO225.out)) k_ hk⟩))
         (case aO => exact (by (with_reducible repeat (first | apply Kd.R_alloc | apply Kd.R_drewN | apply Kd.R_drew)); exact Kd.R_mono HO228.out (fun _ hk => ⟨hk.1.2, hk.2⟩)))
         (case aS => exact (below_size (belS HB.out)))
         (case aL => have := LMc22.out; omega)
         intro v230 w35 ho hb hg hat
         rw [← Ny229.out] at ho
         have n0_ := Aside0.mk (blk_grown (g := gb207) (o := .cells #[.slice A206_0 ((rd_T49 l0 x4_1).f0).length c206_0, .slice A206_1 ((rd_T49 l0 x4_1).f1).length c206_1, .bool false] 49 (0, 0)) (blkN BK207.out) hg (Kd.R_ne HO228.out BK207.out (by decide)))
         have n1_ := Aside0.mk (Kd.R_after (ok := (fun k_ => some k_ ≠ (.slice Ao33 y223.length co33 : Value).ownBlock)) (by (with_reducible repeat (first | apply Kd.R_alloc | apply Kd.R_drewN | apply Kd.R_drew)); exact Kd.R_mono HO219.out (fun _ hk => ⟨hk.1.2, hk.2⟩)) hg hat)
         have n2_ := Aside0.mk (Kd.R_after (ok := (fun k_ => some k_ ≠ (.slice Ao30 y217.length co30 : Value).ownBlock)) (rowN HO225.out) hg hat)
         have n3_ := Aside0.mk (hb)
         have n4_ := Aside0.mk (ho)
         clear BK207
         clear HO219
         clear HO225
         clear HB
         clear HO228
         have BK207 := n0_
         have HO219 := n1_
         have HO225 := n2_
         have HB := n3_
         have HO231 := n4_
         clear n0_ n1_ n2_ n3_ n4_
         clear ho hb hg hat
         refine hK.out _ _ ⟨(blk_cell BK207.out 0).trans rfl, (blk_cell BK207.out 1).trans rfl, (blk_cell BK207.out 2).trans rfl⟩ (fun hHeld => ?_)
         clear hK K
         refine norm_ (a' := ?_) ?_ ?_
         rotate_left
         ·show Act.put _ (some 50) _ = _
          simp only [Act.put, List.setIfInBounds_toArray, List.set_cons_zero, List.set_cons_succ, i64_w, i32_w]
          rfl
         refine pA 9 (some 3) (bA 10 1023) HT_.out ?_
         refine done_ (done_of HT_.out (by kernel_rfl)) ?_
         try go_wp2
         go_roundg k1
         case measure => have := HK1.out; omega
         case rel => exact ⟨(y229), (wrap64 (x4_1 + 1)), (by first | rfl | (simp; done) | (simp [*]; done)), H', ⟨by have := HK1.out; omega⟩, ⟨by (with_reducible repeat (first | apply Kd.R_alloc | apply Kd.R_drewN | apply Kd.R_drew)); exact Kd.R_mono HO231.out (fun _ hk => trivial)⟩, ⟨(belS HB.out)⟩⟩
        ·rw [if_neg c22] at H
         exact absurd H (by simp)
       ·rw [if_neg c20] at H
        exact absurd H (by simp)
      ·rw [if_neg c19] at H
       exact absurd H (by simp)
    ·rw [if_neg c5] at H
     exact absurd H (by simp)
   ·rw [if_neg c4] at H
    have c4b0 : decide (x4_1 < (l0.length : Int)) = false := decide_eq_false c4
    clear c4
    obtain rfl := Option.some.inj H
    go_wp2
    go_ret
    exact ⟨_, by first | rfl | (simp [errW_none, errW_some] <;> rfl) | (simp [*, errW_none, errW_some] <;> rfl), (rowN HO_3.out), (belN HB.out)⟩

end Go.Proofs.Ytmimfnangdabmaa.PFrameBatches
